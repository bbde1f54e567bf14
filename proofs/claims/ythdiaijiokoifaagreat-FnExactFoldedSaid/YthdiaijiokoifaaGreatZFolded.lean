/- The statement FnExactFolded: the walk and the row. -/
import Derived.Test.YthdiaijiokoifaaGreatGk
import Derived.Deep.DeepCutAuto
import Derived.Test.YthdiaijiokoifaaGreatGb
import Derived.Test.YthdiaijiokoifaaGreatGc
-- Folded of the program.
set_option linter.unusedSimpArgs false
set_option linter.unusedVariables false
namespace Go.Proofs.YthdiaijiokoifaaGreat
open Go.RowKit Go.G8

end Go.Proofs.YthdiaijiokoifaaGreat
namespace Go.G8
open Go.RowKit
open Go.Proofs.YthdiaijiokoifaaGreat
theorem OwnI.box7 {B : Nat} {e : TypeId} {n : Nat} {w : World} {v : Value} {xs : List Int} (h : OwnI B e n w v xs) {X : Nat} {t : TypeId} {a : Array Value} (hX : Blk w X t a) (h1 : t ≠ e) (u0 u1 u2 u3 u4 u5 u6 : Value) :
    OwnI B e n (((((((w.setCell ⟨X, 0, none⟩ u0).setCell ⟨X, 1, none⟩ u1).setCell ⟨X, 2, none⟩ u2).setCell ⟨X, 3, none⟩ u3).setCell ⟨X, 4, none⟩ u4).setCell ⟨X, 5, none⟩ u5).setCell ⟨X, 6, none⟩ u6) v xs :=
  ((((((h.boxI hX h1 0 u0).boxI (hX.set_ _ _) h1 1 u1).boxI ((hX.set_ _ _).set_ _ _) h1 2 u2).boxI (((hX.set_ _ _).set_ _ _).set_ _ _) h1 3 u3).boxI ((((hX.set_ _ _).set_ _ _).set_ _ _).set_ _ _) h1 4 u4).boxI (((((hX.set_ _ _).set_ _ _).set_ _ _).set_ _ _).set_ _ _) h1 5 u5).boxI ((((((hX.set_ _ _).set_ _ _).set_ _ _).set_ _ _).set_ _ _).set_ _ _) h1 6 u6
theorem Blk.box7 {w : World} {X : Nat} {t : TypeId} {x0 x1 x2 x3 x4 x5 x6 : Value} (hX : Blk w X t #[x0, x1, x2, x3, x4, x5, x6]) (u0 u1 u2 u3 u4 u5 u6 : Value) :
    Blk (((((((w.setCell ⟨X, 0, none⟩ u0).setCell ⟨X, 1, none⟩ u1).setCell ⟨X, 2, none⟩ u2).setCell ⟨X, 3, none⟩ u3).setCell ⟨X, 4, none⟩ u4).setCell ⟨X, 5, none⟩ u5).setCell ⟨X, 6, none⟩ u6) X t #[u0, u1, u2, u3, u4, u5, u6] := by
  have := ((((((hX.set_ 0 u0).set_ 1 u1).set_ 2 u2).set_ 3 u3).set_ 4 u4).set_ 5 u5).set_ 6 u6
  simpa using this
theorem Blk.far7 {w : World} {X g : Nat} {t : TypeId} {cs : Array Value} (h : Blk w g t cs) (hn : g ≠ X) (u0 u1 u2 u3 u4 u5 u6 : Value) :
    Blk (((((((w.setCell ⟨X, 0, none⟩ u0).setCell ⟨X, 1, none⟩ u1).setCell ⟨X, 2, none⟩ u2).setCell ⟨X, 3, none⟩ u3).setCell ⟨X, 4, none⟩ u4).setCell ⟨X, 5, none⟩ u5).setCell ⟨X, 6, none⟩ u6) g t cs :=
  ((((((h.far (p := ⟨X, 0, none⟩) hn u0).far (p := ⟨X, 1, none⟩) hn u1).far (p := ⟨X, 2, none⟩) hn u2).far (p := ⟨X, 3, none⟩) hn u3).far (p := ⟨X, 4, none⟩) hn u4).far (p := ⟨X, 5, none⟩) hn u5).far (p := ⟨X, 6, none⟩) hn u6
theorem foldS_app (a b : List DEntry) : ∀ s : DState, foldS s (a ++ b) = if (foldS s a).2 = true then foldS (foldS s a).1 b else foldS s a := by
  induction a with
  | nil => intro s; simp [foldS]
  | cons e a ih =>
    intro s
    simp only [List.cons_append, foldS]
    split
    · exact ih _
    · rfl
theorem foldS_ok (a : List DEntry) : ∀ s : DState, stateOk s = true → stateOk (foldS s a).1 = true := by
  induction a with
  | nil => intro s h; exact h
  | cons e a ih =>
    intro s h
    simp only [foldS]
    split
    · rename_i hn; exact ih _ (stepS_ok h hn)
    · exact h
theorem foldS_next {s m : DState} {l : List DEntry} {k : Nat} {e : DEntry} (h : foldS s (l.take k) = (m, true)) (he : l[k]? = some e) (hn : nextIn m e = true) : foldS s (l.take (k + 1)) = (stepS m e, true) := by
  rw [List.take_add_one, he, Option.toList_some, foldS_app, h]
  simp [foldS, hn]
theorem foldS_stop {s m : DState} {l : List DEntry} {k : Nat} {e : DEntry} (h : foldS s (l.take k) = (m, true)) (he : l[k]? = some e) (hn : nextIn m e = false) : foldS s l = (m, false) := by
  have hk := (List.getElem?_eq_some_iff.1 he).1
  conv => lhs; rw [← List.take_append_drop k l]
  have hd : l.drop k = e :: l.drop (k + 1) := by
    rw [List.drop_eq_getElem_cons hk, (List.getElem?_eq_some_iff.1 he).2]
  rw [foldS_app, h, hd]
  simp [foldS, hn]
/-- What Folded hands back. -/
noncomputable def fldOk (s : DState) (l : List DEntry) : Bool := stateOk s && (decide (l.length ≤ 2000) && (foldS s l).2)
noncomputable def fldD (s : DState) (l : List DEntry) : DState := if stateOk s && decide (l.length ≤ 2000) then (foldS s l).1 else ⟨0, 0, [], [], ⟨0, 0, 0⟩⟩
theorem fld_no {s : DState} {l : List DEntry} (h : stateOk s = false ∨ ¬ l.length ≤ 2000) : fldOk s l = false ∧ fldD s l = ⟨0, 0, [], [], ⟨0, 0, 0⟩⟩ := by
  rcases h with h | h
  · simp [fldOk, fldD, h]
  · simp [fldOk, fldD, h]
theorem fld_yes {s m : DState} {l : List DEntry} {b : Bool} (h : stateOk s = true) (h1 : l.length ≤ 2000) (h2 : foldS s l = (m, b)) : fldOk s l = b ∧ fldD s l = m := by
  simp [fldOk, fldD, h, h1, h2]
theorem fldD_small (s : DState) (l : List DEntry) : stateSmall (fldD s l) := by
  unfold fldD
  split
  · rename_i h
    rw [Bool.and_eq_true] at h
    exact stateOk_small2 (foldS_ok l s h.1)
  · exact ⟨by simp, by simp⟩
end Go.G8
namespace Go.Proofs.YthdiaijiokoifaaGreat
open Go.RowKit Go.G8
set_option maxHeartbeats 4000000 in
set_option maxRecDepth 100000 in
theorem folded_k {w : World} {v u : Value} {s : DState} {l : List DEntry} (h : RdState w v s) (hl : Ints 9 w u (flEntry l)) :
    Calls Tryz.prog 13 #[v, u] w (Ret w fun r w' => ∃ x, r = .tuple #[x, .bool (fldOk s l)] ∧ IsState w.heap.size w' x (fldD s l)) := by
  have HS := Lib.hid h
  obtain ⟨a2, n2, k2, a3, n3, k3, rfl⟩ := h.shape
  obtain ⟨a, cap, rfl, hcap, hm, ha⟩ := hl.recs (f := DEntry.ints) (fun _ => rfl) (by decide)
  have HA := Lib.hid ha
  clear h hl ha
  unfold maxLen at hm
  obtain ⟨W1, hW1⟩ : ∃ W1, W1 = (w.alloc (.cells #[.int .i64 s.Index, .int .i64 s.Time, .slice a2 n2 k2, .slice a3 n3 k3, .int .i64 s.Lease.Holder, .int .i64 s.Lease.Epoch, .int .i64 s.Lease.Until] 35)).alloc (.cells #[.int .i64 0, .int .i64 0, .slice none 0 0, .slice none 0 0, .int .i64 0, .int .i64 0, .int .i64 0] 35) := ⟨_, rfl⟩
  have E1 : Ext w W1 := by rw [hW1]; exact ((Ext.refl _).alloc _).alloc _
  have KS1 : Blk W1 w.heap.size 35 #[.int .i64 s.Index, .int .i64 s.Time, .slice a2 n2 k2, .slice a3 n3 k3, .int .i64 s.Lease.Holder, .int .i64 s.Lease.Epoch, .int .i64 s.Lease.Until] := by rw [hW1]; exact (Blk.new _ _ _).alloc _
  have KR1 : Blk W1 (w.heap.size + 1) 35 #[.int .i64 0, .int .i64 0, .slice none 0 0, .slice none 0 0, .int .i64 0, .int .i64 0, .int .i64 0] := by rw [hW1]; exact Blk.new2 _ _ _ _
  have hz1' : w.heap.size + 1 < W1.heap.size := by rw [hW1]; simp
  have HW1 := Lib.hid hW1
  clear hW1
  go_enter Tryz.func13, Tryz.ntmps13
  go_wp2_with fail
  rw [← HW1.out]
  have CS1 := KS1.cell; have FS1 := KS1.frozen; have LS1 := KS1.lt; have CR1 := KR1.cell; have FR1 := KR1.frozen; have LR1 := KR1.lt
  go_wp2_with fail
  refine (stateOk_k (HS.out.ext E1)).mono ?_
  rintro e9 w2 ⟨rfl, hx2⟩
  have E2 : Ext w w2 := E1.trans hx2
  have hz2 := hx2.size
  have KS2 := KS1.ext hx2; have KR2 := KR1.ext hx2
  clear CS1 FS1 LS1 CR1 FR1 LR1
  have CS2 := KS2.cell; have FS2 := KS2.frozen; have LS2 := KS2.lt; have CR2 := KR2.cell; have FR2 := KR2.frozen; have LR2 := KR2.lt
  cases hso : stateOk s
  · obtain ⟨e1, e2⟩ := fld_no (l := l) (.inl hso)
    have HA1 := Lib.hid e1; have HA2 := Lib.hid e2
    clear e1 e2
    go_wp2_with fail
    refine bodyPost_ret (by simp [results, Tryz.results13, go_sem, CR2, FR2, LR2]; try rfl) rfl ?_
    refine ⟨_, rfl, by repeat' (first | (with_reducible exact Ext.refl _) | (with_reducible assumption) | (with_reducible refine Ext.drewN ?_ _) | (with_reducible refine Ext.drew ?_) | (with_reducible refine Ext.alloc ?_ _) | (with_reducible refine Ext.setCell ?_ ?_ _) | (with_reducible refine Ext.setRow ?_ ?_ _) | (with_reducible exact Nat.le_refl _) | (with_reducible refine Ext.trans ?_ (by assumption)) | omega), _, by (rw [HA1.out]; try rfl), ?_⟩
    rw [HA2.out]
    exact ⟨_, _, rfl, OwnI.nil _ _ _ _, OwnI.nil _ _ _ _⟩
  have HSO := Lib.hid hso
  clear hso
  by_cases hln : l.length ≤ 2000
  rotate_left
  · obtain ⟨e1, e2⟩ := fld_no (s := s) (.inr hln)
    have HA1 := Lib.hid e1; have HA2 := Lib.hid e2
    clear e1 e2
    go_wp2_with fail
    refine bodyPost_ret (by simp [results, Tryz.results13, go_sem, CR2, FR2, LR2]; try rfl) rfl ?_
    refine ⟨_, rfl, by repeat' (first | (with_reducible exact Ext.refl _) | (with_reducible assumption) | (with_reducible refine Ext.drewN ?_ _) | (with_reducible refine Ext.drew ?_) | (with_reducible refine Ext.alloc ?_ _) | (with_reducible refine Ext.setCell ?_ ?_ _) | (with_reducible refine Ext.setRow ?_ ?_ _) | (with_reducible exact Nat.le_refl _) | (with_reducible refine Ext.trans ?_ (by assumption)) | omega), _, by (rw [HA1.out]; try rfl), ?_⟩
    rw [HA2.out]
    exact ⟨_, _, rfl, OwnI.nil _ _ _ _, OwnI.nil _ _ _ _⟩
  go_wp2_with fail
  refine (copyState_k (HS.out.ext E2) (stateOk_small2 HSO.out)).mono ?_
  rintro e9 w3 ⟨_, rfl, hx3, p2, p3, rfl, g2, g3⟩
  obtain ⟨c2, m4, j4, rfl⟩ := g2.shape
  obtain ⟨c3, m5, j5, rfl⟩ := g3.shape
  have hz3 := hx3.size
  obtain ⟨w4, hW4⟩ : ∃ w4, w4 = w3.alloc (.cells #[.int .i64 s.Index, .int .i64 s.Time, .slice c2 m4 j4, .slice c3 m5 j5, .int .i64 s.Lease.Holder, .int .i64 s.Lease.Epoch, .int .i64 s.Lease.Until] 35) := ⟨_, rfl⟩
  have X4 : Ext w2 w4 := by rw [hW4]; exact hx3.alloc _
  have KO4 : Blk w4 w3.heap.size 35 #[.int .i64 s.Index, .int .i64 s.Time, .slice c2 m4 j4, .slice c3 m5 j5, .int .i64 s.Lease.Holder, .int .i64 s.Lease.Epoch, .int .i64 s.Lease.Until] := by rw [hW4]; exact Blk.new _ _ _
  have hz4 : w4.heap.size = w3.heap.size + 1 := by rw [hW4]; simp
  have g2 : OwnI w.heap.size 139 2 w4 (.slice c2 m4 j4) (flPair s.Pairs) := by rw [hW4]; exact OwnI.mono (OwnI.keep g2 ((Chg.refl _ _).alloc _)) (by omega)
  have g3 : OwnI w.heap.size 123 5 w4 (.slice c3 m5 j5) (flJob s.Jobs) := by rw [hW4]; exact OwnI.mono (OwnI.keep g3 ((Chg.refl _ _).alloc _)) (by omega)
  have HW4 := Lib.hid hW4
  have E4 : Ext w w4 := E2.trans X4
  have HZ4 := Lib.hid hz4
  clear hW4 hz4 CS2 FS2 LS2 CR2 FR2 LR2
  have hxo : w.heap.size + 1 < w3.heap.size := by omega
  obtain ⟨X, hX⟩ : ∃ X, X = w3.heap.size := ⟨_, rfl⟩
  rw [← hX] at KO4 hxo
  have HX := Lib.hid hX
  clear hX
  have KR4 := KR2.ext X4
  go_wp2_with fail
  rw [← HW4.out, ← HX.out]
  go_loopw [22] (fun ii wr => ∃ (k : Nat) (m : DState) (b2 : Option Addr) (q2 o2 : Nat) (b3 : Option Addr) (q3 o3 : Nat), k ≤ l.length ∧ ii = .int .i64 k ∧ Ext w wr ∧ Blk wr X 35 #[.int .i64 m.Index, .int .i64 m.Time, .slice b2 q2 o2, .slice b3 q3 o3, .int .i64 m.Lease.Holder, .int .i64 m.Lease.Epoch, .int .i64 m.Lease.Until] ∧ Blk wr (w.heap.size + 1) 35 #[.int .i64 0, .int .i64 0, .slice none 0 0, .slice none 0 0, .int .i64 0, .int .i64 0, .int .i64 0] ∧ OwnI w.heap.size 139 2 wr (.slice b2 q2 o2) (flPair m.Pairs) ∧ OwnI w.heap.size 123 5 wr (.slice b3 q3 o3) (flJob m.Jobs) ∧ Hid (foldS s (l.take k) = (m, true)) ∧ Hid (stateOk m = true)) (fun ii _ => l.length - (intOf ii).toNat)
  case atStart => exact ⟨0, s, c2, m4, j4, c3, m5, j5, Nat.zero_le _, rfl, E4, KO4, KR4, g2, g3, Lib.hid rfl, HSO⟩
  case round =>
    obtain ⟨k, m, b2, q2, o2, b3, q3, o3, hk, rfl, he, KX, KR, P0, J0, hf, hmo⟩ := hrel
    have hzr := he.size
    have hRD : RdState wr (.agg #[.int .i64 m.Index, .int .i64 m.Time, .slice b2 q2 o2, .slice b3 q3 o3, .int .i64 m.Lease.Holder, .int .i64 m.Lease.Epoch, .int .i64 m.Lease.Until]) m := ⟨_, _, rfl, P0.ints, J0.ints⟩
    have HRD := Lib.hid hRD
    clear hRD
    have hxl := KX.lt

    by_cases hlt : k < l.length
    · obtain ⟨d, b1, o1, hd, rfl, hb1, c⟩ := HA.out k hlt
      have d0 := he.cell (c 0 _ (by decide) rfl)
      have d1 := he.cell (c 1 _ (by decide) rfl)
      have d2 := he.cell (c 2 _ (by decide) rfl)
      have d3 := he.cell (c 3 _ (by decide) rfl)
      have d4 := he.cell (c 4 _ (by decide) rfl)
      have d5 := he.cell (c 5 _ (by decide) rfl)
      have d6 := he.cell (c 6 _ (by decide) rfl)
      have d7 := he.cell (c 7 _ (by decide) rfl)
      have d8 := he.cell (c 8 _ (by decide) rfl)
      simp only [Nat.add_zero] at d0
      have HD := Lib.hid hd
      clear c hd

      obtain ⟨w5, hW5⟩ : ∃ w5, w5 = wr.alloc (.cells #[.int .i64 d.Index, .int .i64 d.Time, .int .i64 d.Client, .int .i64 d.Seq, .int .i64 d.Op.Kind, .int .i64 d.Op.A, .int .i64 d.Op.B, .int .i64 d.Op.C, .int .i64 d.Op.D] 83) := ⟨_, rfl⟩
      have X5 : Ext wr w5 := by rw [hW5]; exact (Ext.refl _).alloc _
      have KE5 : Blk w5 wr.heap.size 83 #[.int .i64 d.Index, .int .i64 d.Time, .int .i64 d.Client, .int .i64 d.Seq, .int .i64 d.Op.Kind, .int .i64 d.Op.A, .int .i64 d.Op.B, .int .i64 d.Op.C, .int .i64 d.Op.D] := by rw [hW5]; exact Blk.new _ _ _
      have KX5 := KX.ext X5; have KR5 := KR.ext X5
      have HW5 := Lib.hid hW5
      have hz5 : w5.heap.size = wr.heap.size + 1 := by rw [hW5]; simp
      have HZ5 := Lib.hid hz5
      have hz5' : wr.heap.size < w5.heap.size := by omega
      clear hW5 hz5
      have CX := KX.cell; have LX := KX.lt
      go_wp2_with fail
      rw [← HW5.out]
      clear CX LX d0 d1 d2 d3 d4 d5 d6 d7 d8
      have CX5 := KX5.cell; have FX5 := KX5.frozen; have LX5 := KX5.lt; have CE5 := KE5.cell; have FE5 := KE5.frozen; have LE5 := KE5.lt; have CR5 := KR5.cell; have FR5 := KR5.frozen; have LR5 := KR5.lt
      have hmi := stateOk_parts hmo.out
      refine (nextIn_k (HRD.out.ext X5) d.Index d.Time d.Client d.Seq d.Op.Kind d.Op.A d.Op.B d.Op.C d.Op.D hmi.1 hmi.2.1).mono ?_
      rintro e9 w6 ⟨rfl, hx6⟩
      clear hmi
      have X6 := X5.trans hx6
      have hz6 := hx6.size
      have KX6 := KX5.ext hx6; have KE6 := KE5.ext hx6; have KR6 := KR5.ext hx6
      clear CX5 FX5 LX5 CE5 FE5 LE5 CR5 FR5 LR5
      have CX6 := KX6.cell; have FX6 := KX6.frozen; have LX6 := KX6.lt; have CE6 := KE6.cell; have FE6 := KE6.frozen; have LE6 := KE6.lt; have CR6 := KR6.cell; have FR6 := KR6.frozen; have LR6 := KR6.lt
      have hdd : (⟨d.Index, d.Time, d.Client, d.Seq, ⟨d.Op.Kind, d.Op.A, d.Op.B, d.Op.C, d.Op.D⟩⟩ : DEntry) = d := rfl
      rw [hdd]
      clear hdd
      cases hn : nextIn m d
      · obtain ⟨e1, e2⟩ := fld_yes HSO.out hln (foldS_stop hf.out HD.out hn)
        have HA1 := Lib.hid e1; have HA2 := Lib.hid e2
        have E6 := he.trans X6
        clear e1 e2
        go_wp2_with fail
        refine bodyPost_ret (by simp [results, Tryz.results13, go_sem, CR6, FR6, LR6]; try rfl) rfl ?_
        refine ⟨_, rfl, by repeat' (first | (with_reducible exact Ext.refl _) | (with_reducible assumption) | (with_reducible refine Ext.drewN ?_ _) | (with_reducible refine Ext.drew ?_) | (with_reducible refine Ext.alloc ?_ _) | (with_reducible refine Ext.setCell ?_ ?_ _) | (with_reducible refine Ext.setRow ?_ ?_ _) | (with_reducible exact Nat.le_refl _) | (with_reducible refine Ext.trans ?_ (by assumption)) | omega), _, by (rw [HA1.out]; try rfl), ?_⟩
        rw [HA2.out]
        exact ⟨_, _, rfl, ((OwnI.ext P0 X6).box7 KR6 (by decide) _ _ _ _ _ _ _), ((OwnI.ext J0 X6).box7 KR6 (by decide) _ _ _ _ _ _ _)⟩

      have HN := Lib.hid hn
      clear hn
      go_wp2_with fail
      refine (applied_k (HRD.out.ext X6) d.Index d.Time d.Client d.Seq d.Op.Kind d.Op.A d.Op.B d.Op.C d.Op.D hmo.out HN.out).mono ?_
      rintro e9 w7 ⟨_, rfl, hx7, u9, rfl, p2, p3, rfl, gp, gj⟩
      obtain ⟨v2, vn2, vc2, rfl⟩ := gp.shape
      obtain ⟨v3, vn3, vc3, rfl⟩ := gj.shape
      have hdd : (⟨d.Index, d.Time, d.Client, d.Seq, ⟨d.Op.Kind, d.Op.A, d.Op.B, d.Op.C, d.Op.D⟩⟩ : DEntry) = d := rfl
      rw [hdd]
      rw [hdd] at gp gj
      clear hdd
      have KX7 := KX6.ext hx7; have KR7 := KR6.ext hx7
      have hz7 := hx7.size
      have E7 := he.trans (X6.trans hx7)
      clear CX6 FX6 LX6 CE6 FE6 LE6 CR6 FR6 LR6
      have CX7 := KX7.cell; have FX7 := KX7.frozen; have LX7 := KX7.lt
      go_wp2_with fail
      go_roundw
      case rel =>
        refine ⟨k + 1, stepS m d, v2, vn2, vc2, v3, vn3, vc3, by omega, by go_num, by repeat' (first | (with_reducible exact Ext.refl _) | (with_reducible assumption) | (with_reducible refine Ext.drewN ?_ _) | (with_reducible refine Ext.drew ?_) | (with_reducible refine Ext.alloc ?_ _) | (with_reducible refine Ext.setCell ?_ ?_ _) | (with_reducible refine Ext.setRow ?_ ?_ _) | (with_reducible exact Nat.le_refl _) | (with_reducible refine Ext.trans ?_ (by assumption)) | omega), KX7.box7 _ _ _ _ _ _ _, KR7.far7 (by omega) _ _ _ _ _ _ _, ?_, ?_, Lib.hid (foldS_next hf.out HD.out HN.out), Lib.hid (stepS_ok hmo.out HN.out)⟩
        · exact (gp.mono (by omega)).box7 KX7 (by decide) _ _ _ _ _ _ _
        · exact (gj.mono (by omega)).box7 KX7 (by decide) _ _ _ _ _ _ _
      case measure => simp [intOf]; omega
    · obtain rfl : k = l.length := by omega
      have hff := hf.out
      rw [List.take_length] at hff
      obtain ⟨e1, e2⟩ := fld_yes HSO.out hln hff
      have HA1 := Lib.hid e1; have HA2 := Lib.hid e2
      clear e1 e2 hff
      have CX := KX.cell; have FX := KX.frozen; have LX := KX.lt; have CR := KR.cell; have FR := KR.frozen; have LR := KR.lt
      go_wp2_with fail
      refine bodyPost_ret (by simp [results, Tryz.results13, go_sem, CR, FR, LR]; try rfl) rfl ?_
      refine ⟨_, rfl, by repeat' (first | (with_reducible exact Ext.refl _) | (with_reducible assumption) | (with_reducible refine Ext.drewN ?_ _) | (with_reducible refine Ext.drew ?_) | (with_reducible refine Ext.alloc ?_ _) | (with_reducible refine Ext.setCell ?_ ?_ _) | (with_reducible refine Ext.setRow ?_ ?_ _) | (with_reducible exact Nat.le_refl _) | (with_reducible refine Ext.trans ?_ (by assumption)) | omega), _, by (rw [HA1.out]; try rfl), ?_⟩
      rw [HA2.out]
      exact ⟨_, _, rfl, (P0.box7 KR (by decide) _ _ _ _ _ _ _), (J0.box7 KR (by decide) _ _ _ _ _ _ _)⟩


end Go.Proofs.YthdiaijiokoifaaGreat

-- Folded of the reference.
set_option linter.unusedSimpArgs false
set_option linter.unusedVariables false
namespace Go.Proofs.YthdiaijiokoifaaGreat
open Go.RowKit Go.G8

set_option maxHeartbeats 4000000 in
set_option maxRecDepth 100000 in
theorem sFolded_k {w : World} {v u : Value} {s : DState} {l : List DEntry} (h : RdState w v s) (hl : Ints 9 w u (flEntry l)) :
    Calls Tryz.prog 10 #[v, u] w (Ret w fun r w' => ∃ x, r = .tuple #[x, .bool (fldOk s l)] ∧ IsState w.heap.size w' x (fldD s l)) := by
  have HS := Lib.hid h
  obtain ⟨a2, n2, k2, a3, n3, k3, rfl⟩ := h.shape
  obtain ⟨a, cap, rfl, hcap, hm, ha⟩ := hl.recs (f := DEntry.ints) (fun _ => rfl) (by decide)
  have HA := Lib.hid ha
  clear h hl ha
  unfold maxLen at hm
  obtain ⟨W1, hW1⟩ : ∃ W1, W1 = (w.alloc (.cells #[.int .i64 s.Index, .int .i64 s.Time, .slice a2 n2 k2, .slice a3 n3 k3, .int .i64 s.Lease.Holder, .int .i64 s.Lease.Epoch, .int .i64 s.Lease.Until] 35)).alloc (.cells #[.int .i64 0, .int .i64 0, .slice none 0 0, .slice none 0 0, .int .i64 0, .int .i64 0, .int .i64 0] 35) := ⟨_, rfl⟩
  have E1 : Ext w W1 := by rw [hW1]; exact ((Ext.refl _).alloc _).alloc _
  have KS1 : Blk W1 w.heap.size 35 #[.int .i64 s.Index, .int .i64 s.Time, .slice a2 n2 k2, .slice a3 n3 k3, .int .i64 s.Lease.Holder, .int .i64 s.Lease.Epoch, .int .i64 s.Lease.Until] := by rw [hW1]; exact (Blk.new _ _ _).alloc _
  have KR1 : Blk W1 (w.heap.size + 1) 35 #[.int .i64 0, .int .i64 0, .slice none 0 0, .slice none 0 0, .int .i64 0, .int .i64 0, .int .i64 0] := by rw [hW1]; exact Blk.new2 _ _ _ _
  have hz1' : w.heap.size + 1 < W1.heap.size := by rw [hW1]; simp
  have HW1 := Lib.hid hW1
  clear hW1
  go_enter Tryz.func10, Tryz.ntmps10
  go_wp2_with fail
  rw [← HW1.out]
  have CS1 := KS1.cell; have FS1 := KS1.frozen; have LS1 := KS1.lt; have CR1 := KR1.cell; have FR1 := KR1.frozen; have LR1 := KR1.lt
  go_wp2_with fail
  refine (sStateOk_k (HS.out.ext E1)).mono ?_
  rintro e9 w2 ⟨rfl, hx2⟩
  have E2 : Ext w w2 := E1.trans hx2
  have hz2 := hx2.size
  have KS2 := KS1.ext hx2; have KR2 := KR1.ext hx2
  clear CS1 FS1 LS1 CR1 FR1 LR1
  have CS2 := KS2.cell; have FS2 := KS2.frozen; have LS2 := KS2.lt; have CR2 := KR2.cell; have FR2 := KR2.frozen; have LR2 := KR2.lt
  cases hso : stateOk s
  · obtain ⟨e1, e2⟩ := fld_no (l := l) (.inl hso)
    have HA1 := Lib.hid e1; have HA2 := Lib.hid e2
    clear e1 e2
    go_wp2_with fail
    refine bodyPost_ret (by simp [results, Tryz.results10, go_sem, CR2, FR2, LR2]; try rfl) rfl ?_
    refine ⟨_, rfl, by repeat' (first | (with_reducible exact Ext.refl _) | (with_reducible assumption) | (with_reducible refine Ext.drewN ?_ _) | (with_reducible refine Ext.drew ?_) | (with_reducible refine Ext.alloc ?_ _) | (with_reducible refine Ext.setCell ?_ ?_ _) | (with_reducible refine Ext.setRow ?_ ?_ _) | (with_reducible exact Nat.le_refl _) | (with_reducible refine Ext.trans ?_ (by assumption)) | omega), _, by (rw [HA1.out]; try rfl), ?_⟩
    rw [HA2.out]
    exact ⟨_, _, rfl, OwnI.nil _ _ _ _, OwnI.nil _ _ _ _⟩
  have HSO := Lib.hid hso
  clear hso
  by_cases hln : l.length ≤ 2000
  rotate_left
  · obtain ⟨e1, e2⟩ := fld_no (s := s) (.inr hln)
    have HA1 := Lib.hid e1; have HA2 := Lib.hid e2
    clear e1 e2
    go_wp2_with fail
    refine bodyPost_ret (by simp [results, Tryz.results10, go_sem, CR2, FR2, LR2]; try rfl) rfl ?_
    refine ⟨_, rfl, by repeat' (first | (with_reducible exact Ext.refl _) | (with_reducible assumption) | (with_reducible refine Ext.drewN ?_ _) | (with_reducible refine Ext.drew ?_) | (with_reducible refine Ext.alloc ?_ _) | (with_reducible refine Ext.setCell ?_ ?_ _) | (with_reducible refine Ext.setRow ?_ ?_ _) | (with_reducible exact Nat.le_refl _) | (with_reducible refine Ext.trans ?_ (by assumption)) | omega), _, by (rw [HA1.out]; try rfl), ?_⟩
    rw [HA2.out]
    exact ⟨_, _, rfl, OwnI.nil _ _ _ _, OwnI.nil _ _ _ _⟩
  go_wp2_with fail
  refine (l17Copy_k (HS.out.ext E2) (stateOk_small2 HSO.out)).mono ?_
  rintro e9 w3 ⟨_, rfl, hx3, p2, p3, rfl, g2, g3⟩
  obtain ⟨c2, m4, j4, rfl⟩ := g2.shape
  obtain ⟨c3, m5, j5, rfl⟩ := g3.shape
  have hz3 := hx3.size
  obtain ⟨w4, hW4⟩ : ∃ w4, w4 = w3.alloc (.cells #[.int .i64 s.Index, .int .i64 s.Time, .slice c2 m4 j4, .slice c3 m5 j5, .int .i64 s.Lease.Holder, .int .i64 s.Lease.Epoch, .int .i64 s.Lease.Until] 35) := ⟨_, rfl⟩
  have X4 : Ext w2 w4 := by rw [hW4]; exact hx3.alloc _
  have KO4 : Blk w4 w3.heap.size 35 #[.int .i64 s.Index, .int .i64 s.Time, .slice c2 m4 j4, .slice c3 m5 j5, .int .i64 s.Lease.Holder, .int .i64 s.Lease.Epoch, .int .i64 s.Lease.Until] := by rw [hW4]; exact Blk.new _ _ _
  have hz4 : w4.heap.size = w3.heap.size + 1 := by rw [hW4]; simp
  have g2 : OwnI w.heap.size 139 2 w4 (.slice c2 m4 j4) (flPair s.Pairs) := by rw [hW4]; exact OwnI.mono (OwnI.keep g2 ((Chg.refl _ _).alloc _)) (by omega)
  have g3 : OwnI w.heap.size 123 5 w4 (.slice c3 m5 j5) (flJob s.Jobs) := by rw [hW4]; exact OwnI.mono (OwnI.keep g3 ((Chg.refl _ _).alloc _)) (by omega)
  have HW4 := Lib.hid hW4
  have E4 : Ext w w4 := E2.trans X4
  have HZ4 := Lib.hid hz4
  clear hW4 hz4 CS2 FS2 LS2 CR2 FR2 LR2
  have hxo : w.heap.size + 1 < w3.heap.size := by omega
  obtain ⟨X, hX⟩ : ∃ X, X = w3.heap.size := ⟨_, rfl⟩
  rw [← hX] at KO4 hxo
  have HX := Lib.hid hX
  clear hX
  have KR4 := KR2.ext X4
  go_wp2_with fail
  rw [← HW4.out, ← HX.out]
  go_loopw [7] (fun ii wr => ∃ (k : Nat) (m : DState) (b2 : Option Addr) (q2 o2 : Nat) (b3 : Option Addr) (q3 o3 : Nat), k ≤ l.length ∧ ii = .int .i64 k ∧ Ext w wr ∧ Blk wr X 35 #[.int .i64 m.Index, .int .i64 m.Time, .slice b2 q2 o2, .slice b3 q3 o3, .int .i64 m.Lease.Holder, .int .i64 m.Lease.Epoch, .int .i64 m.Lease.Until] ∧ Blk wr (w.heap.size + 1) 35 #[.int .i64 0, .int .i64 0, .slice none 0 0, .slice none 0 0, .int .i64 0, .int .i64 0, .int .i64 0] ∧ OwnI w.heap.size 139 2 wr (.slice b2 q2 o2) (flPair m.Pairs) ∧ OwnI w.heap.size 123 5 wr (.slice b3 q3 o3) (flJob m.Jobs) ∧ Hid (foldS s (l.take k) = (m, true)) ∧ Hid (stateOk m = true)) (fun ii _ => l.length - (intOf ii).toNat)
  case atStart => exact ⟨0, s, c2, m4, j4, c3, m5, j5, Nat.zero_le _, rfl, E4, KO4, KR4, g2, g3, Lib.hid rfl, HSO⟩
  case round =>
    obtain ⟨k, m, b2, q2, o2, b3, q3, o3, hk, rfl, he, KX, KR, P0, J0, hf, hmo⟩ := hrel
    have hzr := he.size
    have hRD : RdState wr (.agg #[.int .i64 m.Index, .int .i64 m.Time, .slice b2 q2 o2, .slice b3 q3 o3, .int .i64 m.Lease.Holder, .int .i64 m.Lease.Epoch, .int .i64 m.Lease.Until]) m := ⟨_, _, rfl, P0.ints, J0.ints⟩
    have HRD := Lib.hid hRD
    clear hRD
    have hxl := KX.lt

    by_cases hlt : k < l.length
    · obtain ⟨d, b1, o1, hd, rfl, hb1, c⟩ := HA.out k hlt
      have d0 := he.cell (c 0 _ (by decide) rfl)
      have d1 := he.cell (c 1 _ (by decide) rfl)
      have d2 := he.cell (c 2 _ (by decide) rfl)
      have d3 := he.cell (c 3 _ (by decide) rfl)
      have d4 := he.cell (c 4 _ (by decide) rfl)
      have d5 := he.cell (c 5 _ (by decide) rfl)
      have d6 := he.cell (c 6 _ (by decide) rfl)
      have d7 := he.cell (c 7 _ (by decide) rfl)
      have d8 := he.cell (c 8 _ (by decide) rfl)
      simp only [Nat.add_zero] at d0
      have HD := Lib.hid hd
      clear c hd

      have hdd : (⟨d.Index, d.Time, d.Client, d.Seq, ⟨d.Op.Kind, d.Op.A, d.Op.B, d.Op.C, d.Op.D⟩⟩ : DEntry) = d := rfl
      have HDD := Lib.hid hdd
      clear hdd
      have hkI : (k : Int) < (l.length : Int) := by omega
      go_wp2_with fail
      have yx0 : ∀ w', Ext wr w' → w'.cell? ⟨X, 0, none⟩ = some (.int .i64 m.Index) := fun w' hw => (KX.ext hw).cell 0
      have yx1 : ∀ w', Ext wr w' → w'.cell? ⟨X, 1, none⟩ = some (.int .i64 m.Time) := fun w' hw => (KX.ext hw).cell 1
      have yx2 : ∀ w', Ext wr w' → w'.cell? ⟨X, 2, none⟩ = some (.slice b2 q2 o2) := fun w' hw => (KX.ext hw).cell 2
      have yx3 : ∀ w', Ext wr w' → w'.cell? ⟨X, 3, none⟩ = some (.slice b3 q3 o3) := fun w' hw => (KX.ext hw).cell 3
      have yx4 : ∀ w', Ext wr w' → w'.cell? ⟨X, 4, none⟩ = some (.int .i64 m.Lease.Holder) := fun w' hw => (KX.ext hw).cell 4
      have yx5 : ∀ w', Ext wr w' → w'.cell? ⟨X, 5, none⟩ = some (.int .i64 m.Lease.Epoch) := fun w' hw => (KX.ext hw).cell 5
      have yx6 : ∀ w', Ext wr w' → w'.cell? ⟨X, 6, none⟩ = some (.int .i64 m.Lease.Until) := fun w' hw => (KX.ext hw).cell 6
      have yd0 := fun w' (hw : Ext wr w') => hw.cell d0
      have yd1 := fun w' (hw : Ext wr w') => hw.cell d1
      have yd2 := fun w' (hw : Ext wr w') => hw.cell d2
      have yd3 := fun w' (hw : Ext wr w') => hw.cell d3
      have yd4 := fun w' (hw : Ext wr w') => hw.cell d4
      have yd5 := fun w' (hw : Ext wr w') => hw.cell d5
      have yd6 := fun w' (hw : Ext wr w') => hw.cell d6
      have yd7 := fun w' (hw : Ext wr w') => hw.cell d7
      have yd8 := fun w' (hw : Ext wr w') => hw.cell d8

      clear d0 d1 d2 d3 d4 d5 d6 d7 d8
      go_cut [8, 9] (fun sx bx wx => ∃ gg v2 vn2 vc2 v3 vn3 vc3, sx = .pointer (some ⟨gg, 0, none⟩) ∧ bx = .bool (appOk m d) ∧ Ext wr wx ∧ wr.heap.size ≤ gg ∧ Blk wx gg 35 #[.int .i64 (appD m d).Index, .int .i64 (appD m d).Time, .slice v2 vn2 vc2, .slice v3 vn3 vc3, .int .i64 (appD m d).Lease.Holder, .int .i64 (appD m d).Lease.Epoch, .int .i64 (appD m d).Lease.Until] ∧ OwnI wr.heap.size 139 2 wx (.slice v2 vn2 vc2) (flPair (appD m d).Pairs) ∧ OwnI wr.heap.size 123 5 wx (.slice v3 vn3 vc3) (flJob (appD m d).Jobs))
      case first =>
        go_region_held3 (fun w' => Ext wr w') (repeat' (first | (with_reducible exact Ext.refl _) | (with_reducible assumption) | (with_reducible refine Ext.drewN ?_ _) | (with_reducible refine Ext.drew ?_) | (with_reducible refine Ext.alloc ?_ _) | (with_reducible refine Ext.setCell ?_ ?_ _) | (with_reducible refine Ext.setRow ?_ ?_ _) | (with_reducible exact Nat.le_refl _) | (with_reducible refine Ext.trans ?_ (by assumption)) | omega)) (first | (go_at_call 40; refine (sApplied_k (HRD.out.ext (by repeat' (first | (with_reducible exact Ext.refl _) | (with_reducible refine Ext.drewN ?_ _) | (with_reducible refine Ext.drew ?_) | (with_reducible refine Ext.alloc ?_ _) | (with_reducible refine Ext.setCell ?_ ?_ _) | (with_reducible refine Ext.trans ?_ hxb) | (with_reducible assumption) | omega))) d.Index d.Time d.Client d.Seq d.Op.Kind d.Op.A d.Op.B d.Op.C d.Op.D).mono ?_; rintro e9 wb ⟨_, rfl, hxb, u9, rfl, p2, p3, rfl, gp, gj⟩; obtain ⟨v2, vn2, vc2, rfl⟩ := gp.shape; obtain ⟨v3, vn3, vc3, rfl⟩ := gj.shape; have hzhxb := hxb.size; obtain ⟨hchxb, hdhxb⟩ := hxb.cells; (try simp only [World.size_alloc, size_drew] at hzhxb hchxb hdhxb); (try have hqhxbwr : wr.heap.size < wb.heap.size := (by omega))))
        all_goals clear yx0 yx1 yx2 yx3 yx4 yx5 yx6 yd0 yd1 yd2 yd3 yd4 yd5 yd6 yd7 yd8 hchxb hdhxb
        all_goals go_wp2_with fail
        all_goals go_meet
        all_goals case rel =>
          (try simp only [World.size_alloc, size_drew] at *)
          exact ⟨_, _, _, _, _, _, _, rfl, by first | rfl | trivial, by repeat' (first | (with_reducible exact Ext.refl _) | (with_reducible assumption) | (with_reducible refine Ext.drewN ?_ _) | (with_reducible refine Ext.drew ?_) | (with_reducible refine Ext.alloc ?_ _) | (with_reducible refine Ext.setCell ?_ ?_ _) | (with_reducible refine Ext.setRow ?_ ?_ _) | (with_reducible exact Nat.le_refl _) | (with_reducible refine Ext.trans ?_ (by assumption)) | omega), by omega, (Blk.cast (by repeat' (first | (with_reducible assumption) | (with_reducible exact Blk.new _ _ _) | (with_reducible exact Blk.new2 _ _ _ _) | (with_reducible (apply Blk.ext; rotate_left; exact hxb)) | (with_reducible apply Blk.drew) | (with_reducible apply Blk.drewN) | (with_reducible apply Blk.alloc) | (with_reducible apply Blk.set_) | (with_reducible apply Blk.row) | (with_reducible apply Blk.far) | (with_reducible apply Blk.rowFar) | omega | (simp; omega))) (by simp)), (gp.keep (by repeat' (first | (with_reducible exact Chg.refl _ _) | (with_reducible refine Chg.drewN ?_ _) | (with_reducible refine Chg.drew ?_) | (with_reducible refine Chg.alloc ?_ _) | (with_reducible refine Chg.setLow ?_ (by omega) _) | (with_reducible refine Chg.setNew ?_ (by omega) _) | (with_reducible refine Chg.setRow ?_ (by omega) _) | (with_reducible refine Chg.ext ?_ (by assumption)) | omega))).mono (by omega), (gj.keep (by repeat' (first | (with_reducible exact Chg.refl _ _) | (with_reducible refine Chg.drewN ?_ _) | (with_reducible refine Chg.drew ?_) | (with_reducible refine Chg.alloc ?_ _) | (with_reducible refine Chg.setLow ?_ (by omega) _) | (with_reducible refine Chg.setNew ?_ (by omega) _) | (with_reducible refine Chg.setRow ?_ (by omega) _) | (with_reducible refine Chg.ext ?_ (by assumption)) | omega))).mono (by omega)⟩
      case rest =>
        revert wc; intro w5 hcut
        obtain ⟨gg, v2, vn2, vc2, v3, vn3, vc3, rfl, rfl, X5, hge5, KG5, gp, gj⟩ := hcut
        clear yx0 yx1 yx2 yx3 yx4 yx5 yx6 yd0 yd1 yd2 yd3 yd4 yd5 yd6 yd7 yd8
        have KX5 := KX.ext X5; have KR5 := KR.ext X5
        have hz5 := X5.size
        have E5 := he.trans X5
        have CX5 := KX5.cell; have FX5 := KX5.frozen; have LX5 := KX5.lt; have CR5 := KR5.cell; have FR5 := KR5.frozen; have LR5 := KR5.lt; have CG5 := KG5.cell; have FG5 := KG5.frozen; have LG5 := KG5.lt
        cases hn : nextIn m d
        · have ha : appOk m d = false := by simp [appOk, hn]
          rw [ha]
          obtain ⟨e1, e2⟩ := fld_yes HSO.out hln (foldS_stop hf.out HD.out hn)
          have HA1 := Lib.hid e1; have HA2 := Lib.hid e2
          clear e1 e2 hn ha
          go_wp2_with fail
          refine bodyPost_ret (by simp [results, Tryz.results10, go_sem, CR5, FR5, LR5]; try rfl) rfl ?_
          refine ⟨_, rfl, by repeat' (first | (with_reducible exact Ext.refl _) | (with_reducible assumption) | (with_reducible refine Ext.drewN ?_ _) | (with_reducible refine Ext.drew ?_) | (with_reducible refine Ext.alloc ?_ _) | (with_reducible refine Ext.setCell ?_ ?_ _) | (with_reducible refine Ext.setRow ?_ ?_ _) | (with_reducible exact Nat.le_refl _) | (with_reducible refine Ext.trans ?_ (by assumption)) | omega), _, by (rw [HA1.out]; try rfl), ?_⟩
          rw [HA2.out]
          exact ⟨_, _, rfl, ((OwnI.ext P0 X5).box7 KR5 (by decide) _ _ _ _ _ _ _), ((OwnI.ext J0 X5).box7 KR5 (by decide) _ _ _ _ _ _ _)⟩

        have ha : appOk m d = true := by simp [appOk, hmo.out, hn]
        have hb : appD m d = stepS m d := by simp [appD, hmo.out, hn]
        have HN := Lib.hid hn
        rw [ha]
        rw [hb] at KG5 gp gj
        clear hn ha hb CG5 FG5 LG5
        have CG5 := KG5.cell; have LG5 := KG5.lt
        go_wp2_with fail
        go_roundw
        case rel =>
          refine ⟨k + 1, stepS m d, v2, vn2, vc2, v3, vn3, vc3, by omega, by go_num, by repeat' (first | (with_reducible exact Ext.refl _) | (with_reducible assumption) | (with_reducible refine Ext.drewN ?_ _) | (with_reducible refine Ext.drew ?_) | (with_reducible refine Ext.alloc ?_ _) | (with_reducible refine Ext.setCell ?_ ?_ _) | (with_reducible refine Ext.setRow ?_ ?_ _) | (with_reducible exact Nat.le_refl _) | (with_reducible refine Ext.trans ?_ (by assumption)) | omega), KX5.box7 _ _ _ _ _ _ _, KR5.far7 (by omega) _ _ _ _ _ _ _, ?_, ?_, Lib.hid (foldS_next hf.out HD.out HN.out), Lib.hid (stepS_ok hmo.out HN.out)⟩
          · exact (gp.mono (by omega)).box7 KX5 (by decide) _ _ _ _ _ _ _
          · exact (gj.mono (by omega)).box7 KX5 (by decide) _ _ _ _ _ _ _
        case measure => simp [intOf]; omega
    · obtain rfl : k = l.length := by omega
      have hff := hf.out
      rw [List.take_length] at hff
      obtain ⟨e1, e2⟩ := fld_yes HSO.out hln hff
      have HA1 := Lib.hid e1; have HA2 := Lib.hid e2
      clear e1 e2 hff
      have CX := KX.cell; have FX := KX.frozen; have LX := KX.lt; have CR := KR.cell; have FR := KR.frozen; have LR := KR.lt
      go_wp2_with fail
      refine bodyPost_ret (by simp [results, Tryz.results10, go_sem, CR, FR, LR]; try rfl) rfl ?_
      refine ⟨_, rfl, by repeat' (first | (with_reducible exact Ext.refl _) | (with_reducible assumption) | (with_reducible refine Ext.drewN ?_ _) | (with_reducible refine Ext.drew ?_) | (with_reducible refine Ext.alloc ?_ _) | (with_reducible refine Ext.setCell ?_ ?_ _) | (with_reducible refine Ext.setRow ?_ ?_ _) | (with_reducible exact Nat.le_refl _) | (with_reducible refine Ext.trans ?_ (by assumption)) | omega), _, by (rw [HA1.out]; try rfl), ?_⟩
      rw [HA2.out]
      exact ⟨_, _, rfl, (P0.box7 KR (by decide) _ _ _ _ _ _ _), (J0.box7 KR (by decide) _ _ _ _ _ _ _)⟩


end Go.Proofs.YthdiaijiokoifaaGreat

-- Folded in the words of the kinds.
set_option linter.unusedSimpArgs false
set_option linter.unusedVariables false
namespace Go.Proofs.YthdiaijiokoifaaGreat
open Go.RowKit Go.G8

theorem fldD_num (s : DState) (l : List DEntry) : numState (fldD s l) ≤ 100000000 := by
  obtain ⟨h1, h2⟩ := fldD_small s l
  unfold numState; omega
theorem folded_f {w : World} {v u : Value} {s : DState} {l : List DEntry} (h : RdState w v s) (hl : Ints 9 w u (flEntry l)) : Calls Tryz.prog 13 #[v, u] w (Ret w fun r w' => ∃ x, r = .tuple #[x, .bool (fldOk s l)] ∧ ∃ F, OwState w.heap.size w' x (fldD s l) F) :=
  (folded_k h hl).mono fun _ _ ⟨v, e, x, y, q, z⟩ => ⟨v, e, x, y, q, z.ow⟩
theorem sFolded_f {w : World} {v u : Value} {s : DState} {l : List DEntry} (h : RdState w v s) (hl : Ints 9 w u (flEntry l)) : Calls Tryz.prog 10 #[v, u] w (Ret w fun r w' => ∃ x, r = .tuple #[x, .bool (fldOk s l)] ∧ ∃ F, OwState w.heap.size w' x (fldD s l) F) :=
  (sFolded_k h hl).mono fun _ _ ⟨v, e, x, y, q, z⟩ => ⟨v, e, x, y, q, z.ow⟩

end Go.Proofs.YthdiaijiokoifaaGreat

-- HelpI: contracts of the statements' helper functions.
set_option linter.unusedSimpArgs false
set_option linter.unusedVariables false
namespace Go.Proofs.YthdiaijiokoifaaGreat
open Go.RowKit Go.G8

theorem info_Entry : (Tryz.prog.info? 83).map (fun i => (i.zero, i.size, i.bytes)) = some (some (.agg #[.int .i64 0, .int .i64 0, .int .i64 0, .int .i64 0, .int .i64 0, .int .i64 0, .int .i64 0, .int .i64 0, .int .i64 0]), 9, 72) := by kernel_rfl


set_option maxHeartbeats 1600000 in
set_option maxRecDepth 100000 in
theorem toEntry_c (w : World) (x0 x1 x2 x3 x4 x5 x6 x7 x8 : Int) :
    Calls Tryz.prog 44 #[.agg #[.int .i64 x0, .int .i64 x1, .int .i64 x2, .int .i64 x3, .int .i64 x4, .int .i64 x5, .int .i64 x6, .int .i64 x7, .int .i64 x8]] w (RetV w (.agg #[.int .i64 x0, .int .i64 x1, .int .i64 x2, .int .i64 x3, .int .i64 x4, .int .i64 x5, .int .i64 x6, .int .i64 x7, .int .i64 x8])) := by
  obtain ⟨W1, hW1⟩ : ∃ W1, W1 = ((w.alloc (.cells #[.int .i64 x0, .int .i64 x1, .int .i64 x2, .int .i64 x3, .int .i64 x4, .int .i64 x5, .int .i64 x6, .int .i64 x7, .int .i64 x8] 90)).alloc (.cells #[.int .i64 0, .int .i64 0, .int .i64 0, .int .i64 0, .int .i64 0, .int .i64 0, .int .i64 0, .int .i64 0, .int .i64 0] 83)).alloc (.cells #[.int .i64 x0, .int .i64 x1, .int .i64 x2, .int .i64 x3, .int .i64 0, .int .i64 0, .int .i64 0, .int .i64 0, .int .i64 0] 83) := ⟨_, rfl⟩
  have E1 : Ext w W1 := by rw [hW1]; exact (((Ext.refl _).alloc _).alloc _).alloc _
  have KR1 : Blk W1 (w.heap.size + 1) 83 #[.int .i64 0, .int .i64 0, .int .i64 0, .int .i64 0, .int .i64 0, .int .i64 0, .int .i64 0, .int .i64 0, .int .i64 0] := by rw [hW1]; exact Blk.alloc (by have := Blk.new (w.alloc (.cells #[.int .i64 x0, .int .i64 x1, .int .i64 x2, .int .i64 x3, .int .i64 x4, .int .i64 x5, .int .i64 x6, .int .i64 x7, .int .i64 x8] 90)) 83 #[.int .i64 0, .int .i64 0, .int .i64 0, .int .i64 0, .int .i64 0, .int .i64 0, .int .i64 0, .int .i64 0, .int .i64 0]; rwa [World.size_alloc] at this) _
  have KT1 : Blk W1 (w.heap.size + 1 + 1) 83 #[.int .i64 x0, .int .i64 x1, .int .i64 x2, .int .i64 x3, .int .i64 0, .int .i64 0, .int .i64 0, .int .i64 0, .int .i64 0] := by rw [hW1]; have := Blk.new ((w.alloc (.cells #[.int .i64 x0, .int .i64 x1, .int .i64 x2, .int .i64 x3, .int .i64 x4, .int .i64 x5, .int .i64 x6, .int .i64 x7, .int .i64 x8] 90)).alloc (.cells #[.int .i64 0, .int .i64 0, .int .i64 0, .int .i64 0, .int .i64 0, .int .i64 0, .int .i64 0, .int .i64 0, .int .i64 0] 83)) 83 #[.int .i64 x0, .int .i64 x1, .int .i64 x2, .int .i64 x3, .int .i64 0, .int .i64 0, .int .i64 0, .int .i64 0, .int .i64 0]; rwa [World.size_alloc, World.size_alloc] at this
  have HW1 := Lib.hid hW1
  clear hW1
  go_enter Tryz.func44, Tryz.ntmps44
  go_wp2_with fail
  rw [← HW1.out]
  refine (toOp_c _ x4 x5 x6 x7 x8).mono ?_
  rintro e w1 ⟨rfl, hx1⟩
  have E2 := E1.trans hx1
  have KR2 := KR1.ext hx1; have KT2 := KT1.ext hx1
  have CR2 := KR2.cell; have FR2 := KR2.frozen; have LR2 := KR2.lt; have CT2 := KT2.cell; have FT2 := KT2.frozen; have LT2 := KT2.lt
  go_wp2_with fail
  refine bodyPost_ret (by simp [results, Tryz.results44, go_sem, CR2, FR2, LR2]; try rfl) rfl ⟨rfl, ?_⟩
  repeat' (first | (with_reducible exact Ext.refl _) | (with_reducible assumption) | (with_reducible refine Ext.drewN ?_ _) | (with_reducible refine Ext.drew ?_) | (with_reducible refine Ext.alloc ?_ _) | (with_reducible refine Ext.setCell ?_ ?_ _) | (with_reducible exact Nat.le_refl _) | (with_reducible refine Ext.trans ?_ (by assumption)) | omega)

set_option maxHeartbeats 800000 in
theorem toEntryS_c (w : World) (v : Value) (xs : List Int) (L : Nat) (hL : xs.length = L * 9) (h : Ints 9 w v xs) (hs : L ≤ 1048576) :
    Calls Tryz.prog 12 #[v] w (Ret w fun v' w' => OwnI w.heap.size 83 9 w' v' xs) := by
  obtain ⟨a, len, ca, rfl, hl, hca, hm, ha⟩ := h.open_
  obtain rfl : L = len := by omega
  have HA := Lib.hid ha; have HL := Lib.hid hl
  clear ha hl hL
  unfold maxLen at hm
  obtain ⟨i0, hi, hz0, hz1, hz2⟩ := info_parts info_Entry
  go_enter Tryz.func12, Tryz.ntmps12
  have hmk := fun W => run_make (P := Tryz.prog) W 39 83 i0 _ Tryz.underlying39 hi hz0 .i64 .i64 L L (by omega) (by omega) (by rw [hz2]; omega) (by omega)
  simp only [Int.toNat_natCast, hz1] at hmk
  go_wp2
  clear hmk
  go_loopw [4] (fun i wr => ∃ k : Nat, k ≤ L ∧ i = .int .i64 k ∧ Ext w wr ∧ ∃ cur, Blk wr w.heap.size 83 cur ∧ cur.size = L * 9 ∧ Pre cur (k * 9) (xs.map (.int .i64))) (fun i _ => L - (intOf i).toNat)
  case atStart => exact ⟨0, Nat.zero_le _, rfl, (Ext.refl _).alloc _, _, Blk.new _ _ _, by simp [size_madeCells], by simpa using Pre.zero _ _⟩
  case round =>
    obtain ⟨k, hk, rfl, he, cur, hblk, hsz, hpre⟩ := hrel
    by_cases hlt : k < L
    · obtain ⟨b1, o1, rfl, _, c1⟩ := HA.out k hlt
      obtain ⟨x0, hx0, c10⟩ := c1 0 (by omega)
      obtain ⟨x1, hx1, c11⟩ := c1 1 (by omega)
      obtain ⟨x2, hx2, c12⟩ := c1 2 (by omega)
      obtain ⟨x3, hx3, c13⟩ := c1 3 (by omega)
      obtain ⟨x4, hx4, c14⟩ := c1 4 (by omega)
      obtain ⟨x5, hx5, c15⟩ := c1 5 (by omega)
      obtain ⟨x6, hx6, c16⟩ := c1 6 (by omega)
      obtain ⟨x7, hx7, c17⟩ := c1 7 (by omega)
      obtain ⟨x8, hx8, c18⟩ := c1 8 (by omega)
      have d0 := he.cell c10; have d1 := he.cell c11; have d2 := he.cell c12; have d3 := he.cell c13; have d4 := he.cell c14; have d5 := he.cell c15; have d6 := he.cell c16; have d7 := he.cell c17; have d8 := he.cell c18
      simp only [Nat.add_zero] at d0
      clear c1 c10 c11 c12 c13 c14 c15 c16 c17 c18
      have HX0 := Lib.hid hx0; have HX1 := Lib.hid hx1; have HX2 := Lib.hid hx2; have HX3 := Lib.hid hx3; have HX4 := Lib.hid hx4; have HX5 := Lib.hid hx5; have HX6 := Lib.hid hx6; have HX7 := Lib.hid hx7; have HX8 := Lib.hid hx8
      have HS := Lib.hid hsz
      clear hx0 hx1 hx2 hx3 hx4 hx5 hx6 hx7 hx8 hsz
      go_wp2_with (first | (go_at_call 44; refine (toEntry_c _ _ _ _ _ _ _ _ _ _).mono ?_; rintro e w1 ⟨rfl, hx⟩; have hb1 := hblk.ext hx; obtain ⟨z0, g0⟩ : ∃ z, w1.cell? ⟨w.heap.size, k * 9, none⟩ = some z := ⟨_, by rw [hb1.cell]; exact Array.getElem?_eq_getElem (by have := HS.out; omega)⟩; obtain ⟨z1, g1⟩ : ∃ z, w1.cell? ⟨w.heap.size, k * 9 + 1, none⟩ = some z := ⟨_, by rw [hb1.cell]; exact Array.getElem?_eq_getElem (by have := HS.out; omega)⟩; obtain ⟨z2, g2⟩ : ∃ z, w1.cell? ⟨w.heap.size, k * 9 + 2, none⟩ = some z := ⟨_, by rw [hb1.cell]; exact Array.getElem?_eq_getElem (by have := HS.out; omega)⟩; obtain ⟨z3, g3⟩ : ∃ z, w1.cell? ⟨w.heap.size, k * 9 + 3, none⟩ = some z := ⟨_, by rw [hb1.cell]; exact Array.getElem?_eq_getElem (by have := HS.out; omega)⟩; obtain ⟨z4, g4⟩ : ∃ z, w1.cell? ⟨w.heap.size, k * 9 + 4, none⟩ = some z := ⟨_, by rw [hb1.cell]; exact Array.getElem?_eq_getElem (by have := HS.out; omega)⟩; obtain ⟨z5, g5⟩ : ∃ z, w1.cell? ⟨w.heap.size, k * 9 + 5, none⟩ = some z := ⟨_, by rw [hb1.cell]; exact Array.getElem?_eq_getElem (by have := HS.out; omega)⟩; obtain ⟨z6, g6⟩ : ∃ z, w1.cell? ⟨w.heap.size, k * 9 + 6, none⟩ = some z := ⟨_, by rw [hb1.cell]; exact Array.getElem?_eq_getElem (by have := HS.out; omega)⟩; obtain ⟨z7, g7⟩ : ∃ z, w1.cell? ⟨w.heap.size, k * 9 + 7, none⟩ = some z := ⟨_, by rw [hb1.cell]; exact Array.getElem?_eq_getElem (by have := HS.out; omega)⟩; obtain ⟨z8, g8⟩ : ∃ z, w1.cell? ⟨w.heap.size, k * 9 + 8, none⟩ = some z := ⟨_, by rw [hb1.cell]; exact Array.getElem?_eq_getElem (by have := HS.out; omega)⟩; have f0 := hb1.frozen (k * 9); have f1 := hb1.frozen (k * 9 + 1); have f2 := hb1.frozen (k * 9 + 2); have f3 := hb1.frozen (k * 9 + 3); have f4 := hb1.frozen (k * 9 + 4); have f5 := hb1.frozen (k * 9 + 5); have f6 := hb1.frozen (k * 9 + 6); have f7 := hb1.frozen (k * 9 + 7); have f8 := hb1.frozen (k * 9 + 8)))
      go_roundw
      case rel => exact ⟨k + 1, by omega, by go_num, ((((((((((he.trans hx).setCell (Nat.le_refl _) _).setCell (Nat.le_refl _) _).setCell (Nat.le_refl _) _).setCell (Nat.le_refl _) _).setCell (Nat.le_refl _) _).setCell (Nat.le_refl _) _).setCell (Nat.le_refl _) _).setCell (Nat.le_refl _) _).setCell (Nat.le_refl _) _), _, (((((((((hb1.set_ _ _).set_ _ _).set_ _ _).set_ _ _).set_ _ _).set_ _ _).set_ _ _).set_ _ _).set_ _ _), by simp; exact HS.out, (((((((((hpre.set (by simpa using HX0.out) (by have := HS.out; omega)).set (by simpa using HX1.out) (by have := HS.out; simp; omega)).set (by simpa using HX2.out) (by have := HS.out; simp; omega)).set (by simpa using HX3.out) (by have := HS.out; simp; omega)).set (by simpa using HX4.out) (by have := HS.out; simp; omega)).set (by simpa using HX5.out) (by have := HS.out; simp; omega)).set (by simpa using HX6.out) (by have := HS.out; simp; omega)).set (by simpa using HX7.out) (by have := HS.out; simp; omega)).set (by simpa using HX8.out) (by have := HS.out; simp; omega)).cast (by omega)⟩
      case measure => simp [intOf]; omega
    · obtain rfl : k = L := by omega
      go_wp2
      go_ret
      exact ⟨_, rfl, he, Own.of_blk hblk (Nat.le_refl _) hsz (by simpa using HL.out) (Nat.le_refl _) (by unfold maxLen; omega) hpre⟩

set_option maxHeartbeats 800000 in
theorem szEntryS_c (w : World) (v : Value) (xs : List Int) (L : Nat) (hL : xs.length = L * 9) (left : Int) (h : Ints 9 w v xs) (h0 : 0 ≤ left) (h1 : left ≤ 1048576) :
    Calls Tryz.prog 9 #[v, .int .i64 left] w (Ret w fun v' _ => SzR left L v') := by
  obtain ⟨a, len, ca, rfl, hl, hca, hm, -⟩ := h.open_
  obtain rfl : L = len := by omega
  clear h hl hL
  unfold maxLen at hm
  by_cases hlt : left < L
  · have ht : decide (left - (L : Int) < 0) = true := by simp; omega
    go_enter Tryz.func9, Tryz.ntmps9
    go_wp2
    go_ret
    exact ⟨_, rfl, Ext.refl _, .inl ⟨rfl, hlt⟩⟩
  · have ht : decide (left - (L : Int) < 0) = false := by simp; omega
    go_enter Tryz.func9, Tryz.ntmps9
    go_wp2
    go_ret
    exact ⟨_, rfl, Ext.refl _, .inr ⟨rfl, by omega⟩⟩

set_option maxHeartbeats 800000 in
theorem eqEntry_c (w : World) (x0 x1 x2 x3 x4 x5 x6 x7 x8 : Int) :
    Calls Tryz.prog 52 #[.agg #[.int .i64 x0, .int .i64 x1, .int .i64 x2, .int .i64 x3, .int .i64 x4, .int .i64 x5, .int .i64 x6, .int .i64 x7, .int .i64 x8], .agg #[.int .i64 x0, .int .i64 x1, .int .i64 x2, .int .i64 x3, .int .i64 x4, .int .i64 x5, .int .i64 x6, .int .i64 x7, .int .i64 x8]] w (RetV w (.bool true)) := by
  go_enter Tryz.func52, Tryz.ntmps52
  go_wp2_with (first | (go_at_call 109; refine (eqOp_c _ _ _ _ _ _).mono ?_; rintro e w1 ⟨rfl, hx1⟩; have hz1 := hx1.size; obtain ⟨hc1, hf1⟩ := hx1.cells; simp only [World.size_alloc, World.size_setCell] at hz1 hc1 hf1))
  repeat (go_quiet (fail); go_wp2_with (first | (go_at_call 109; refine (eqOp_c _ _ _ _ _ _).mono ?_; rintro e w1 ⟨rfl, hx1⟩; have hz1 := hx1.size; obtain ⟨hc1, hf1⟩ := hx1.cells; simp only [World.size_alloc, World.size_setCell] at hz1 hc1 hf1)))
  go_ret
  exact ⟨rfl, by repeat' (first | (with_reducible exact Ext.refl _) | (with_reducible assumption) | (with_reducible refine Ext.drewN ?_ _) | (with_reducible refine Ext.drew ?_) | (with_reducible refine Ext.alloc ?_ _) | (with_reducible refine Ext.setCell ?_ ?_ _) | (with_reducible exact Nat.le_refl _) | (with_reducible refine Ext.trans ?_ (by assumption)) | omega)⟩

set_option maxHeartbeats 800000 in
theorem eqEntryS_c (w : World) (va vb : Value) (xs : List Int) (ha : Ints 9 w va xs) (hb : Ints 9 w vb xs) :
    Calls Tryz.prog 15 #[va, vb] w (RetV w (.bool true)) := by
  obtain ⟨a, len, ca, rfl, hl, hca, hm, ha'⟩ := ha.open_
  obtain ⟨b, len', cb, rfl, hl', _, _, hb'⟩ := hb.open_
  obtain rfl : len = len' := by omega
  have HA := Lib.hid ha'; have HB := Lib.hid hb'
  clear ha' hb' hl hl' ha hb
  unfold maxLen at hm
  go_enter Tryz.func15, Tryz.ntmps15
  go_wp2
  go_loopw [5] (fun i wr => ∃ k : Nat, k ≤ len ∧ i = .int .i64 k ∧ Ext w wr) (fun i _ => len - (intOf i).toNat)
  case atStart => exact ⟨0, Nat.zero_le _, rfl, Ext.refl _⟩
  case round =>
    obtain ⟨k, hk, rfl, he⟩ := hrel
    by_cases hlt : k < len
    · obtain ⟨b1, o1, rfl, _, c1⟩ := HA.out k hlt
      obtain ⟨b2, o2, rfl, _, c2⟩ := HB.out k hlt
      obtain ⟨x0, hx0, c10⟩ := c1 0 (by omega)
      obtain ⟨x1, hx1, c11⟩ := c1 1 (by omega)
      obtain ⟨x2, hx2, c12⟩ := c1 2 (by omega)
      obtain ⟨x3, hx3, c13⟩ := c1 3 (by omega)
      obtain ⟨x4, hx4, c14⟩ := c1 4 (by omega)
      obtain ⟨x5, hx5, c15⟩ := c1 5 (by omega)
      obtain ⟨x6, hx6, c16⟩ := c1 6 (by omega)
      obtain ⟨x7, hx7, c17⟩ := c1 7 (by omega)
      obtain ⟨x8, hx8, c18⟩ := c1 8 (by omega)
      obtain ⟨y0, hy0, c20⟩ := c2 0 (by omega)
      obtain ⟨y1, hy1, c21⟩ := c2 1 (by omega)
      obtain ⟨y2, hy2, c22⟩ := c2 2 (by omega)
      obtain ⟨y3, hy3, c23⟩ := c2 3 (by omega)
      obtain ⟨y4, hy4, c24⟩ := c2 4 (by omega)
      obtain ⟨y5, hy5, c25⟩ := c2 5 (by omega)
      obtain ⟨y6, hy6, c26⟩ := c2 6 (by omega)
      obtain ⟨y7, hy7, c27⟩ := c2 7 (by omega)
      obtain ⟨y8, hy8, c28⟩ := c2 8 (by omega)
      obtain rfl : x0 = y0 := by rw [hx0] at hy0; exact Option.some.inj hy0
      obtain rfl : x1 = y1 := by rw [hx1] at hy1; exact Option.some.inj hy1
      obtain rfl : x2 = y2 := by rw [hx2] at hy2; exact Option.some.inj hy2
      obtain rfl : x3 = y3 := by rw [hx3] at hy3; exact Option.some.inj hy3
      obtain rfl : x4 = y4 := by rw [hx4] at hy4; exact Option.some.inj hy4
      obtain rfl : x5 = y5 := by rw [hx5] at hy5; exact Option.some.inj hy5
      obtain rfl : x6 = y6 := by rw [hx6] at hy6; exact Option.some.inj hy6
      obtain rfl : x7 = y7 := by rw [hx7] at hy7; exact Option.some.inj hy7
      obtain rfl : x8 = y8 := by rw [hx8] at hy8; exact Option.some.inj hy8
      have d0 := he.cell c10; have e0 := he.cell c20
      have d1 := he.cell c11; have e1 := he.cell c21
      have d2 := he.cell c12; have e2 := he.cell c22
      have d3 := he.cell c13; have e3 := he.cell c23
      have d4 := he.cell c14; have e4 := he.cell c24
      have d5 := he.cell c15; have e5 := he.cell c25
      have d6 := he.cell c16; have e6 := he.cell c26
      have d7 := he.cell c17; have e7 := he.cell c27
      have d8 := he.cell c18; have e8 := he.cell c28
      simp only [Nat.add_zero] at d0 e0
      clear c1 c2 c10 c20 hx0 hy0 c11 c21 hx1 hy1 c12 c22 hx2 hy2 c13 c23 hx3 hy3 c14 c24 hx4 hy4 c15 c25 hx5 hy5 c16 c26 hx6 hy6 c17 c27 hx7 hy7 c18 c28 hx8 hy8
      go_wp2
      go_region_held3 (fun w' => Ext wr w' ∧ w'.cell? ⟨b1, o1 + k * 9, none⟩ = some (.int .i64 x0) ∧ w'.cell? ⟨b1, o1 + k * 9 + 1, none⟩ = some (.int .i64 x1) ∧ w'.cell? ⟨b1, o1 + k * 9 + 2, none⟩ = some (.int .i64 x2) ∧ w'.cell? ⟨b1, o1 + k * 9 + 3, none⟩ = some (.int .i64 x3) ∧ w'.cell? ⟨b1, o1 + k * 9 + 4, none⟩ = some (.int .i64 x4) ∧ w'.cell? ⟨b1, o1 + k * 9 + 5, none⟩ = some (.int .i64 x5) ∧ w'.cell? ⟨b1, o1 + k * 9 + 6, none⟩ = some (.int .i64 x6) ∧ w'.cell? ⟨b1, o1 + k * 9 + 7, none⟩ = some (.int .i64 x7) ∧ w'.cell? ⟨b1, o1 + k * 9 + 8, none⟩ = some (.int .i64 x8) ∧ w'.cell? ⟨b2, o2 + k * 9, none⟩ = some (.int .i64 x0) ∧ w'.cell? ⟨b2, o2 + k * 9 + 1, none⟩ = some (.int .i64 x1) ∧ w'.cell? ⟨b2, o2 + k * 9 + 2, none⟩ = some (.int .i64 x2) ∧ w'.cell? ⟨b2, o2 + k * 9 + 3, none⟩ = some (.int .i64 x3) ∧ w'.cell? ⟨b2, o2 + k * 9 + 4, none⟩ = some (.int .i64 x4) ∧ w'.cell? ⟨b2, o2 + k * 9 + 5, none⟩ = some (.int .i64 x5) ∧ w'.cell? ⟨b2, o2 + k * 9 + 6, none⟩ = some (.int .i64 x6) ∧ w'.cell? ⟨b2, o2 + k * 9 + 7, none⟩ = some (.int .i64 x7) ∧ w'.cell? ⟨b2, o2 + k * 9 + 8, none⟩ = some (.int .i64 x8)) (first | exact ⟨Ext.drew (Ext.refl _), d0, d1, d2, d3, d4, d5, d6, d7, d8, e0, e1, e2, e3, e4, e5, e6, e7, e8⟩ | exact held_of (S := fun w' => Ext wr w' ∧ w'.cell? ⟨b1, o1 + k * 9, none⟩ = some (.int .i64 x0) ∧ w'.cell? ⟨b1, o1 + k * 9 + 1, none⟩ = some (.int .i64 x1) ∧ w'.cell? ⟨b1, o1 + k * 9 + 2, none⟩ = some (.int .i64 x2) ∧ w'.cell? ⟨b1, o1 + k * 9 + 3, none⟩ = some (.int .i64 x3) ∧ w'.cell? ⟨b1, o1 + k * 9 + 4, none⟩ = some (.int .i64 x4) ∧ w'.cell? ⟨b1, o1 + k * 9 + 5, none⟩ = some (.int .i64 x5) ∧ w'.cell? ⟨b1, o1 + k * 9 + 6, none⟩ = some (.int .i64 x6) ∧ w'.cell? ⟨b1, o1 + k * 9 + 7, none⟩ = some (.int .i64 x7) ∧ w'.cell? ⟨b1, o1 + k * 9 + 8, none⟩ = some (.int .i64 x8) ∧ w'.cell? ⟨b2, o2 + k * 9, none⟩ = some (.int .i64 x0) ∧ w'.cell? ⟨b2, o2 + k * 9 + 1, none⟩ = some (.int .i64 x1) ∧ w'.cell? ⟨b2, o2 + k * 9 + 2, none⟩ = some (.int .i64 x2) ∧ w'.cell? ⟨b2, o2 + k * 9 + 3, none⟩ = some (.int .i64 x3) ∧ w'.cell? ⟨b2, o2 + k * 9 + 4, none⟩ = some (.int .i64 x4) ∧ w'.cell? ⟨b2, o2 + k * 9 + 5, none⟩ = some (.int .i64 x5) ∧ w'.cell? ⟨b2, o2 + k * 9 + 6, none⟩ = some (.int .i64 x6) ∧ w'.cell? ⟨b2, o2 + k * 9 + 7, none⟩ = some (.int .i64 x7) ∧ w'.cell? ⟨b2, o2 + k * 9 + 8, none⟩ = some (.int .i64 x8)) (by assumption) hx (fun a b h x => ⟨h.1.trans x, (h.1.trans x).cell d0, (h.1.trans x).cell d1, (h.1.trans x).cell d2, (h.1.trans x).cell d3, (h.1.trans x).cell d4, (h.1.trans x).cell d5, (h.1.trans x).cell d6, (h.1.trans x).cell d7, (h.1.trans x).cell d8, (h.1.trans x).cell e0, (h.1.trans x).cell e1, (h.1.trans x).cell e2, (h.1.trans x).cell e3, (h.1.trans x).cell e4, (h.1.trans x).cell e5, (h.1.trans x).cell e6, (h.1.trans x).cell e7, (h.1.trans x).cell e8⟩)) ((go_at_call 52; refine (eqEntry_c _ _ _ _ _ _ _ _ _ _).mono ?_; rintro e w' ⟨rfl, hx⟩))
      go_wp2
      go_roundw
      case rel => exact ⟨k + 1, by omega, by go_num, he.trans (And.left ‹_›)⟩
      case measure => simp [intOf]; omega
    · go_wp2
      go_ret
      exact ⟨rfl, he⟩

set_option maxHeartbeats 800000 in
theorem markEntryS_c (w : World) (B : Nat) (v : Value) (xs : List Int) (L : Nat) (hL : xs.length = L * 9) (q : Int) (h : OwnI B 83 9 w v xs) (h0 : 0 ≤ q) (h1 : q + (L * 9 : Nat) ≤ 4611686018427387904) :
    Calls Tryz.prog 17 #[v, .int .i64 q] w (RetM w (feet [v]) (.int .i64 (q + (L * 9 : Nat))) fun w' => OwnI B 83 9 w' v (run q (L * 9))) := by
  obtain ⟨a, len, ca, rfl, hl, hca, hm, hop⟩ := Own.open_ h
  rw [List.length_map] at hl
  obtain rfl : L = len := by omega
  unfold maxLen at hm
  rcases hop with h00 | ⟨g, cur0, rfl, hB, hb0, hs0, -⟩
  · subst h00
    have hfin : OwnI B 83 9 w (.slice a 0 ca) (run q (0 * 9)) := by
      refine Own.empty h ?_ _ ?_
      · exact List.eq_nil_of_length_eq_zero (by simpa using hL)
      · simp [run]
    have HF := Lib.hid hfin
    clear hfin h hL hl
    have hq : q + ((0 * 9 : Nat) : Int) = q := by simp
    rw [hq]
    clear hq
    go_enter Tryz.func17, Tryz.ntmps17
    go_wp2
    go_loopw [1, 5] (fun kk i wr => kk = .int .i64 q ∧ i = .int .i64 0 ∧ wr = w) (fun _ _ _ => 0)
    case atStart => exact ⟨rfl, rfl, rfl⟩
    case round =>
      obtain ⟨rfl, rfl, rfl⟩ := hrel
      go_wp2
      go_ret
      exact ⟨rfl, Upd.refl _ _, HF.out⟩
  · have HS := Lib.hid hs0
    have HC := Lib.hid (show L * 9 ≤ ca * 9 by have := Nat.mul_le_mul_right 9 hca; omega)
    clear hs0 hL hl h
    go_enter Tryz.func17, Tryz.ntmps17
    go_wp2
    go_loopw [1, 5] (fun kk i wr => ∃ k : Nat, k ≤ L ∧ i = .int .i64 k ∧ (∃ q' : Int, q' = q + (k * 9 : Nat) ∧ kk = .int .i64 q') ∧ Upd w wr [g] ∧ ∃ cur, Blk wr g 83 cur ∧ cur.size = ca * 9 ∧ Pre cur (k * 9) ((run q (L * 9)).map (.int .i64))) (fun _ i _ => L - (intOf i).toNat)
    case atStart => exact ⟨0, Nat.zero_le _, rfl, ⟨q, by simp, rfl⟩, Upd.refl _ _, cur0, hb0, HS.out, by simpa using Pre.zero _ _⟩
    case round =>
      obtain ⟨k, hk, rfl, ⟨q', hq', rfl⟩, he, cur, hblk, hsz, hpre⟩ := hrel
      clear HS
      have HS := Lib.hid hsz
      have HQ := Lib.hid hq'
      by_cases hlt : k < L
      · have hq1 : 0 ≤ q' ∧ q' + 9 ≤ 4611686018427387904 := by have := mul_lt_of hlt 9; omega
        obtain ⟨hq1, hq2⟩ := hq1
        clear hsz hq'
        obtain ⟨z0, g0⟩ : ∃ z, wr.cell? ⟨g, k * 9, none⟩ = some z := ⟨_, by rw [hblk.cell]; exact Array.getElem?_eq_getElem (by have := HS.out; have := HC.out; have := mul_lt_of hlt 9; omega)⟩
        have f0 := hblk.frozen (k * 9)
        obtain ⟨z1, g1⟩ : ∃ z, wr.cell? ⟨g, k * 9 + 1, none⟩ = some z := ⟨_, by rw [hblk.cell]; exact Array.getElem?_eq_getElem (by have := HS.out; have := HC.out; have := mul_lt_of hlt 9; omega)⟩
        have f1 := hblk.frozen (k * 9 + 1)
        obtain ⟨z2, g2⟩ : ∃ z, wr.cell? ⟨g, k * 9 + 2, none⟩ = some z := ⟨_, by rw [hblk.cell]; exact Array.getElem?_eq_getElem (by have := HS.out; have := HC.out; have := mul_lt_of hlt 9; omega)⟩
        have f2 := hblk.frozen (k * 9 + 2)
        obtain ⟨z3, g3⟩ : ∃ z, wr.cell? ⟨g, k * 9 + 3, none⟩ = some z := ⟨_, by rw [hblk.cell]; exact Array.getElem?_eq_getElem (by have := HS.out; have := HC.out; have := mul_lt_of hlt 9; omega)⟩
        have f3 := hblk.frozen (k * 9 + 3)
        obtain ⟨z4, g4⟩ : ∃ z, wr.cell? ⟨g, k * 9 + 4, none⟩ = some z := ⟨_, by rw [hblk.cell]; exact Array.getElem?_eq_getElem (by have := HS.out; have := HC.out; have := mul_lt_of hlt 9; omega)⟩
        have f4 := hblk.frozen (k * 9 + 4)
        obtain ⟨z5, g5⟩ : ∃ z, wr.cell? ⟨g, k * 9 + 5, none⟩ = some z := ⟨_, by rw [hblk.cell]; exact Array.getElem?_eq_getElem (by have := HS.out; have := HC.out; have := mul_lt_of hlt 9; omega)⟩
        have f5 := hblk.frozen (k * 9 + 5)
        obtain ⟨z6, g6⟩ : ∃ z, wr.cell? ⟨g, k * 9 + 6, none⟩ = some z := ⟨_, by rw [hblk.cell]; exact Array.getElem?_eq_getElem (by have := HS.out; have := HC.out; have := mul_lt_of hlt 9; omega)⟩
        have f6 := hblk.frozen (k * 9 + 6)
        obtain ⟨z7, g7⟩ : ∃ z, wr.cell? ⟨g, k * 9 + 7, none⟩ = some z := ⟨_, by rw [hblk.cell]; exact Array.getElem?_eq_getElem (by have := HS.out; have := HC.out; have := mul_lt_of hlt 9; omega)⟩
        have f7 := hblk.frozen (k * 9 + 7)
        obtain ⟨z8, g8⟩ : ∃ z, wr.cell? ⟨g, k * 9 + 8, none⟩ = some z := ⟨_, by rw [hblk.cell]; exact Array.getElem?_eq_getElem (by have := HS.out; have := HC.out; have := mul_lt_of hlt 9; omega)⟩
        have f8 := hblk.frozen (k * 9 + 8)
        go_wp2
        go_roundw
        case rel => exact ⟨k + 1, by omega, by go_num, ⟨_, by have := HQ.out; omega, rfl⟩, (((((((((he.setCell (by simp) _).setCell (by simp) _).setCell (by simp) _).setCell (by simp) _).setCell (by simp) _).setCell (by simp) _).setCell (by simp) _).setCell (by simp) _).setCell (by simp) _), _, (((((((((hblk.set_ _ _).set_ _ _).set_ _ _).set_ _ _).set_ _ _).set_ _ _).set_ _ _).set_ _ _).set_ _ _), by simp; exact HS.out, ((((((((((hpre.set (run_cell' (by have := mul_lt_of hlt 9; omega) (by have := HQ.out; omega)) (by have := HS.out; have := mul_lt_of hlt 9; have := HC.out; omega)).set (run_cell' (by have := mul_lt_of hlt 9; omega) (by have := HQ.out; omega)) (by have := HS.out; have := mul_lt_of hlt 9; have := HC.out; simp; omega)).set (run_cell' (by have := mul_lt_of hlt 9; omega) (by have := HQ.out; omega)) (by have := HS.out; have := mul_lt_of hlt 9; have := HC.out; simp; omega)).set (run_cell' (by have := mul_lt_of hlt 9; omega) (by have := HQ.out; omega)) (by have := HS.out; have := mul_lt_of hlt 9; have := HC.out; simp; omega)).set (run_cell' (by have := mul_lt_of hlt 9; omega) (by have := HQ.out; omega)) (by have := HS.out; have := mul_lt_of hlt 9; have := HC.out; simp; omega)).set (run_cell' (by have := mul_lt_of hlt 9; omega) (by have := HQ.out; omega)) (by have := HS.out; have := mul_lt_of hlt 9; have := HC.out; simp; omega)).set (run_cell' (by have := mul_lt_of hlt 9; omega) (by have := HQ.out; omega)) (by have := HS.out; have := mul_lt_of hlt 9; have := HC.out; simp; omega)).set (run_cell' (by have := mul_lt_of hlt 9; omega) (by have := HQ.out; omega)) (by have := HS.out; have := mul_lt_of hlt 9; have := HC.out; simp; omega)).set (run_cell' (by have := mul_lt_of hlt 9; omega) (by have := HQ.out; omega)) (by have := HS.out; have := mul_lt_of hlt 9; have := HC.out; simp; omega))).cast (by omega)⟩
        case measure => simp [intOf]; omega
      · obtain rfl : k = L := by omega
        clear hsz hq'
        go_wp2
        go_ret
        refine ⟨congrArg (fun z => Ending.returned (.int .i64 z)) HQ.out, he, Own.of_blk hblk hB HS.out (by simp [length_run]) hca (by unfold maxLen; omega) hpre⟩

end Go.Proofs.YthdiaijiokoifaaGreat

-- The statement's walk: FnExactFolded.
set_option linter.unusedSimpArgs false
set_option linter.unusedVariables false
namespace Go.Proofs.YthdiaijiokoifaaGreat
open Go.RowKit Go.G8

set_option maxHeartbeats 4000000 in
set_option maxRecDepth 100000 in
theorem law_Folded (w : World) (c0_0 : Int) (c0_1 : Int) (s0_2 : Value) (l0_2 : List DPair) (s0_3 : Value) (l0_3 : List DJob) (c0_4 : Int) (c0_5 : Int) (c0_6 : Int) (s1_0 : Value) (l1_0 : List DEntry) (h0_2 : Ints 2 w s0_2 (flPair l0_2)) (h0_3 : Ints 5 w s0_3 (flJob l0_3)) (h1_0 : Ints 9 w s1_0 (flEntry l1_0)) : Calls Tryz.prog 3 #[.agg #[.int .i64 c0_0, .int .i64 c0_1, s0_2, s0_3, .int .i64 c0_4, .int .i64 c0_5, .int .i64 c0_6], s1_0] w (RetV w (.bool true)) := by
  obtain ⟨a0_2, n0_2, k0_2, rfl⟩ := h0_2.shape
  obtain ⟨a0_3, n0_3, k0_3, rfl⟩ := h0_3.shape
  obtain ⟨a1_0, n1_0, k1_0, rfl⟩ := h1_0.shape
  obtain ⟨a1_0, cap1_0, e1_0, hn1, hm1, _⟩ := h1_0.recs (f := DEntry.ints) (fun _ => rfl) (by decide)
  injection e1_0 with e1 e2 e3; subst e1; subst e2; subst e3; unfold maxLen at hm1
  have h0 : RdState w (.agg #[.int .i64 c0_0, .int .i64 c0_1, .slice a0_2 n0_2 k0_2, .slice a0_3 n0_3 k0_3, .int .i64 c0_4, .int .i64 c0_5, .int .i64 c0_6]) ⟨c0_0, c0_1, l0_2, l0_3, ⟨c0_4, c0_5, c0_6⟩⟩ := ⟨_, _, rfl, h0_2, h0_3⟩
  obtain ⟨S, hS⟩ : ∃ S : DState, S = ⟨c0_0, c0_1, l0_2, l0_3, ⟨c0_4, c0_5, c0_6⟩⟩ := ⟨_, rfl⟩
  rw [← hS] at h0
  go_enter Tryz.func3, Tryz.ntmps3
  go_wp2_with fail
  refine (sz_State (h0.ext (by repeat' (first | (with_reducible exact Ext.refl _) | (with_reducible assumption) | (with_reducible refine Ext.drewN ?_ _) | (with_reducible refine Ext.drew ?_) | (with_reducible refine Ext.alloc ?_ _) | (with_reducible refine Ext.setCell ?_ ?_ _) | (with_reducible refine Ext.setRow ?_ ?_ _) | (with_reducible exact Nat.le_refl _) | (with_reducible refine Ext.trans ?_ (by assumption)) | omega))) (by omega) (by omega)).mono ?_
  rintro e w1 ⟨v1, rfl, hx1, hv1⟩
  have X1 : Ext w w1 := by repeat' (first | (with_reducible exact Ext.refl _) | (with_reducible assumption) | (with_reducible refine Ext.drewN ?_ _) | (with_reducible refine Ext.drew ?_) | (with_reducible refine Ext.alloc ?_ _) | (with_reducible refine Ext.setCell ?_ ?_ _) | (with_reducible refine Ext.setRow ?_ ?_ _) | (with_reducible exact Nat.le_refl _) | (with_reducible refine Ext.trans ?_ (by assumption)) | omega)
  have Ba : Blk w1 w.heap.size 27 #[.int .i64 c0_0, .int .i64 c0_1, .slice a0_2 n0_2 k0_2, .slice a0_3 n0_3 k0_3, .int .i64 c0_4, .int .i64 c0_5, .int .i64 c0_6] := (Blk.new w 27 #[.int .i64 c0_0, .int .i64 c0_1, .slice a0_2 n0_2 k0_2, .slice a0_3 n0_3 k0_3, .int .i64 c0_4, .int .i64 c0_5, .int .i64 c0_6]).ext hx1
  have MBa := Ba.lt
  have Z1 := X1.size
  have E1 : Ext w w1 := X1
  clear hx1
  have CBa := Ba.cell; have LBa := Ba.lt
  rcases hv1 with ⟨rfl, qz⟩ | ⟨rfl, qz⟩
  · go_wp2; go_ret; exact ⟨rfl, by repeat' (first | (with_reducible exact Ext.refl _) | (with_reducible assumption) | (with_reducible refine Ext.drewN ?_ _) | (with_reducible refine Ext.drew ?_) | (with_reducible refine Ext.alloc ?_ _) | (with_reducible refine Ext.setCell ?_ ?_ _) | (with_reducible refine Ext.setRow ?_ ?_ _) | (with_reducible exact Nat.le_refl _) | (with_reducible refine Ext.trans ?_ (by assumption)) | omega)⟩
  have qz2 := qz
  (rw [hS] at qz2; try simp only [] at qz2)
  go_wp2_with fail
  refine (szEntryS_c _ _ _ _ (length_flEntry _) _ (h1_0.ext (by repeat' (first | (with_reducible exact Ext.refl _) | (with_reducible assumption) | (with_reducible refine Ext.drewN ?_ _) | (with_reducible refine Ext.drew ?_) | (with_reducible refine Ext.alloc ?_ _) | (with_reducible refine Ext.setCell ?_ ?_ _) | (with_reducible refine Ext.setRow ?_ ?_ _) | (with_reducible exact Nat.le_refl _) | (with_reducible refine Ext.trans ?_ (by assumption)) | omega))) ?_ ?_).mono ?_
  · omega
  · omega
  rintro e w2 ⟨v2, rfl, hx2, hv2⟩
  have X2 : Ext w1 w2 := by repeat' (first | (with_reducible exact Ext.refl _) | (with_reducible assumption) | (with_reducible refine Ext.drewN ?_ _) | (with_reducible refine Ext.drew ?_) | (with_reducible refine Ext.alloc ?_ _) | (with_reducible refine Ext.setCell ?_ ?_ _) | (with_reducible refine Ext.setRow ?_ ?_ _) | (with_reducible exact Nat.le_refl _) | (with_reducible refine Ext.trans ?_ (by assumption)) | omega)
  have Z2 := X2.size
  have E2 : Ext w w2 := E1.trans X2
  have Ba := Ba.ext X2
  clear hx2
  clear CBa LBa
  have CBa := Ba.cell; have LBa := Ba.lt
  rcases hv2 with ⟨rfl, qy⟩ | ⟨rfl, qy⟩
  · go_wp2; go_ret; exact ⟨rfl, by repeat' (first | (with_reducible exact Ext.refl _) | (with_reducible assumption) | (with_reducible refine Ext.drewN ?_ _) | (with_reducible refine Ext.drew ?_) | (with_reducible refine Ext.alloc ?_ _) | (with_reducible refine Ext.setCell ?_ ?_ _) | (with_reducible refine Ext.setRow ?_ ?_ _) | (with_reducible exact Nat.le_refl _) | (with_reducible refine Ext.trans ?_ (by assumption)) | omega)⟩
  have qf : l1_0.length ≤ 1048576 := by omega
  have q0 : S.Pairs.length ≤ 1048576 := by omega
  have q1 : S.Jobs.length ≤ 1048576 := by omega
  have nx := numState_le (s := S) q0 q1
  have nb := fldD_num S l1_0
  clear hS h0_2 h0_3
  go_wp2_with fail
  refine (to_State (h0.ext (by repeat' (first | (with_reducible exact Ext.refl _) | (with_reducible assumption) | (with_reducible refine Ext.drewN ?_ _) | (with_reducible refine Ext.drew ?_) | (with_reducible refine Ext.alloc ?_ _) | (with_reducible refine Ext.setCell ?_ ?_ _) | (with_reducible refine Ext.setRow ?_ ?_ _) | (with_reducible exact Nat.le_refl _) | (with_reducible refine Ext.trans ?_ (by assumption)) | omega))) q0 q1).mono ?_
  rintro e w3 ⟨_, rfl, hx3, Fu, gu⟩
  obtain ⟨au2, nu2, ku2, au3, nu3, ku3, rfl⟩ := gu.rd.shape
  have lu := gu.low; (try simp only [World.size_alloc] at lu)
  have X3 : Ext w2 w3 := by repeat' (first | (with_reducible exact Ext.refl _) | (with_reducible assumption) | (with_reducible refine Ext.drewN ?_ _) | (with_reducible refine Ext.drew ?_) | (with_reducible refine Ext.alloc ?_ _) | (with_reducible refine Ext.setCell ?_ ?_ _) | (with_reducible refine Ext.setRow ?_ ?_ _) | (with_reducible exact Nat.le_refl _) | (with_reducible refine Ext.trans ?_ (by assumption)) | omega)
  have Z3 := X3.size
  have E3 : Ext w w3 := E2.trans X3
  have Ba := Ba.ext X3
  clear hx3
  clear CBa LBa
  have CBa := Ba.cell; have LBa := Ba.lt
  go_wp2_with fail
  refine (toEntryS_c _ _ _ _ (length_flEntry _) (h1_0.ext (by repeat' (first | (with_reducible exact Ext.refl _) | (with_reducible assumption) | (with_reducible refine Ext.drewN ?_ _) | (with_reducible refine Ext.drew ?_) | (with_reducible refine Ext.alloc ?_ _) | (with_reducible refine Ext.setCell ?_ ?_ _) | (with_reducible refine Ext.setRow ?_ ?_ _) | (with_reducible exact Nat.le_refl _) | (with_reducible refine Ext.trans ?_ (by assumption)) | omega))) qf).mono ?_
  rintro e w4 ⟨_, rfl, hx4, gfu⟩
  obtain ⟨afu, nfu, kfu, rfl⟩ := gfu.shape
  have lfu := gfu.foot; (try simp only [World.size_alloc] at lfu)
  have X4 : Ext w3 w4 := by repeat' (first | (with_reducible exact Ext.refl _) | (with_reducible assumption) | (with_reducible refine Ext.drewN ?_ _) | (with_reducible refine Ext.drew ?_) | (with_reducible refine Ext.alloc ?_ _) | (with_reducible refine Ext.setCell ?_ ?_ _) | (with_reducible refine Ext.setRow ?_ ?_ _) | (with_reducible exact Nat.le_refl _) | (with_reducible refine Ext.trans ?_ (by assumption)) | omega)
  have Z4 := X4.size
  have E4 : Ext w w4 := E3.trans X4
  have Ba := Ba.ext X4
  have gu := gu.ext X4
  clear hx4
  clear CBa LBa
  have CBa := Ba.cell; have LBa := Ba.lt
  go_wp2_with fail
  refine (sFolded_f ((gu.rd).ext (by repeat' (first | (with_reducible exact Ext.refl _) | (with_reducible assumption) | (with_reducible refine Ext.drewN ?_ _) | (with_reducible refine Ext.drew ?_) | (with_reducible refine Ext.alloc ?_ _) | (with_reducible refine Ext.setCell ?_ ?_ _) | (with_reducible refine Ext.setRow ?_ ?_ _) | (with_reducible exact Nat.le_refl _) | (with_reducible refine Ext.trans ?_ (by assumption)) | omega))) (OwnI.ints (gfu.ext (by repeat' (first | (with_reducible exact Ext.refl _) | (with_reducible assumption) | (with_reducible refine Ext.drewN ?_ _) | (with_reducible refine Ext.drew ?_) | (with_reducible refine Ext.alloc ?_ _) | (with_reducible refine Ext.setCell ?_ ?_ _) | (with_reducible refine Ext.setRow ?_ ?_ _) | (with_reducible exact Nat.le_refl _) | (with_reducible refine Ext.trans ?_ (by assumption)) | omega))))).mono ?_
  rintro e w5 ⟨_, rfl, hx5, vw, rfl, Fw, gw⟩
  obtain ⟨aw2, nw2, kw2, aw3, nw3, kw3, rfl⟩ := gw.rd.shape
  have lw := gw.low; (try simp only [World.size_alloc] at lw)
  have X5 : Ext w4 w5 := by repeat' (first | (with_reducible exact Ext.refl _) | (with_reducible assumption) | (with_reducible refine Ext.drewN ?_ _) | (with_reducible refine Ext.drew ?_) | (with_reducible refine Ext.alloc ?_ _) | (with_reducible refine Ext.setCell ?_ ?_ _) | (with_reducible refine Ext.setRow ?_ ?_ _) | (with_reducible exact Nat.le_refl _) | (with_reducible refine Ext.trans ?_ (by assumption)) | omega)
  have Z5 := X5.size
  have E5 : Ext w w5 := E4.trans X5
  have Ba := Ba.ext X5
  have gu := gu.ext X5
  have gfu := gfu.ext X5
  clear hx5
  clear CBa LBa
  have CBa := Ba.cell; have LBa := Ba.lt
  go_wp2_with fail
  refine (to_State (h0.ext (by repeat' (first | (with_reducible exact Ext.refl _) | (with_reducible assumption) | (with_reducible refine Ext.drewN ?_ _) | (with_reducible refine Ext.drew ?_) | (with_reducible refine Ext.alloc ?_ _) | (with_reducible refine Ext.setCell ?_ ?_ _) | (with_reducible refine Ext.setRow ?_ ?_ _) | (with_reducible exact Nat.le_refl _) | (with_reducible refine Ext.trans ?_ (by assumption)) | omega))) q0 q1).mono ?_
  rintro e w6 ⟨_, rfl, hx6, Fx, gx⟩
  obtain ⟨ax2, nx2, kx2, ax3, nx3, kx3, rfl⟩ := gx.rd.shape
  have lx := gx.low; (try simp only [World.size_alloc] at lx)
  have X6 : Ext w5 w6 := by repeat' (first | (with_reducible exact Ext.refl _) | (with_reducible assumption) | (with_reducible refine Ext.drewN ?_ _) | (with_reducible refine Ext.drew ?_) | (with_reducible refine Ext.alloc ?_ _) | (with_reducible refine Ext.setCell ?_ ?_ _) | (with_reducible refine Ext.setRow ?_ ?_ _) | (with_reducible exact Nat.le_refl _) | (with_reducible refine Ext.trans ?_ (by assumption)) | omega)
  have Bw : Blk w6 w5.heap.size 35 #[.int .i64 (fldD S l1_0).Index, .int .i64 (fldD S l1_0).Time, .slice aw2 nw2 kw2, .slice aw3 nw3 kw3, .int .i64 (fldD S l1_0).Lease.Holder, .int .i64 (fldD S l1_0).Lease.Epoch, .int .i64 (fldD S l1_0).Lease.Until] := (Blk.new w5 35 #[.int .i64 (fldD S l1_0).Index, .int .i64 (fldD S l1_0).Time, .slice aw2 nw2 kw2, .slice aw3 nw3 kw3, .int .i64 (fldD S l1_0).Lease.Holder, .int .i64 (fldD S l1_0).Lease.Epoch, .int .i64 (fldD S l1_0).Lease.Until]).ext hx6
  have MBw := Bw.lt
  have Z6 := X6.size
  have E6 : Ext w w6 := E5.trans X6
  have Ba := Ba.ext X6
  have gw := gw.ext X6
  clear hx6
  clear CBa LBa
  have CBa := Ba.cell; have LBa := Ba.lt
  have CBw := Bw.cell; have LBw := Bw.lt
  go_wp2_with fail
  refine (toEntryS_c _ _ _ _ (length_flEntry _) (h1_0.ext (by repeat' (first | (with_reducible exact Ext.refl _) | (with_reducible assumption) | (with_reducible refine Ext.drewN ?_ _) | (with_reducible refine Ext.drew ?_) | (with_reducible refine Ext.alloc ?_ _) | (with_reducible refine Ext.setCell ?_ ?_ _) | (with_reducible refine Ext.setRow ?_ ?_ _) | (with_reducible exact Nat.le_refl _) | (with_reducible refine Ext.trans ?_ (by assumption)) | omega))) qf).mono ?_
  rintro e w7 ⟨_, rfl, hx7, gfx⟩
  obtain ⟨afx, nfx, kfx, rfl⟩ := gfx.shape
  have lfx := gfx.foot; (try simp only [World.size_alloc] at lfx)
  have X7 : Ext w6 w7 := by repeat' (first | (with_reducible exact Ext.refl _) | (with_reducible assumption) | (with_reducible refine Ext.drewN ?_ _) | (with_reducible refine Ext.drew ?_) | (with_reducible refine Ext.alloc ?_ _) | (with_reducible refine Ext.setCell ?_ ?_ _) | (with_reducible refine Ext.setRow ?_ ?_ _) | (with_reducible exact Nat.le_refl _) | (with_reducible refine Ext.trans ?_ (by assumption)) | omega)
  have Bx : Blk w7 w6.heap.size 35 #[.int .i64 S.Index, .int .i64 S.Time, .slice ax2 nx2 kx2, .slice ax3 nx3 kx3, .int .i64 S.Lease.Holder, .int .i64 S.Lease.Epoch, .int .i64 S.Lease.Until] := (Blk.new w6 35 #[.int .i64 S.Index, .int .i64 S.Time, .slice ax2 nx2 kx2, .slice ax3 nx3 kx3, .int .i64 S.Lease.Holder, .int .i64 S.Lease.Epoch, .int .i64 S.Lease.Until]).ext hx7
  have MBx := Bx.lt
  have Z7 := X7.size
  have E7 : Ext w w7 := E6.trans X7
  have Ba := Ba.ext X7
  have gw := gw.ext X7
  have Bw := Bw.ext X7
  have gx := gx.ext X7
  clear hx7
  clear CBa LBa CBw LBw
  have CBa := Ba.cell; have LBa := Ba.lt
  have CBw := Bw.cell; have LBw := Bw.lt
  have CBx := Bx.cell; have LBx := Bx.lt
  go_wp2_with fail
  refine (folded_f ((gx.rd).ext (by repeat' (first | (with_reducible exact Ext.refl _) | (with_reducible assumption) | (with_reducible refine Ext.drewN ?_ _) | (with_reducible refine Ext.drew ?_) | (with_reducible refine Ext.alloc ?_ _) | (with_reducible refine Ext.setCell ?_ ?_ _) | (with_reducible refine Ext.setRow ?_ ?_ _) | (with_reducible exact Nat.le_refl _) | (with_reducible refine Ext.trans ?_ (by assumption)) | omega))) (OwnI.ints (gfx.ext (by repeat' (first | (with_reducible exact Ext.refl _) | (with_reducible assumption) | (with_reducible refine Ext.drewN ?_ _) | (with_reducible refine Ext.drew ?_) | (with_reducible refine Ext.alloc ?_ _) | (with_reducible refine Ext.setCell ?_ ?_ _) | (with_reducible refine Ext.setRow ?_ ?_ _) | (with_reducible exact Nat.le_refl _) | (with_reducible refine Ext.trans ?_ (by assumption)) | omega))))).mono ?_
  rintro e w8 ⟨_, rfl, hx8, vg, rfl, Fg, gg⟩
  obtain ⟨ag2, ng2, kg2, ag3, ng3, kg3, rfl⟩ := gg.rd.shape
  have lg := gg.low; (try simp only [World.size_alloc] at lg)
  have X8 : Ext w7 w8 := by repeat' (first | (with_reducible exact Ext.refl _) | (with_reducible assumption) | (with_reducible refine Ext.drewN ?_ _) | (with_reducible refine Ext.drew ?_) | (with_reducible refine Ext.alloc ?_ _) | (with_reducible refine Ext.setCell ?_ ?_ _) | (with_reducible refine Ext.setRow ?_ ?_ _) | (with_reducible exact Nat.le_refl _) | (with_reducible refine Ext.trans ?_ (by assumption)) | omega)
  have Z8 := X8.size
  have E8 : Ext w w8 := E7.trans X8
  have Ba := Ba.ext X8
  have gw := gw.ext X8
  have Bw := Bw.ext X8
  have gx := gx.ext X8
  have Bx := Bx.ext X8
  have gfx := gfx.ext X8
  clear hx8
  clear CBa LBa CBw LBw CBx LBx
  have CBa := Ba.cell; have LBa := Ba.lt
  have CBw := Bw.cell; have LBw := Bw.lt
  have CBx := Bx.cell; have LBx := Bx.lt
  as_aux_lemma =>
    go_wp2_with fail
    refine (eq_State ((gg.rd).ext (by repeat' (first | (with_reducible exact Ext.refl _) | (with_reducible assumption) | (with_reducible refine Ext.drewN ?_ _) | (with_reducible refine Ext.drew ?_) | (with_reducible refine Ext.alloc ?_ _) | (with_reducible refine Ext.setCell ?_ ?_ _) | (with_reducible refine Ext.setRow ?_ ?_ _) | (with_reducible exact Nat.le_refl _) | (with_reducible refine Ext.trans ?_ (by assumption)) | omega))) ((gw.rd).ext (by repeat' (first | (with_reducible exact Ext.refl _) | (with_reducible assumption) | (with_reducible refine Ext.drewN ?_ _) | (with_reducible refine Ext.drew ?_) | (with_reducible refine Ext.alloc ?_ _) | (with_reducible refine Ext.setCell ?_ ?_ _) | (with_reducible refine Ext.setRow ?_ ?_ _) | (with_reducible exact Nat.le_refl _) | (with_reducible refine Ext.trans ?_ (by assumption)) | omega)))).mono ?_
    rintro e w9 ⟨rfl, hx9⟩
    have X9 : Ext w8 w9 := by repeat' (first | (with_reducible exact Ext.refl _) | (with_reducible assumption) | (with_reducible refine Ext.drewN ?_ _) | (with_reducible refine Ext.drew ?_) | (with_reducible refine Ext.alloc ?_ _) | (with_reducible refine Ext.setCell ?_ ?_ _) | (with_reducible refine Ext.setRow ?_ ?_ _) | (with_reducible exact Nat.le_refl _) | (with_reducible refine Ext.trans ?_ (by assumption)) | omega)
    have Bg : Blk w9 w8.heap.size 35 #[.int .i64 (fldD S l1_0).Index, .int .i64 (fldD S l1_0).Time, .slice ag2 ng2 kg2, .slice ag3 ng3 kg3, .int .i64 (fldD S l1_0).Lease.Holder, .int .i64 (fldD S l1_0).Lease.Epoch, .int .i64 (fldD S l1_0).Lease.Until] := (Blk.new w8 35 #[.int .i64 (fldD S l1_0).Index, .int .i64 (fldD S l1_0).Time, .slice ag2 ng2 kg2, .slice ag3 ng3 kg3, .int .i64 (fldD S l1_0).Lease.Holder, .int .i64 (fldD S l1_0).Lease.Epoch, .int .i64 (fldD S l1_0).Lease.Until]).ext hx9
    have MBg := Bg.lt
    have Z9 := X9.size
    have E9 : Ext w w9 := E8.trans X9
    have Ba := Ba.ext X9
    have gw := gw.ext X9
    have Bw := Bw.ext X9
    have gx := gx.ext X9
    have Bx := Bx.ext X9
    have gfx := gfx.ext X9
    have gg := gg.ext X9
    clear hx9
    clear CBa LBa CBw LBw CBx LBx
    have CBa := Ba.cell; have LBa := Ba.lt
    have CBw := Bw.cell; have LBw := Bw.lt
    have CBx := Bx.cell; have LBx := Bx.lt
    have CBg := Bg.cell; have LBg := Bg.lt
    go_wp2_with fail
    have ya0 : ∀ w', Ext w9 w' → w'.cell? ⟨_, 0, none⟩ = some (.int .i64 c0_0) := fun w' hw => (Ba.ext hw).cell 0
    have ya1 : ∀ w', Ext w9 w' → w'.cell? ⟨_, 1, none⟩ = some (.int .i64 c0_1) := fun w' hw => (Ba.ext hw).cell 1
    have ya2 : ∀ w', Ext w9 w' → w'.cell? ⟨_, 2, none⟩ = some (.slice a0_2 n0_2 k0_2) := fun w' hw => (Ba.ext hw).cell 2
    have ya3 : ∀ w', Ext w9 w' → w'.cell? ⟨_, 3, none⟩ = some (.slice a0_3 n0_3 k0_3) := fun w' hw => (Ba.ext hw).cell 3
    have ya4 : ∀ w', Ext w9 w' → w'.cell? ⟨_, 4, none⟩ = some (.int .i64 c0_4) := fun w' hw => (Ba.ext hw).cell 4
    have ya5 : ∀ w', Ext w9 w' → w'.cell? ⟨_, 5, none⟩ = some (.int .i64 c0_5) := fun w' hw => (Ba.ext hw).cell 5
    have ya6 : ∀ w', Ext w9 w' → w'.cell? ⟨_, 6, none⟩ = some (.int .i64 c0_6) := fun w' hw => (Ba.ext hw).cell 6
    have yb0 : ∀ w', Ext w9 w' → w'.cell? ⟨_, 0, none⟩ = some (.int .i64 S.Index) := fun w' hw => (Bx.ext hw).cell 0
    have yb1 : ∀ w', Ext w9 w' → w'.cell? ⟨_, 1, none⟩ = some (.int .i64 S.Time) := fun w' hw => (Bx.ext hw).cell 1
    have yb2 : ∀ w', Ext w9 w' → w'.cell? ⟨_, 2, none⟩ = some (.slice ax2 nx2 kx2) := fun w' hw => (Bx.ext hw).cell 2
    have yb3 : ∀ w', Ext w9 w' → w'.cell? ⟨_, 3, none⟩ = some (.slice ax3 nx3 kx3) := fun w' hw => (Bx.ext hw).cell 3
    have yb4 : ∀ w', Ext w9 w' → w'.cell? ⟨_, 4, none⟩ = some (.int .i64 S.Lease.Holder) := fun w' hw => (Bx.ext hw).cell 4
    have yb5 : ∀ w', Ext w9 w' → w'.cell? ⟨_, 5, none⟩ = some (.int .i64 S.Lease.Epoch) := fun w' hw => (Bx.ext hw).cell 5
    have yb6 : ∀ w', Ext w9 w' → w'.cell? ⟨_, 6, none⟩ = some (.int .i64 S.Lease.Until) := fun w' hw => (Bx.ext hw).cell 6
    clear CBa LBa CBw LBw CBx LBx CBg LBg
    go_region_held3 (fun w' => Ext w9 w') (first | exact Ext.drew (Ext.refl _) | exact Ext.trans (by assumption) hx10 | exact Ext.trans (by assumption) hx11) (first | (go_at_call 11; refine (to_State (h0.ext (Ext.trans E9 (by assumption))) q0 q1).mono ?_; rintro e w10 ⟨_, rfl, hx10, Fz, gz⟩; obtain ⟨az2, nz2, kz2, az3, nz3, kz3, rfl⟩ := gz.rd.shape) | (go_at_call 14; refine (eq_State ((gx.rd).ext (by assumption)) gz.rd).mono ?_; rintro e w11 ⟨rfl, hx11⟩))
    have X11 : Ext w9 w11 := by assumption
    clear ya0 yb0 ya1 yb1 ya2 yb2 ya3 yb3 ya4 yb4 ya5 yb5 ya6 yb6 hx11
    have Z11 := X11.size; have E11 : Ext w w11 := E9.trans X11
    have Ba := Ba.ext X11
    have gw := gw.ext X11
    have Bw := Bw.ext X11
    have gx := gx.ext X11
    have Bx := Bx.ext X11
    have gfx := gfx.ext X11
    have gg := gg.ext X11
    have Bg := Bg.ext X11
    have CBa := Ba.cell; have LBa := Ba.lt
    have CBw := Bw.cell; have LBw := Bw.lt
    have CBx := Bx.cell; have LBx := Bx.lt
    have CBg := Bg.cell; have LBg := Bg.lt
    go_wp2_with fail
    refine (toEntryS_c _ _ _ _ (length_flEntry _) (h1_0.ext (by repeat' (first | (with_reducible exact Ext.refl _) | (with_reducible assumption) | (with_reducible refine Ext.drewN ?_ _) | (with_reducible refine Ext.drew ?_) | (with_reducible refine Ext.alloc ?_ _) | (with_reducible refine Ext.setCell ?_ ?_ _) | (with_reducible refine Ext.setRow ?_ ?_ _) | (with_reducible exact Nat.le_refl _) | (with_reducible refine Ext.trans ?_ (by assumption)) | omega))) qf).mono ?_
    rintro e w12 ⟨_, rfl, hx12, gfz⟩
    obtain ⟨afz, nfz, kfz, rfl⟩ := gfz.shape
    have lfz := gfz.foot; (try simp only [World.size_alloc] at lfz)
    have X12 : Ext w11 w12 := by repeat' (first | (with_reducible exact Ext.refl _) | (with_reducible assumption) | (with_reducible refine Ext.drewN ?_ _) | (with_reducible refine Ext.drew ?_) | (with_reducible refine Ext.alloc ?_ _) | (with_reducible refine Ext.setCell ?_ ?_ _) | (with_reducible refine Ext.setRow ?_ ?_ _) | (with_reducible exact Nat.le_refl _) | (with_reducible refine Ext.trans ?_ (by assumption)) | omega)
    have Z12 := X12.size
    have E12 : Ext w w12 := E11.trans X12
    have Ba := Ba.ext X12
    have gw := gw.ext X12
    have Bw := Bw.ext X12
    have gx := gx.ext X12
    have Bx := Bx.ext X12
    have gfx := gfx.ext X12
    have gg := gg.ext X12
    have Bg := Bg.ext X12
    clear hx12
    clear CBa LBa CBw LBw CBx LBx CBg LBg
    have CBa := Ba.cell; have LBa := Ba.lt
    have CBw := Bw.cell; have LBw := Bw.lt
    have CBx := Bx.cell; have LBx := Bx.lt
    have CBg := Bg.cell; have LBg := Bg.lt
    go_wp2_with fail
    refine (eqEntryS_c _ _ _ _ (OwnI.ints (gfx.ext (by repeat' (first | (with_reducible exact Ext.refl _) | (with_reducible assumption) | (with_reducible refine Ext.drewN ?_ _) | (with_reducible refine Ext.drew ?_) | (with_reducible refine Ext.alloc ?_ _) | (with_reducible refine Ext.setCell ?_ ?_ _) | (with_reducible refine Ext.setRow ?_ ?_ _) | (with_reducible exact Nat.le_refl _) | (with_reducible refine Ext.trans ?_ (by assumption)) | omega)))) (OwnI.ints (gfz.ext (by repeat' (first | (with_reducible exact Ext.refl _) | (with_reducible assumption) | (with_reducible refine Ext.drewN ?_ _) | (with_reducible refine Ext.drew ?_) | (with_reducible refine Ext.alloc ?_ _) | (with_reducible refine Ext.setCell ?_ ?_ _) | (with_reducible refine Ext.setRow ?_ ?_ _) | (with_reducible exact Nat.le_refl _) | (with_reducible refine Ext.trans ?_ (by assumption)) | omega))))).mono ?_
    rintro e w13 ⟨rfl, hx13⟩
    have X13 : Ext w12 w13 := by repeat' (first | (with_reducible exact Ext.refl _) | (with_reducible assumption) | (with_reducible refine Ext.drewN ?_ _) | (with_reducible refine Ext.drew ?_) | (with_reducible refine Ext.alloc ?_ _) | (with_reducible refine Ext.setCell ?_ ?_ _) | (with_reducible refine Ext.setRow ?_ ?_ _) | (with_reducible exact Nat.le_refl _) | (with_reducible refine Ext.trans ?_ (by assumption)) | omega)
    have Z13 := X13.size
    have E13 : Ext w w13 := E12.trans X13
    have Ba := Ba.ext X13
    have gw := gw.ext X13
    have Bw := Bw.ext X13
    have gx := gx.ext X13
    have Bx := Bx.ext X13
    have gfx := gfx.ext X13
    have gg := gg.ext X13
    have Bg := Bg.ext X13
    clear hx13
    clear CBa LBa CBw LBw CBx LBx CBg LBg
    have CBa := Ba.cell; have LBa := Ba.lt
    have CBw := Bw.cell; have LBw := Bw.lt
    have CBx := Bx.cell; have LBx := Bx.lt
    have CBg := Bg.cell; have LBg := Bg.lt
    as_aux_lemma =>
      go_wp2_with fail
      refine (mark_State (gx.ext (by repeat' (first | (with_reducible exact Ext.refl _) | (with_reducible assumption) | (with_reducible refine Ext.drewN ?_ _) | (with_reducible refine Ext.drew ?_) | (with_reducible refine Ext.alloc ?_ _) | (with_reducible refine Ext.setCell ?_ ?_ _) | (with_reducible refine Ext.setRow ?_ ?_ _) | (with_reducible exact Nat.le_refl _) | (with_reducible refine Ext.trans ?_ (by assumption)) | omega))) (by omega) (by have := nx; omega)).mono ?_
      rintro e w14 ⟨rfl, hx14, gxm⟩
      have X14 : Upd w13 w14 Fx := (Ext.upd (by repeat' (first | (with_reducible exact Ext.refl _) | (with_reducible assumption) | (with_reducible refine Ext.drewN ?_ _) | (with_reducible refine Ext.drew ?_) | (with_reducible refine Ext.alloc ?_ _) | (with_reducible refine Ext.setCell ?_ ?_ _) | (with_reducible refine Ext.setRow ?_ ?_ _) | (with_reducible exact Nat.le_refl _) | (with_reducible refine Ext.trans ?_ (by assumption)) | omega)) _).trans hx14
      have Z14 := X14.size
      have E14 : Ext w w14 := E13.upd_below X14 (fun k hk => by have := lx k hk; omega)
      have Ba := Ba.upd X14 (fun hk => by have := lx _ hk; omega)
      have gw := gw.upd X14 (fun k hk hk' => by have := lx k hk'; have := lw k hk; omega)
      have Bw := Bw.upd X14 (fun hk => by have := lx _ hk; omega)
      have Bx := Bx.upd X14 (fun hk => by have := lx _ hk; omega)
      have gfx := OwnI.upd' gfx X14 (fun k hk hk' => by have := lx k hk'; have := lfx k hk; omega)
      have gg := gg.upd X14 (fun k hk hk' => by have := lx k hk'; have := lg k hk; omega)
      have Bg := Bg.upd X14 (fun hk => by have := lx _ hk; omega)
      obtain ⟨K, hK⟩ : ∃ z : Int, z = 1 + ((numState (S) : Nat) : Int) := ⟨_, rfl⟩
      rw [← hK]
      have pK : 0 ≤ K := by omega
      have rK : K ≤ 1000000000 := by have := nx; omega
      have HK := Lib.hid hK
      clear hK
      have dK : decide (K < 0) = false := by simp; omega
      clear hx14
      clear CBa LBa CBw LBw CBx LBx CBg LBg
      have CBa := Ba.cell; have LBa := Ba.lt
      have CBw := Bw.cell; have LBw := Bw.lt
      have CBx := Bx.cell; have LBx := Bx.lt
      have CBg := Bg.cell; have LBg := Bg.lt
      go_wp2_with fail
      refine (markEntryS_c _ _ _ _ _ (length_flEntry _) K (gfx.ext (by repeat' (first | (with_reducible exact Ext.refl _) | (with_reducible assumption) | (with_reducible refine Ext.drewN ?_ _) | (with_reducible refine Ext.drew ?_) | (with_reducible refine Ext.alloc ?_ _) | (with_reducible refine Ext.setCell ?_ ?_ _) | (with_reducible refine Ext.setRow ?_ ?_ _) | (with_reducible exact Nat.le_refl _) | (with_reducible refine Ext.trans ?_ (by assumption)) | omega))) (by omega) (by omega)).mono ?_
      rintro e w15 ⟨rfl, hx15, -⟩
      have X15 : Upd w14 w15 (feet [.slice afx nfx kfx]) := (Ext.upd (by repeat' (first | (with_reducible exact Ext.refl _) | (with_reducible assumption) | (with_reducible refine Ext.drewN ?_ _) | (with_reducible refine Ext.drew ?_) | (with_reducible refine Ext.alloc ?_ _) | (with_reducible refine Ext.setCell ?_ ?_ _) | (with_reducible refine Ext.setRow ?_ ?_ _) | (with_reducible exact Nat.le_refl _) | (with_reducible refine Ext.trans ?_ (by assumption)) | omega)) _).trans hx15
      have Z15 := X15.size
      have E15 : Ext w w15 := E14.upd_below X15 (fun k hk => by have := lfx k hk; omega)
      have Ba := Ba.upd X15 (fun hk => by have := lfx _ hk; omega)
      have gw := gw.upd X15 (fun k hk hk' => by have := lfx k hk'; have := lw k hk; omega)
      have Bw := Bw.upd X15 (fun hk => by have := lfx _ hk; omega)
      have Bx := Bx.upd X15 (fun hk => by have := lfx _ hk; omega)
      have gg := gg.upd X15 (fun k hk hk' => by have := lfx k hk'; have := lg k hk; omega)
      have Bg := Bg.upd X15 (fun hk => by have := lfx _ hk; omega)
      obtain ⟨K2, hK2⟩ : ∃ z : Int, z = K + ((l1_0.length * 9 : Nat) : Int) := ⟨_, rfl⟩
      rw [← hK2]
      have pK2 : 0 ≤ K2 := by omega
      clear hK2
      have dK2 : decide (K2 < 0) = false := by simp; omega
      clear hx15
      clear CBa LBa CBw LBw CBx LBx CBg LBg
      have CBa := Ba.cell; have LBa := Ba.lt
      have CBw := Bw.cell; have LBw := Bw.lt
      have CBx := Bx.cell; have LBx := Bx.lt
      have CBg := Bg.cell; have LBg := Bg.lt
      go_wp2_with fail
      refine (eq_State ((gg.rd).ext (by repeat' (first | (with_reducible exact Ext.refl _) | (with_reducible assumption) | (with_reducible refine Ext.drewN ?_ _) | (with_reducible refine Ext.drew ?_) | (with_reducible refine Ext.alloc ?_ _) | (with_reducible refine Ext.setCell ?_ ?_ _) | (with_reducible refine Ext.setRow ?_ ?_ _) | (with_reducible exact Nat.le_refl _) | (with_reducible refine Ext.trans ?_ (by assumption)) | omega))) ((gw.rd).ext (by repeat' (first | (with_reducible exact Ext.refl _) | (with_reducible assumption) | (with_reducible refine Ext.drewN ?_ _) | (with_reducible refine Ext.drew ?_) | (with_reducible refine Ext.alloc ?_ _) | (with_reducible refine Ext.setCell ?_ ?_ _) | (with_reducible refine Ext.setRow ?_ ?_ _) | (with_reducible exact Nat.le_refl _) | (with_reducible refine Ext.trans ?_ (by assumption)) | omega)))).mono ?_
      rintro e w16 ⟨rfl, hx16⟩
      have X16 : Ext w15 w16 := by repeat' (first | (with_reducible exact Ext.refl _) | (with_reducible assumption) | (with_reducible refine Ext.drewN ?_ _) | (with_reducible refine Ext.drew ?_) | (with_reducible refine Ext.alloc ?_ _) | (with_reducible refine Ext.setCell ?_ ?_ _) | (with_reducible refine Ext.setRow ?_ ?_ _) | (with_reducible exact Nat.le_refl _) | (with_reducible refine Ext.trans ?_ (by assumption)) | omega)
      have Z16 := X16.size
      have E16 : Ext w w16 := E15.trans X16
      have Ba := Ba.ext X16
      have gw := gw.ext X16
      have Bw := Bw.ext X16
      have Bx := Bx.ext X16
      have gg := gg.ext X16
      have Bg := Bg.ext X16
      clear hx16
      clear CBa LBa CBw LBw CBx LBx CBg LBg
      have CBa := Ba.cell; have LBa := Ba.lt
      have CBw := Bw.cell; have LBw := Bw.lt
      have CBx := Bx.cell; have LBx := Bx.lt
      have CBg := Bg.cell; have LBg := Bg.lt
      go_wp2_with fail
      refine (mark_State (gg.ext (by repeat' (first | (with_reducible exact Ext.refl _) | (with_reducible assumption) | (with_reducible refine Ext.drewN ?_ _) | (with_reducible refine Ext.drew ?_) | (with_reducible refine Ext.alloc ?_ _) | (with_reducible refine Ext.setCell ?_ ?_ _) | (with_reducible refine Ext.setRow ?_ ?_ _) | (with_reducible exact Nat.le_refl _) | (with_reducible refine Ext.trans ?_ (by assumption)) | omega))) (by omega) (by have := nb; omega)).mono ?_
      rintro e w17 ⟨rfl, hx17, gm⟩
      have X17 : Upd w16 w17 Fg := (Ext.upd (by repeat' (first | (with_reducible exact Ext.refl _) | (with_reducible assumption) | (with_reducible refine Ext.drewN ?_ _) | (with_reducible refine Ext.drew ?_) | (with_reducible refine Ext.alloc ?_ _) | (with_reducible refine Ext.setCell ?_ ?_ _) | (with_reducible refine Ext.setRow ?_ ?_ _) | (with_reducible exact Nat.le_refl _) | (with_reducible refine Ext.trans ?_ (by assumption)) | omega)) _).trans hx17
      have Z17 := X17.size
      have E17 : Ext w w17 := E16.upd_below X17 (fun k hk => by have := lg k hk; omega)
      have Ba := Ba.upd X17 (fun hk => by have := lg _ hk; omega)
      have gw := gw.upd X17 (fun k hk hk' => by have := lg k hk'; have := lw k hk; omega)
      have Bw := Bw.upd X17 (fun hk => by have := lg _ hk; omega)
      have Bx := Bx.upd X17 (fun hk => by have := lg _ hk; omega)
      have Bg := Bg.upd X17 (fun hk => by have := lg _ hk; omega)
      obtain ⟨N, hN⟩ : ∃ z : Int, z = 1 + ((numState (fldD S l1_0) : Nat) : Int) := ⟨_, rfl⟩
      rw [← hN]
      have pN : 0 ≤ N := by omega
      have rN : N ≤ 1000000000 := by have := nb; omega
      have HN := Lib.hid hN
      clear hN
      have dN : decide (N < 0) = false := by simp; omega
      clear hx17
      clear CBa LBa CBw LBw CBx LBx CBg LBg
      have CBa := Ba.cell; have LBa := Ba.lt
      have CBw := Bw.cell; have LBw := Bw.lt
      have CBx := Bx.cell; have LBx := Bx.lt
      have CBg := Bg.cell; have LBg := Bg.lt
      go_wp2_with fail
      refine (held_State (gm.ext (by repeat' (first | (with_reducible exact Ext.refl _) | (with_reducible assumption) | (with_reducible refine Ext.drewN ?_ _) | (with_reducible refine Ext.drew ?_) | (with_reducible refine Ext.alloc ?_ _) | (with_reducible refine Ext.setCell ?_ ?_ _) | (with_reducible refine Ext.setRow ?_ ?_ _) | (with_reducible exact Nat.le_refl _) | (with_reducible refine Ext.trans ?_ (by assumption)) | omega))) (by omega) (by have := nb; omega)).mono ?_
      rintro e w18 ⟨rfl, hx18⟩
      rw [← HN.out]
      have X18 : Ext w17 w18 := by repeat' (first | (with_reducible exact Ext.refl _) | (with_reducible assumption) | (with_reducible refine Ext.drewN ?_ _) | (with_reducible refine Ext.drew ?_) | (with_reducible refine Ext.alloc ?_ _) | (with_reducible refine Ext.setCell ?_ ?_ _) | (with_reducible refine Ext.setRow ?_ ?_ _) | (with_reducible exact Nat.le_refl _) | (with_reducible refine Ext.trans ?_ (by assumption)) | omega)
      have Z18 := X18.size
      have E18 : Ext w w18 := E17.trans X18
      have Ba := Ba.ext X18
      have gw := gw.ext X18
      have Bw := Bw.ext X18
      have Bx := Bx.ext X18
      have Bg := Bg.ext X18
      have gm := gm.ext X18
      clear hx18
      clear CBa LBa CBw LBw CBx LBx CBg LBg
      have CBa := Ba.cell; have LBa := Ba.lt
      have CBw := Bw.cell; have LBw := Bw.lt
      have CBx := Bx.cell; have LBx := Bx.lt
      have CBg := Bg.cell; have LBg := Bg.lt
      go_wp2_with fail
      refine (to_State (h0.ext (by repeat' (first | (with_reducible exact Ext.refl _) | (with_reducible assumption) | (with_reducible refine Ext.drewN ?_ _) | (with_reducible refine Ext.drew ?_) | (with_reducible refine Ext.alloc ?_ _) | (with_reducible refine Ext.setCell ?_ ?_ _) | (with_reducible refine Ext.setRow ?_ ?_ _) | (with_reducible exact Nat.le_refl _) | (with_reducible refine Ext.trans ?_ (by assumption)) | omega))) q0 q1).mono ?_
      rintro e w19 ⟨_, rfl, hx19, Fy, gy⟩
      obtain ⟨ay2, ny2, ky2, ay3, ny3, ky3, rfl⟩ := gy.rd.shape
      have ly := gy.low; (try simp only [World.size_alloc] at ly)
      have X19 : Ext w18 w19 := by repeat' (first | (with_reducible exact Ext.refl _) | (with_reducible assumption) | (with_reducible refine Ext.drewN ?_ _) | (with_reducible refine Ext.drew ?_) | (with_reducible refine Ext.alloc ?_ _) | (with_reducible refine Ext.setCell ?_ ?_ _) | (with_reducible refine Ext.setRow ?_ ?_ _) | (with_reducible exact Nat.le_refl _) | (with_reducible refine Ext.trans ?_ (by assumption)) | omega)
      have Z19 := X19.size
      have E19 : Ext w w19 := E18.trans X19
      have Ba := Ba.ext X19
      have gw := gw.ext X19
      have Bw := Bw.ext X19
      have Bx := Bx.ext X19
      have Bg := Bg.ext X19
      have gm := gm.ext X19
      clear hx19
      clear CBa LBa CBw LBw CBx LBx CBg LBg
      have CBa := Ba.cell; have LBa := Ba.lt
      have CBw := Bw.cell; have LBw := Bw.lt
      have CBx := Bx.cell; have LBx := Bx.lt
      have CBg := Bg.cell; have LBg := Bg.lt
      go_wp2_with fail
      refine (toEntryS_c _ _ _ _ (length_flEntry _) (h1_0.ext (by repeat' (first | (with_reducible exact Ext.refl _) | (with_reducible assumption) | (with_reducible refine Ext.drewN ?_ _) | (with_reducible refine Ext.drew ?_) | (with_reducible refine Ext.alloc ?_ _) | (with_reducible refine Ext.setCell ?_ ?_ _) | (with_reducible refine Ext.setRow ?_ ?_ _) | (with_reducible exact Nat.le_refl _) | (with_reducible refine Ext.trans ?_ (by assumption)) | omega))) qf).mono ?_
      rintro e w20 ⟨_, rfl, hx20, gfy⟩
      obtain ⟨afy, nfy, kfy, rfl⟩ := gfy.shape
      have lfy := gfy.foot; (try simp only [World.size_alloc] at lfy)
      have X20 : Ext w19 w20 := by repeat' (first | (with_reducible exact Ext.refl _) | (with_reducible assumption) | (with_reducible refine Ext.drewN ?_ _) | (with_reducible refine Ext.drew ?_) | (with_reducible refine Ext.alloc ?_ _) | (with_reducible refine Ext.setCell ?_ ?_ _) | (with_reducible refine Ext.setRow ?_ ?_ _) | (with_reducible exact Nat.le_refl _) | (with_reducible refine Ext.trans ?_ (by assumption)) | omega)
      have Z20 := X20.size
      have E20 : Ext w w20 := E19.trans X20
      have Ba := Ba.ext X20
      have gw := gw.ext X20
      have Bw := Bw.ext X20
      have Bx := Bx.ext X20
      have Bg := Bg.ext X20
      have gm := gm.ext X20
      have gy := gy.ext X20
      clear hx20
      clear CBa LBa CBw LBw CBx LBx CBg LBg
      have CBa := Ba.cell; have LBa := Ba.lt
      have CBw := Bw.cell; have LBw := Bw.lt
      have CBx := Bx.cell; have LBx := Bx.lt
      have CBg := Bg.cell; have LBg := Bg.lt
      go_wp2_with fail
      refine (folded_f ((gy.rd).ext (by repeat' (first | (with_reducible exact Ext.refl _) | (with_reducible assumption) | (with_reducible refine Ext.drewN ?_ _) | (with_reducible refine Ext.drew ?_) | (with_reducible refine Ext.alloc ?_ _) | (with_reducible refine Ext.setCell ?_ ?_ _) | (with_reducible refine Ext.setRow ?_ ?_ _) | (with_reducible exact Nat.le_refl _) | (with_reducible refine Ext.trans ?_ (by assumption)) | omega))) (OwnI.ints (gfy.ext (by repeat' (first | (with_reducible exact Ext.refl _) | (with_reducible assumption) | (with_reducible refine Ext.drewN ?_ _) | (with_reducible refine Ext.drew ?_) | (with_reducible refine Ext.alloc ?_ _) | (with_reducible refine Ext.setCell ?_ ?_ _) | (with_reducible refine Ext.setRow ?_ ?_ _) | (with_reducible exact Nat.le_refl _) | (with_reducible refine Ext.trans ?_ (by assumption)) | omega))))).mono ?_
      rintro e w21 ⟨_, rfl, hx21, vh, rfl, Fh, gh⟩
      obtain ⟨ah2, nh2, kh2, ah3, nh3, kh3, rfl⟩ := gh.rd.shape
      have lh := gh.low; (try simp only [World.size_alloc] at lh)
      have X21 : Ext w20 w21 := by repeat' (first | (with_reducible exact Ext.refl _) | (with_reducible assumption) | (with_reducible refine Ext.drewN ?_ _) | (with_reducible refine Ext.drew ?_) | (with_reducible refine Ext.alloc ?_ _) | (with_reducible refine Ext.setCell ?_ ?_ _) | (with_reducible refine Ext.setRow ?_ ?_ _) | (with_reducible exact Nat.le_refl _) | (with_reducible refine Ext.trans ?_ (by assumption)) | omega)
      have Z21 := X21.size
      have E21 : Ext w w21 := E20.trans X21
      have Ba := Ba.ext X21
      have gw := gw.ext X21
      have Bw := Bw.ext X21
      have Bx := Bx.ext X21
      have Bg := Bg.ext X21
      have gm := gm.ext X21
      have gy := gy.ext X21
      have gfy := gfy.ext X21
      clear hx21
      clear CBa LBa CBw LBw CBx LBx CBg LBg
      have CBa := Ba.cell; have LBa := Ba.lt
      have CBw := Bw.cell; have LBw := Bw.lt
      have CBx := Bx.cell; have LBx := Bx.lt
      have CBg := Bg.cell; have LBg := Bg.lt
      go_wp2_with fail
      refine (eq_State ((gh.rd).ext (by repeat' (first | (with_reducible exact Ext.refl _) | (with_reducible assumption) | (with_reducible refine Ext.drewN ?_ _) | (with_reducible refine Ext.drew ?_) | (with_reducible refine Ext.alloc ?_ _) | (with_reducible refine Ext.setCell ?_ ?_ _) | (with_reducible refine Ext.setRow ?_ ?_ _) | (with_reducible exact Nat.le_refl _) | (with_reducible refine Ext.trans ?_ (by assumption)) | omega))) ((gw.rd).ext (by repeat' (first | (with_reducible exact Ext.refl _) | (with_reducible assumption) | (with_reducible refine Ext.drewN ?_ _) | (with_reducible refine Ext.drew ?_) | (with_reducible refine Ext.alloc ?_ _) | (with_reducible refine Ext.setCell ?_ ?_ _) | (with_reducible refine Ext.setRow ?_ ?_ _) | (with_reducible exact Nat.le_refl _) | (with_reducible refine Ext.trans ?_ (by assumption)) | omega)))).mono ?_
      rintro e w22 ⟨rfl, hx22⟩
      have X22 : Ext w21 w22 := by repeat' (first | (with_reducible exact Ext.refl _) | (with_reducible assumption) | (with_reducible refine Ext.drewN ?_ _) | (with_reducible refine Ext.drew ?_) | (with_reducible refine Ext.alloc ?_ _) | (with_reducible refine Ext.setCell ?_ ?_ _) | (with_reducible refine Ext.setRow ?_ ?_ _) | (with_reducible exact Nat.le_refl _) | (with_reducible refine Ext.trans ?_ (by assumption)) | omega)
      have Bh : Blk w22 w21.heap.size 35 #[.int .i64 (fldD S l1_0).Index, .int .i64 (fldD S l1_0).Time, .slice ah2 nh2 kh2, .slice ah3 nh3 kh3, .int .i64 (fldD S l1_0).Lease.Holder, .int .i64 (fldD S l1_0).Lease.Epoch, .int .i64 (fldD S l1_0).Lease.Until] := (Blk.new w21 35 #[.int .i64 (fldD S l1_0).Index, .int .i64 (fldD S l1_0).Time, .slice ah2 nh2 kh2, .slice ah3 nh3 kh3, .int .i64 (fldD S l1_0).Lease.Holder, .int .i64 (fldD S l1_0).Lease.Epoch, .int .i64 (fldD S l1_0).Lease.Until]).ext hx22
      have MBh := Bh.lt
      have Z22 := X22.size
      have E22 : Ext w w22 := E21.trans X22
      have Ba := Ba.ext X22
      have gw := gw.ext X22
      have Bw := Bw.ext X22
      have Bx := Bx.ext X22
      have Bg := Bg.ext X22
      have gm := gm.ext X22
      have gh := gh.ext X22
      clear hx22
      clear CBa LBa CBw LBw CBx LBx CBg LBg
      have CBa := Ba.cell; have LBa := Ba.lt
      have CBw := Bw.cell; have LBw := Bw.lt
      have CBx := Bx.cell; have LBx := Bx.lt
      have CBg := Bg.cell; have LBg := Bg.lt
      have CBh := Bh.cell; have LBh := Bh.lt
      go_wp2_with fail
      refine (held_State (gm.ext (by repeat' (first | (with_reducible exact Ext.refl _) | (with_reducible assumption) | (with_reducible refine Ext.drewN ?_ _) | (with_reducible refine Ext.drew ?_) | (with_reducible refine Ext.alloc ?_ _) | (with_reducible refine Ext.setCell ?_ ?_ _) | (with_reducible refine Ext.setRow ?_ ?_ _) | (with_reducible exact Nat.le_refl _) | (with_reducible refine Ext.trans ?_ (by assumption)) | omega))) (by omega) (by have := nb; omega)).mono ?_
      rintro e w23 ⟨rfl, hx23⟩
      rw [← HN.out]
      have X23 : Ext w22 w23 := by repeat' (first | (with_reducible exact Ext.refl _) | (with_reducible assumption) | (with_reducible refine Ext.drewN ?_ _) | (with_reducible refine Ext.drew ?_) | (with_reducible refine Ext.alloc ?_ _) | (with_reducible refine Ext.setCell ?_ ?_ _) | (with_reducible refine Ext.setRow ?_ ?_ _) | (with_reducible exact Nat.le_refl _) | (with_reducible refine Ext.trans ?_ (by assumption)) | omega)
      have Z23 := X23.size
      have E23 : Ext w w23 := E22.trans X23
      have Ba := Ba.ext X23
      have gw := gw.ext X23
      have Bw := Bw.ext X23
      have Bx := Bx.ext X23
      have Bg := Bg.ext X23
      have gm := gm.ext X23
      have gh := gh.ext X23
      have Bh := Bh.ext X23
      clear hx23
      clear CBa LBa CBw LBw CBx LBx CBg LBg CBh LBh
      have CBa := Ba.cell; have LBa := Ba.lt
      have CBw := Bw.cell; have LBw := Bw.lt
      have CBx := Bx.cell; have LBx := Bx.lt
      have CBg := Bg.cell; have LBg := Bg.lt
      have CBh := Bh.cell; have LBh := Bh.lt
      go_wp2
      go_ret
      exact ⟨rfl, E23⟩
end Go.Proofs.YthdiaijiokoifaaGreat

-- The statement FnExactFolded: for every input the law returns true.
namespace Go.Proofs.YthdiaijiokoifaaGreat.fnExactFolded
open Go.ChangeShapes Go.WideShapes Go.ChangeAt Go.RowKit Go.G8
open Go.Proofs.YthdiaijiokoifaaGreat.facts (b2)

set_option maxRecDepth 100000 in
theorem lifted (os : Os) (started : os.Started) (H : Type) (enc : TypeId × Value → H) :
    ReturnsInHanded {} Tryz.checked os 3 .any (Rows.fnExactFoldedSpec.pre6 enc Tryz.prog Tryz.f3 Rows.fnExactFoldedRow.domain false) (Rows.fnExactFoldedSpec.post enc Tryz.prog Tryz.f3 false true false false) := by
  refine returnsInHanded_of_change (C := Tryz.checked) own started (by kernel_rfl) Tryz.func3
    (ChangeSpec.witness6 (enc := enc) (C := Tryz.checked) false ⟨#[], #[.agg #[.int .i64 0, .int .i64 0, .slice none 0 0, .slice none 0 0, .int .i64 0, .int .i64 0, .int .i64 0], .slice none 0 0], []⟩ 8 (by kernel_rfl) (by kernel_rfl) (by kernel_rfl) (by kernel_rfl)) ?_
  intro W base args ds gs before hval0 hW _ _
  have hval : ∀ (j : Nat) t v, Tryz.f3.params[j]? = some t → args[j]? = some v → Value.okWide Tryz.prog W .any base t v := hval0
  have hW' := hW
  obtain ⟨p, q, hA0, hV, rfl, hfz, hnd⟩ := hW
  have hA : DataW.TrodAll enc Tryz.prog W 0 (fun _ => true) true Tryz.f3.params.toList args.toList ds p := hA0
  rw [Tryz.params3] at hA hval
  obtain ⟨v0, vs0, d0, ds0, p0, q0, hargs, rfl, rfl, h0, r0⟩ := trodAll_cons hA
  obtain ⟨v1, vs1, d1, ds1, p1, q1, rfl, rfl, rfl, h1, r1⟩ := trodAll_cons r0
  obtain ⟨rfl, rfl, rfl⟩ := trodAll_nil r1
  obtain rfl : args = #[v0, v1] := by cases args; simp_all
  obtain ⟨rfl, rfl⟩ := trodVars_none hV
  have k0 := h0
  have lt0 : ∀ x ∈ p0, x.block < W.heap.size := by obtain ⟨m, hm⟩ := k0; exact DataW.trod_lt m _ _ _ hm
  have hv0 := hval 0 27 v0 rfl rfl
  unfold Value.okWide at hv0
  rw [Tryz.underlying27] at hv0
  obtain ⟨cs0, rfl, _, _⟩ := hv0
  obtain ⟨m0, hm0⟩ := h0
  obtain ⟨c0_0, c0_1, s0_2, l0_2, s0_3, l0_3, c0_4, c0_5, c0_6, e0, g0_2, g0_3⟩ := rl_State hm0
  obtain rfl : cs0 = #[.int .i64 c0_0, .int .i64 c0_1, s0_2, s0_3, .int .i64 c0_4, .int .i64 c0_5, .int .i64 c0_6] := by cases cs0; simp_all [Value.cells]
  have k1 := h1
  have lt1 : ∀ x ∈ p1, x.block < W.heap.size := by obtain ⟨m, hm⟩ := k1; exact DataW.trod_lt m _ _ _ hm
  obtain ⟨sa1, sn1, sc1, rfl⟩ := okWide_slice Tryz.underlying28 (hval 1 28 v1 rfl rfl)
  obtain ⟨m1, hm1⟩ := h1
  obtain ⟨s1_0, l1_0, e1, g1_0⟩ := rl_EntryS hm1
  simp [Value.cells] at e1
  subst e1
  clear hA0 hval0
  refine (law_Folded W _ _ _ _ _ _ _ _ _ _ _ g0_2 g0_3 g1_0).mono fun e W' ⟨he, bel0⟩ => ?_
  have bel : Below W.heap.size W W' := bel0
  subst he
  exact ⟨_, rfl, _, _, _, [], _, [], hW', trodAll_mk1 (shut_bool Tryz.underlying4 _), (trodAll_cons_mk (Below.trod laidOut (by kernel_rfl) (of_decide_eq_true (by kernel_rfl)) k0 bel lt0) (trodAll_cons_mk (Below.trod laidOut (by kernel_rfl) (of_decide_eq_true (by kernel_rfl)) k1 bel lt1) trodAll_mk0)), rfl, bel.frame _, fun h => by cases h⟩

theorem k0 : (Rows.fnExactFoldedRow.wf (OpenSpec.ofChange Rows.fnExactFoldedSpec)) = true := by kernel_rfl
theorem k1 : (laidOutB Tryz.checked.prog) = true := facts.k1
theorem k2 : (mapsRowed Tryz.checked.prog) = true := facts.k2
theorem k3 : (Tryz.f3.params.all (Tryz.checked.prog.readableRec ·)) = true := by kernel_rfl
theorem k4 : (namedTie Tryz.checked.prog Rows.fnExactFoldedRow.named Rows.fnExactFoldedSpec.vars) = true := by kernel_rfl
theorem k5 : ((Rows.fnExactFoldedRow.stops == [])) = true := by kernel_rfl
theorem k6 : ((Tryz.checked.prog.stops == [])) = true := facts.k6
theorem k7 : ((Rows.fnExactFoldedRow.knobs == [])) = true := by kernel_rfl
theorem k8 : ((Tryz.checked.prog.stopKnobs == [])) = true := facts.k8
theorem k9 : ((Rows.fnExactFoldedRow.inPlace == Tryz.checked.prog.inPlace 3)) = true := by kernel_rfl
theorem k10 : ((Rows.fnExactFoldedRow.unfollowed == Tryz.checked.prog.unfollowed 3)) = true := by kernel_rfl
theorem k11 : ((Rows.fnExactFoldedRow.recurses == Tryz.checked.prog.recurses 3)) = true := by kernel_rfl
theorem k12 : ((Rows.fnExactFoldedRow.named == Tryz.checked.prog.varsNamed 3)) = true := by kernel_rfl
theorem k13 : ((Rows.fnExactFoldedRow.maps == (Tryz.f3.params.toList ++ Rows.fnExactFoldedSpec.plain.varTypes Tryz.checked.prog).any (Tryz.checked.prog.mapsRec ·))) = true := by kernel_rfl
theorem k14 : ((Rows.fnExactFoldedRow.ifaces == (Tryz.f3.params.toList ++ Rows.fnExactFoldedSpec.plain.varTypes Tryz.checked.prog).any (Tryz.checked.prog.ifacesRec ·))) = true := by kernel_rfl
theorem k15 : ((Rows.fnExactFoldedRow.mapsOut == Tryz.checked.prog.mapsAmong Tryz.f3.resultTypes.toList)) = true := by kernel_rfl
theorem k16 : ((Rows.fnExactFoldedRow.loops == (Tryz.f3.params.toList ++ Rows.fnExactFoldedSpec.plain.varTypes Tryz.checked.prog).any (Tryz.checked.prog.loopsFrom ·))) = true := by kernel_rfl
theorem k17 : ((Rows.fnExactFoldedRow.wideKeys == (Tryz.f3.params.toList ++ Rows.fnExactFoldedSpec.plain.varTypes Tryz.checked.prog ++ Tryz.f3.resultTypes.toList).any (Tryz.checked.prog.wideKeysFrom ·))) = true := by kernel_rfl
theorem k18 : (Rows.fnExactFoldedSpec.vars.all (Tryz.checked.prog.varReadable ·)) = true := by kernel_rfl
theorem k19 : (Tryz.f3.resultTypes.all (fun t => Tryz.checked.prog.readableRec t && decide (t < Tryz.checked.prog.types.size))) = true := by kernel_rfl
theorem k20 : ((Rows.fnExactFoldedRow.ifacesOut == Tryz.f3.resultTypes.toList.any (Tryz.checked.prog.ifacesRec ·))) = true := by kernel_rfl
theorem k21 : ((Rows.fnExactFoldedRow.loopsOut == Tryz.f3.resultTypes.toList.any (Tryz.checked.prog.loopsFrom ·))) = true := by kernel_rfl
theorem k22 : ((Rows.fnExactFoldedRow.plainKeys == Tryz.checked.prog.plainKeys)) = true := facts.k22
theorem k23 : (Rows.fnExactFoldedRow.shortTexts.isNone) = true := by kernel_rfl
theorem k24 : (Tryz.checked.prog.stopsHeard) = true := facts.k24
theorem k25 : (Tryz.checked.prog.mayEnter) = true := facts.k25
theorem k26 : ((Rows.fnExactFoldedRow.lifted == Tryz.checked.prog.liftsFinal)) = true := facts.k26
theorem k27 : ((Tryz.checked.prog.make == some Rows.fnExactFoldedRow.make)) = true := facts.k27
theorem k28 : ((Rows.fnExactFoldedRow.kinds == (if Rows.fnExactFoldedRow.domain.isEmpty then [] else Tryz.f3.params.toList.map fun t => match Tryz.checked.prog.underlying t with | some (.int k) => some k | _ => none))) = true := by kernel_rfl
theorem k29 : ((Rows.fnExactFoldedRow.pinned == Rows.fnExactFoldedRow.pinnedBy)) = true := by kernel_rfl
theorem k30 : ((Rows.fnExactFoldedRow.veiled == (Tryz.f3.params.toList ++ Rows.fnExactFoldedSpec.plain.varTypes Tryz.checked.prog ++ Tryz.f3.resultTypes.toList).any (Tryz.checked.prog.veiledRec ·))) = true := by kernel_rfl
theorem k31 : (Rows.fnExactFoldedRow.veiledFits Tryz.checked.prog Tryz.f3.params.toList (Tryz.f3.params.toList ++ Rows.fnExactFoldedSpec.plain.varTypes Tryz.checked.prog ++ Tryz.f3.resultTypes.toList)) = true := by kernel_rfl
set_option maxRecDepth 100000 in
theorem closed : joinedFacts Tryz.checked.prog 3 Tryz.f3 Rows.fnExactFoldedSpec Rows.fnExactFoldedRow = true := by
  unfold joinedFacts
  exact (b2 (b2 (b2 (b2 (b2 (b2 (b2 (b2 (b2 (b2 (b2 (b2 (b2 (b2 (b2 (b2 (b2 (b2 (b2 (b2 (b2 (b2 (b2 (b2 (b2 (b2 (b2 (b2 (b2 (b2 (b2 k0 k1) k2) k3) k4) k5) k6) k7) k8) k9) k10) k11) k12) k13) k14) k15) k16) k17) k18) k19) k20) k21) k22) k23) k24) k25) k26) k27) k28) k29) k30) k31)

theorem proved : Rows.FnExactFoldedSaid :=
  OpenClaim.holds_of_wide 3 Tryz.f3 rfl rfl rfl rfl rfl rfl rfl ⟨rfl, rfl, rfl, rfl, rfl⟩ rfl rfl rfl rfl rfl (by as_aux_lemma => kernel_rfl) Tryz.func3 closed
    (of_decide_eq_true (by as_aux_lemma => kernel_rfl)) (by as_aux_lemma => (unfold Func.isWrapper; rw [if_neg (of_decide_eq_false (by kernel_rfl))]; exact ⟨rfl, rfl⟩))
    (fun os started H enc _ => lifted os started H enc)
end Go.Proofs.YthdiaijiokoifaaGreat.fnExactFolded
