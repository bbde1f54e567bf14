/- Contracts and plain laws: Fo Fo2 Fo3. -/
import Derived.Test.YtlnkggpemdpemaaGreatYa
import Derived.Test.YtlnkggpemdpemaaGreatYk
import Derived.Deep.DeepCutAuto
set_option linter.unusedSimpArgs false
set_option linter.unusedVariables false
set_option maxHeartbeats 8000000
set_option maxRecDepth 100000
namespace Go.G8
open Go.RowKit
open Go.Proofs.YtlnkggpemdpemaaGreat
theorem OwnI.box7 {B : Nat} {e : TypeId} {n : Nat} {w : World} {v : Value} {xs : List Int} (h : OwnI B e n w v xs) {X : Nat} {t : TypeId} {a : Array Value} (hX : Blk w X t a) (h1 : t ≠ e) (u0 u1 u2 u3 u4 u5 u6 : Value) :
  OwnI B e n (((((((w.setCell ⟨X, 0, none⟩ u0).setCell ⟨X, 1, none⟩ u1).setCell ⟨X, 2, none⟩ u2).setCell ⟨X, 3, none⟩ u3).setCell ⟨X, 4, none⟩ u4).setCell ⟨X, 5, none⟩ u5).setCell ⟨X, 6, none⟩ u6) v xs :=
 ((((((h.boxI hX h1 0 u0).boxI (hX.set_ _ _) h1 1 u1).boxI ((hX.set_ _ _).set_ _ _) h1 2 u2).boxI (((hX.set_ _ _).set_ _ _).set_ _ _) h1 3 u3).boxI ((((hX.set_ _ _).set_ _ _).set_ _ _).set_ _ _) h1 4 u4).boxI (((((hX.set_ _ _).set_ _ _).set_ _ _).set_ _ _).set_ _ _) h1 5 u5).boxI ((((((hX.set_ _ _).set_ _ _).set_ _ _).set_ _ _).set_ _ _).set_ _ _) h1 6 u6
theorem Blk.box7 {w : World} {X : Nat} {t : TypeId} {x0 x1 x2 x3 x4 x5 x6 : Value} (hX : Blk w X t #[x0, x1, x2, x3, x4, x5, x6]) (u0 u1 u2 u3 u4 u5 u6 : Value) :
  Blk (((((((w.setCell ⟨X, 0, none⟩ u0).setCell ⟨X, 1, none⟩ u1).setCell ⟨X, 2, none⟩ u2).setCell ⟨X, 3, none⟩ u3).setCell ⟨X, 4, none⟩ u4).setCell ⟨X, 5, none⟩ u5).setCell ⟨X, 6, none⟩ u6) X t #[u0, u1, u2, u3, u4, u5, u6] := by
 have := ((((((hX.set_ 0 u0).set_ 1 u1).set_ 2 u2).set_ 3 u3).set_ 4 u4).set_ 5 u5).set_ 6 u6
 simpa using this
theorem Blk.far7 {w : World} {X g : Nat} {t : TypeId} {cs : Array Value} (h : Blk w g t cs) (hn : g ≠ X) (u0 u1 u2 u3 u4 u5 u6 : Value) :
  Blk (((((((w.setCell ⟨X, 0, none⟩ u0).setCell ⟨X, 1, none⟩ u1).setCell ⟨X, 2, none⟩ u2).setCell ⟨X, 3, none⟩ u3).setCell ⟨X, 4, none⟩ u4).setCell ⟨X, 5, none⟩ u5).setCell ⟨X, 6, none⟩ u6) g t cs :=
 ((((((h.far (p := ⟨X, 0, none⟩) hn u0).far (p := ⟨X, 1, none⟩) hn u1).far (p := ⟨X, 2, none⟩) hn u2).far (p := ⟨X, 3, none⟩) hn u3).far (p := ⟨X, 4, none⟩) hn u4).far (p := ⟨X, 5, none⟩) hn u5).far (p := ⟨X, 6, none⟩) hn u6
theorem foldS_app (a b : List DEntry) : ∀ s : DState, foldS s (a ++ b) = if (foldS s a).2 = true then foldS (foldS s a).1 b else foldS s a := by
 induction a with
 | nil => intro s; simp [foldS]
 | cons e a ih =>
  intro s
  simp only [List.cons_append, foldS]
  split
  ·
   exact ih _
  rfl
theorem foldS_ok (a : List DEntry) : ∀ s : DState, stateOk s = true → stateOk (foldS s a).1 = true := by
 induction a with
 | nil => intro s h; exact h
 | cons e a ih =>
  intro s h
  simp only [foldS]
  split
  ·
   rename_i hn; exact ih _ (stepS_ok h hn)
  exact h
theorem foldS_next {s m : DState} {l : List DEntry} {k : Nat} {e : DEntry} (h : foldS s (l.take k) = (m, true)) (he : l[k]? = some e) (hn : nextIn m e = true) : foldS s (l.take (k + 1)) = (stepS m e, true) := by
 rw [List.take_add_one, he, Option.toList_some, foldS_app, h]
 simp [foldS, hn]
theorem foldS_stop {s m : DState} {l : List DEntry} {k : Nat} {e : DEntry} (h : foldS s (l.take k) = (m, true)) (he : l[k]? = some e) (hn : nextIn m e = false) : foldS s l = (m, false) := by
 have hk := (List.getElem?_eq_some_iff.1 he).1
 conv => lhs; rw [← List.take_append_drop k l]
 have hd : l.drop k = e :: l.drop (k + 1) := by
  rw [List.drop_eq_getElem_cons hk, (List.getElem?_eq_some_iff.1 he).2]
 rw [foldS_app, h, hd]
 simp [foldS, hn]
noncomputable def fldOk (s : DState) (l : List DEntry) : Bool := stateOk s && (decide (l.length ≤ 2000) && (foldS s l).2)
noncomputable def fldD (s : DState) (l : List DEntry) : DState := if stateOk s && decide (l.length ≤ 2000) then (foldS s l).1 else ⟨0, 0, [], [], ⟨0, 0, 0⟩⟩
theorem fld_no {s : DState} {l : List DEntry} (h : stateOk s = false ∨ ¬ l.length ≤ 2000) : fldOk s l = false ∧ fldD s l = ⟨0, 0, [], [], ⟨0, 0, 0⟩⟩ := by
 rcases h with h | h
 ·
  simp [fldOk, fldD, h]
 simp [fldOk, fldD, h]
theorem fld_yes {s m : DState} {l : List DEntry} {b : Bool} (h : stateOk s = true) (h1 : l.length ≤ 2000) (h2 : foldS s l = (m, b)) : fldOk s l = b ∧ fldD s l = m := by
 simp [fldOk, fldD, h, h1, h2]
end Go.G8
namespace Go.Proofs.YtlnkggpemdpemaaGreat
open Go.RowKit Go.G8
theorem sFolded_k {w : World} {v u : Value} {s : DState} {l : List DEntry} (h : RdState w v s) (hl : Ints 9 w u (flEntry l)) :
  Calls Tryz.prog 30 #[v, u] w (Ret w fun r w' => ∃ x, r = .tuple #[x, .bool (fldOk s l)] ∧ IsState w.heap.size w' x (fldD s l)) := by
 have HS := Lib.hid h
 obtain ⟨a2, n2, k2, a3, n3, k3, rfl⟩ := h.shape
 obtain ⟨a, cap, rfl, hcap, hm, ha⟩ := hl.recs (f := DEntry.ints) (fun _ => rfl) dC
 have HA := Lib.hid ha
 clear h hl ha
 unfold maxLen at hm
 obtain ⟨W1, hW1⟩ : ∃ W1, W1 = (w.alloc (.cells #[.int .i64 s.Index, .int .i64 s.Time, .slice a2 n2 k2, .slice a3 n3 k3, .int .i64 s.Lease.Holder, .int .i64 s.Lease.Epoch, .int .i64 s.Lease.Until] 39)).alloc (.cells #[.int .i64 0, .int .i64 0, .slice none 0 0, .slice none 0 0, .int .i64 0, .int .i64 0, .int .i64 0] 39) := ⟨_, rfl⟩
 have E1 : Ext w W1 := by rw [hW1]; exact ((Ext.refl _).alloc _).alloc _
 have KS1 : Blk W1 w.heap.size 39 #[.int .i64 s.Index, .int .i64 s.Time, .slice a2 n2 k2, .slice a3 n3 k3, .int .i64 s.Lease.Holder, .int .i64 s.Lease.Epoch, .int .i64 s.Lease.Until] := by rw [hW1]; exact (Blk.new _ _ _).alloc _
 have KR1 : Blk W1 (w.heap.size + 1) 39 #[.int .i64 0, .int .i64 0, .slice none 0 0, .slice none 0 0, .int .i64 0, .int .i64 0, .int .i64 0] := by rw [hW1]; exact Blk.new2 _ _ _ _
 have hz1' : w.heap.size + 1 < W1.heap.size := by rw [hW1]; simp
 have HW1 := Lib.hid hW1
 clear hW1
 go_enter Tryz.func30, Tryz.ntmps30
 go_wp2_with fail
 rw [← HW1.out]
 have CS1 := KS1.cell; have FS1 := KS1.frozen; have LS1 := KS1.lt; have CR1 := KR1.cell; have FR1 := KR1.frozen; have LR1 := KR1.lt
 go_wp2_with fail
 refine (sStateOk_k (HS.out.ext E1)).mono ?_
 rintro e9 w2 ⟨rfl, hx2⟩
 have E2 : Ext w w2 := E1.trans hx2
 have hz2 := hx2.size
 have KS2 := KS1.ext hx2; have KR2 := KR1.ext hx2
 clear CS1 FS1 LS1 CR1 FR1 LR1
 have CS2 := KS2.cell; have FS2 := KS2.frozen; have LS2 := KS2.lt; have CR2 := KR2.cell; have FR2 := KR2.frozen; have LR2 := KR2.lt
 cases hso : stateOk s
 ·
  obtain ⟨e1, e2⟩ := fld_no (l := l) (.inl hso)
  have HA1 := Lib.hid e1; have HA2 := Lib.hid e2
  clear e1 e2
  go_wp2_with fail
  refine bodyPost_ret (by simp [results, Tryz.results30, go_sem, CR2, FR2, LR2]; try rfl) rfl ?_
  refine ⟨_, rfl, by repeat' (first | (with_reducible exact Ext.refl _) | (with_reducible assumption) | (with_reducible refine Ext.drewN ?_ _) | (with_reducible refine Ext.drew ?_) | (with_reducible refine Ext.alloc ?_ _) | (with_reducible refine Ext.setCell ?_ ?_ _) | (with_reducible refine Ext.setRow ?_ ?_ _) | (with_reducible exact Nat.le_refl _) | (with_reducible refine Ext.trans ?_ (by assumption)) | omega), _, by (rw [HA1.out]; try rfl), ?_⟩
  rw [HA2.out]
  exact ⟨_, _, rfl, OwnI.nil _ _ _ _, OwnI.nil _ _ _ _⟩
 have HSO := Lib.hid hso
 clear hso
 by_cases hln : l.length ≤ 2000
 rotate_left
 ·
  obtain ⟨e1, e2⟩ := fld_no (s := s) (.inr hln)
  have HA1 := Lib.hid e1; have HA2 := Lib.hid e2
  clear e1 e2
  go_wp2_with fail
  refine bodyPost_ret (by simp [results, Tryz.results30, go_sem, CR2, FR2, LR2]; try rfl) rfl ?_
  refine ⟨_, rfl, by repeat' (first | (with_reducible exact Ext.refl _) | (with_reducible assumption) | (with_reducible refine Ext.drewN ?_ _) | (with_reducible refine Ext.drew ?_) | (with_reducible refine Ext.alloc ?_ _) | (with_reducible refine Ext.setCell ?_ ?_ _) | (with_reducible refine Ext.setRow ?_ ?_ _) | (with_reducible exact Nat.le_refl _) | (with_reducible refine Ext.trans ?_ (by assumption)) | omega), _, by (rw [HA1.out]; try rfl), ?_⟩
  rw [HA2.out]
  exact ⟨_, _, rfl, OwnI.nil _ _ _ _, OwnI.nil _ _ _ _⟩
 go_wp2_with fail
 refine (l17Copy_k (HS.out.ext E2) (stateOk_small2 HSO.out)).mono ?_
 rintro e9 w3 ⟨_, rfl, hx3, p2, p3, rfl, g2, g3⟩
 obtain ⟨c2, m4, j4, rfl⟩ := g2.shape
 obtain ⟨c3, m5, j5, rfl⟩ := g3.shape
 have hz3 := hx3.size
 obtain ⟨w4, hW4⟩ : ∃ w4, w4 = w3.alloc (.cells #[.int .i64 s.Index, .int .i64 s.Time, .slice c2 m4 j4, .slice c3 m5 j5, .int .i64 s.Lease.Holder, .int .i64 s.Lease.Epoch, .int .i64 s.Lease.Until] 39) := ⟨_, rfl⟩
 have X4 : Ext w2 w4 := by rw [hW4]; exact hx3.alloc _
 have KO4 : Blk w4 w3.heap.size 39 #[.int .i64 s.Index, .int .i64 s.Time, .slice c2 m4 j4, .slice c3 m5 j5, .int .i64 s.Lease.Holder, .int .i64 s.Lease.Epoch, .int .i64 s.Lease.Until] := by rw [hW4]; exact Blk.new _ _ _
 have hz4 : w4.heap.size = w3.heap.size + 1 := by rw [hW4]; simp
 have g2 : OwnI w.heap.size 113 2 w4 (.slice c2 m4 j4) (flPair s.Pairs) := by rw [hW4]; exact OwnI.mono (OwnI.keep g2 ((Chg.refl _ _).alloc _)) oM
 have g3 : OwnI w.heap.size 95 5 w4 (.slice c3 m5 j5) (flJob s.Jobs) := by rw [hW4]; exact OwnI.mono (OwnI.keep g3 ((Chg.refl _ _).alloc _)) oM
 have HW4 := Lib.hid hW4
 have E4 : Ext w w4 := E2.trans X4
 have HZ4 := Lib.hid hz4
 clear hW4 hz4 CS2 FS2 LS2 CR2 FR2 LR2
 have hxo : w.heap.size + 1 < w3.heap.size := by omega
 obtain ⟨X, hX⟩ : ∃ X, X = w3.heap.size := ⟨_, rfl⟩
 rw [← hX] at KO4 hxo
 have HX := Lib.hid hX
 clear hX
 have KR4 := KR2.ext X4
 go_wp2_with fail
 rw [← HW4.out, ← HX.out]
 go_loopw [7] (fun ii wr => ∃ (k : Nat) (m : DState) (b2 : Option Addr) (q2 o2 : Nat) (b3 : Option Addr) (q3 o3 : Nat), k ≤ l.length ∧ ii = .int .i64 k ∧ Ext w wr ∧ Blk wr X 39 #[.int .i64 m.Index, .int .i64 m.Time, .slice b2 q2 o2, .slice b3 q3 o3, .int .i64 m.Lease.Holder, .int .i64 m.Lease.Epoch, .int .i64 m.Lease.Until] ∧ Blk wr (w.heap.size + 1) 39 #[.int .i64 0, .int .i64 0, .slice none 0 0, .slice none 0 0, .int .i64 0, .int .i64 0, .int .i64 0] ∧ OwnI w.heap.size 113 2 wr (.slice b2 q2 o2) (flPair m.Pairs) ∧ OwnI w.heap.size 95 5 wr (.slice b3 q3 o3) (flJob m.Jobs) ∧ Hid (foldS s (l.take k) = (m, true)) ∧ Hid (stateOk m = true)) (fun ii _ => l.length - (intOf ii).toNat)
 case atStart => exact ⟨0, s, c2, m4, j4, c3, m5, j5, Nat.zero_le _, rfl, E4, KO4, KR4, g2, g3, Lib.hid rfl, HSO⟩
 case round =>
  obtain ⟨k, m, b2, q2, o2, b3, q3, o3, hk, rfl, he, KX, KR, P0, J0, hf, hmo⟩ := hrel
  have hzr := he.size
  have hRD : RdState wr (.agg #[.int .i64 m.Index, .int .i64 m.Time, .slice b2 q2 o2, .slice b3 q3 o3, .int .i64 m.Lease.Holder, .int .i64 m.Lease.Epoch, .int .i64 m.Lease.Until]) m := ⟨_, _, rfl, P0.ints, J0.ints⟩
  have HRD := Lib.hid hRD
  clear hRD
  have hxl := KX.lt
  by_cases hlt : k < l.length
  ·
   obtain ⟨d, b1, o1, hd, rfl, hb1, c⟩ := HA.out k hlt
   have d0 := he.cell (c 0 _ dC rfl)
   have d1 := he.cell (c 1 _ dC rfl)
   have d2 := he.cell (c 2 _ dC rfl)
   have d3 := he.cell (c 3 _ dC rfl)
   have d4 := he.cell (c 4 _ dC rfl)
   have d5 := he.cell (c 5 _ dC rfl)
   have d6 := he.cell (c 6 _ dC rfl)
   have d7 := he.cell (c 7 _ dC rfl)
   have d8 := he.cell (c 8 _ dC rfl)
   simp only [Nat.add_zero] at d0
   have HD := Lib.hid hd
   clear c hd
   have hdd : (⟨d.Index, d.Time, d.Client, d.Seq, ⟨d.Op.Kind, d.Op.A, d.Op.B, d.Op.C, d.Op.D⟩⟩ : DEntry) = d := rfl
   have HDD := Lib.hid hdd
   clear hdd
   have hkI : (k : Int) < (l.length : Int) := by omega
   go_wp2_with fail
   have yx0 : ∀ w', Ext wr w' → w'.cell? ⟨X, 0, none⟩ = some (.int .i64 m.Index) := fun w' hw => (KX.ext hw).cell 0
   have yx1 : ∀ w', Ext wr w' → w'.cell? ⟨X, 1, none⟩ = some (.int .i64 m.Time) := fun w' hw => (KX.ext hw).cell 1
   have yx2 : ∀ w', Ext wr w' → w'.cell? ⟨X, 2, none⟩ = some (.slice b2 q2 o2) := fun w' hw => (KX.ext hw).cell 2
   have yx3 : ∀ w', Ext wr w' → w'.cell? ⟨X, 3, none⟩ = some (.slice b3 q3 o3) := fun w' hw => (KX.ext hw).cell 3
   have yx4 : ∀ w', Ext wr w' → w'.cell? ⟨X, 4, none⟩ = some (.int .i64 m.Lease.Holder) := fun w' hw => (KX.ext hw).cell 4
   have yx5 : ∀ w', Ext wr w' → w'.cell? ⟨X, 5, none⟩ = some (.int .i64 m.Lease.Epoch) := fun w' hw => (KX.ext hw).cell 5
   have yx6 : ∀ w', Ext wr w' → w'.cell? ⟨X, 6, none⟩ = some (.int .i64 m.Lease.Until) := fun w' hw => (KX.ext hw).cell 6
   have yd0 := fun w' (hw : Ext wr w') => hw.cell d0
   have yd1 := fun w' (hw : Ext wr w') => hw.cell d1
   have yd2 := fun w' (hw : Ext wr w') => hw.cell d2
   have yd3 := fun w' (hw : Ext wr w') => hw.cell d3
   have yd4 := fun w' (hw : Ext wr w') => hw.cell d4
   have yd5 := fun w' (hw : Ext wr w') => hw.cell d5
   have yd6 := fun w' (hw : Ext wr w') => hw.cell d6
   have yd7 := fun w' (hw : Ext wr w') => hw.cell d7
   have yd8 := fun w' (hw : Ext wr w') => hw.cell d8
   clear d0 d1 d2 d3 d4 d5 d6 d7 d8
   go_cut [8, 9] (fun sx bx wx => ∃ gg v2 vn2 vc2 v3 vn3 vc3, sx = .pointer (some ⟨gg, 0, none⟩) ∧ bx = .bool (appOk m d) ∧ Ext wr wx ∧ wr.heap.size ≤ gg ∧ Blk wx gg 39 #[.int .i64 (appD m d).Index, .int .i64 (appD m d).Time, .slice v2 vn2 vc2, .slice v3 vn3 vc3, .int .i64 (appD m d).Lease.Holder, .int .i64 (appD m d).Lease.Epoch, .int .i64 (appD m d).Lease.Until] ∧ OwnI wr.heap.size 113 2 wx (.slice v2 vn2 vc2) (flPair (appD m d).Pairs) ∧ OwnI wr.heap.size 95 5 wx (.slice v3 vn3 vc3) (flJob (appD m d).Jobs))
   case first =>
    go_region_held3 (fun w' => Ext wr w') (repeat' (first | (with_reducible exact Ext.refl _) | (with_reducible assumption) | (with_reducible refine Ext.drewN ?_ _) | (with_reducible refine Ext.drew ?_) | (with_reducible refine Ext.alloc ?_ _) | (with_reducible refine Ext.setCell ?_ ?_ _) | (with_reducible refine Ext.setRow ?_ ?_ _) | (with_reducible exact Nat.le_refl _) | (with_reducible refine Ext.trans ?_ (by assumption)) | omega)) (first | (go_at_call 17; refine (sApplied_k (HRD.out.ext (by repeat' (first | (with_reducible exact Ext.refl _) | (with_reducible refine Ext.drewN ?_ _) | (with_reducible refine Ext.drew ?_) | (with_reducible refine Ext.alloc ?_ _) | (with_reducible refine Ext.setCell ?_ ?_ _) | (with_reducible refine Ext.trans ?_ hxb) | (with_reducible assumption) | omega))) d.Index d.Time d.Client d.Seq d.Op.Kind d.Op.A d.Op.B d.Op.C d.Op.D).mono ?_; rintro e9 wb ⟨_, rfl, hxb, u9, rfl, p2, p3, rfl, gp, gj⟩; obtain ⟨v2, vn2, vc2, rfl⟩ := gp.shape; obtain ⟨v3, vn3, vc3, rfl⟩ := gj.shape; have hzhxb := hxb.size; obtain ⟨hchxb, hdhxb⟩ := hxb.cells; (try simp only [World.size_alloc, size_drew] at hzhxb hchxb hdhxb); (try have hqhxbwr : wr.heap.size < wb.heap.size := oM)))
    all_goals clear yx0 yx1 yx2 yx3 yx4 yx5 yx6 yd0 yd1 yd2 yd3 yd4 yd5 yd6 yd7 yd8 hchxb hdhxb
    all_goals go_wp2_with fail
    all_goals go_meet
    all_goals case rel =>
     (try simp only [World.size_alloc, size_drew] at *)
     exact ⟨_, _, _, _, _, _, _, rfl, by first | rfl | trivial, by repeat' (first | (with_reducible exact Ext.refl _) | (with_reducible assumption) | (with_reducible refine Ext.drewN ?_ _) | (with_reducible refine Ext.drew ?_) | (with_reducible refine Ext.alloc ?_ _) | (with_reducible refine Ext.setCell ?_ ?_ _) | (with_reducible refine Ext.setRow ?_ ?_ _) | (with_reducible exact Nat.le_refl _) | (with_reducible refine Ext.trans ?_ (by assumption)) | omega), by omega, (Blk.cast (by repeat' (first | (with_reducible assumption) | (with_reducible exact Blk.new _ _ _) | (with_reducible exact Blk.new2 _ _ _ _) | (with_reducible (apply Blk.ext; rotate_left; exact hxb)) | (with_reducible apply Blk.drew) | (with_reducible apply Blk.drewN) | (with_reducible apply Blk.alloc) | (with_reducible apply Blk.set_) | (with_reducible apply Blk.row) | (with_reducible apply Blk.far) | (with_reducible apply Blk.rowFar) | omega | (simp; omega))) (by simp)), (gp.keep chgT).mono oM, (gj.keep chgT).mono oM⟩
   revert wc; intro w5 hcut
   obtain ⟨gg, v2, vn2, vc2, v3, vn3, vc3, rfl, rfl, X5, hge5, KG5, gp, gj⟩ := hcut
   clear yx0 yx1 yx2 yx3 yx4 yx5 yx6 yd0 yd1 yd2 yd3 yd4 yd5 yd6 yd7 yd8
   have KX5 := KX.ext X5; have KR5 := KR.ext X5
   have hz5 := X5.size
   have E5 := he.trans X5
   have CX5 := KX5.cell; have FX5 := KX5.frozen; have LX5 := KX5.lt; have CR5 := KR5.cell; have FR5 := KR5.frozen; have LR5 := KR5.lt; have CG5 := KG5.cell; have FG5 := KG5.frozen; have LG5 := KG5.lt
   cases hn : nextIn m d
   ·
    have ha : appOk m d = false := by simp [appOk, hn]
    rw [ha]
    obtain ⟨e1, e2⟩ := fld_yes HSO.out hln (foldS_stop hf.out HD.out hn)
    have HA1 := Lib.hid e1; have HA2 := Lib.hid e2
    clear e1 e2 hn ha
    go_wp2_with fail
    refine bodyPost_ret (by simp [results, Tryz.results30, go_sem, CR5, FR5, LR5]; try rfl) rfl ?_
    refine ⟨_, rfl, by repeat' (first | (with_reducible exact Ext.refl _) | (with_reducible assumption) | (with_reducible refine Ext.drewN ?_ _) | (with_reducible refine Ext.drew ?_) | (with_reducible refine Ext.alloc ?_ _) | (with_reducible refine Ext.setCell ?_ ?_ _) | (with_reducible refine Ext.setRow ?_ ?_ _) | (with_reducible exact Nat.le_refl _) | (with_reducible refine Ext.trans ?_ (by assumption)) | omega), _, by (rw [HA1.out]; try rfl), ?_⟩
    rw [HA2.out]
    exact ⟨_, _, rfl, ((OwnI.ext P0 X5).box7 KR5 dC _ _ _ _ _ _ _), ((OwnI.ext J0 X5).box7 KR5 dC _ _ _ _ _ _ _)⟩
   have ha : appOk m d = true := by simp [appOk, hmo.out, hn]
   have hb : appD m d = stepS m d := by simp [appD, hmo.out, hn]
   have HN := Lib.hid hn
   rw [ha]
   rw [hb] at KG5 gp gj
   clear hn ha hb CG5 FG5 LG5
   have CG5 := KG5.cell; have LG5 := KG5.lt
   go_wp2_with fail
   go_roundw
   case rel =>
    refine ⟨k + 1, stepS m d, v2, vn2, vc2, v3, vn3, vc3, by omega, by go_num, by repeat' (first | (with_reducible exact Ext.refl _) | (with_reducible assumption) | (with_reducible refine Ext.drewN ?_ _) | (with_reducible refine Ext.drew ?_) | (with_reducible refine Ext.alloc ?_ _) | (with_reducible refine Ext.setCell ?_ ?_ _) | (with_reducible refine Ext.setRow ?_ ?_ _) | (with_reducible exact Nat.le_refl _) | (with_reducible refine Ext.trans ?_ (by assumption)) | omega), KX5.box7 _ _ _ _ _ _ _, KR5.far7 oM _ _ _ _ _ _ _, ?_, ?_, Lib.hid (foldS_next hf.out HD.out HN.out), Lib.hid (stepS_ok hmo.out HN.out)⟩
    ·
     exact (gp.mono oM).box7 KX5 dC _ _ _ _ _ _ _
    exact (gj.mono oM).box7 KX5 dC _ _ _ _ _ _ _
   case measure => simp [intOf]; omega
  obtain rfl : k = l.length := by omega
  have hff := hf.out
  rw [List.take_length] at hff
  obtain ⟨e1, e2⟩ := fld_yes HSO.out hln hff
  have HA1 := Lib.hid e1; have HA2 := Lib.hid e2
  clear e1 e2 hff
  have CX := KX.cell; have FX := KX.frozen; have LX := KX.lt; have CR := KR.cell; have FR := KR.frozen; have LR := KR.lt
  go_wp2_with fail
  refine bodyPost_ret (by simp [results, Tryz.results30, go_sem, CR, FR, LR]; try rfl) rfl ?_
  refine ⟨_, rfl, by repeat' (first | (with_reducible exact Ext.refl _) | (with_reducible assumption) | (with_reducible refine Ext.drewN ?_ _) | (with_reducible refine Ext.drew ?_) | (with_reducible refine Ext.alloc ?_ _) | (with_reducible refine Ext.setCell ?_ ?_ _) | (with_reducible refine Ext.setRow ?_ ?_ _) | (with_reducible exact Nat.le_refl _) | (with_reducible refine Ext.trans ?_ (by assumption)) | omega), _, by (rw [HA1.out]; try rfl), ?_⟩
  rw [HA2.out]
  exact ⟨_, _, rfl, (P0.box7 KR dC _ _ _ _ _ _ _), (J0.box7 KR dC _ _ _ _ _ _ _)⟩
end Go.Proofs.YtlnkggpemdpemaaGreat
