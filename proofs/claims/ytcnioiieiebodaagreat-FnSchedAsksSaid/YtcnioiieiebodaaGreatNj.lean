/- Contracts and plain laws: DGD. -/
import Derived.Test.YtcnioiieiebodaaGreatMa
import Derived.Deep.DeepCutAuto
import Derived.Test.YtcnioiieiebodaaGreatOg
set_option linter.unusedSimpArgs false
set_option linter.unusedVariables false
-- DrawDecided.
set_option linter.unusedSimpArgs false
set_option linter.unusedVariables false
namespace Go.Proofs.YtcnioiieiebodaaGreat
open Go.RowKit Go.G8

set_option maxHeartbeats 400000000 in
set_option maxRecDepth 100000 in
theorem drawDecided_c {wo : World} {v : Value} (h : Bytes wo v) : Calls Tryz.prog 14 #[v] wo (Ret wo fun r w' => ∃ (s : DSched) (x : Value) (now : Int), r = .tuple #[x, .int .i64 now] ∧ RdSched w' x s) := by
 go_enter Tryz.func14, Tryz.ntmps14
 go_wp2_with fail
 refine (l1New_c (h.ext (by exact extT))).mono ?_
 rintro e w ⟨_, rfl, hx0, g, rfl, hc0⟩
 have KR0 : Blk w wo.heap.size 32 #[.int .i64 0, .int .i64 0, .int .i64 0, .int .i64 0, .int .i64 0, .int .i64 0, .int .i64 0, .slice none 0 0, .bool false, .int .i64 0, .int .i64 0, .int .i64 0, .int .i64 0, .int .i64 0, .int .i64 0] := Blk.ext (by exact blkT) hx0
 have X0 : Ext wo w := Ext.trans (by exact extT) hx0
 have hz0 := hx0.size; (try simp only [World.size_alloc] at hz0)
 simp only [World.size_alloc] at hc0
 have hg0 := hc0.lt
 clear hx0
 obtain ⟨B, hB⟩ : ∃ B, B = wo.heap.size + 1 := ⟨_, rfl⟩
 rw [← hB] at hc0
 have E0 : Upd w w [g] := Upd.refl _ _
 have hgM : g < w.heap.size := by omega
 go_wp2_with fail
 refine (l21DrawAny_c (show Cur B _ g from by exact curT)).mono ?_
 rintro e w1 ⟨_, rfl, X1, hc1, s, HS⟩
 have hz1 := X1.size; (try simp only [szA] at hz1)
 have E1 : Upd w w1 [g] := Upd.trans (by exact updT) X1
 have KR1 : Blk w1 wo.heap.size 32 #[.int .i64 0, .int .i64 0, .int .i64 0, .int .i64 0, .int .i64 0, .int .i64 0, .int .i64 0, .slice none 0 0, .bool false, .int .i64 0, .int .i64 0, .int .i64 0, .int .i64 0, .int .i64 0, .int .i64 0] := Blk.upd1 (Blk.cast (by exact blkT) (by first | rfl | simp)) X1 (by omega)
 clear X1
 have CR1 := KR1.cell; have FR1 := KR1.frozen; have LR1 := KR1.lt
 obtain ⟨bz, hbz⟩ : ∃ b, b = s.Busy := ⟨_, rfl⟩
 obtain ⟨tq, rfl, HQ⟩ := HS
 rw [← hbz]
 have HBZ := Lib.hid hbz; clear hbz
 obtain ⟨aq, nq, kq, rfl⟩ := HQ.shape
 have Oq1 : OwnI w.heap.size 100 2 w1 (.slice aq nq kq) (dues s.View.Jobs.Open) := OwnI.mono HQ (by first | omega | (simp only [szA]; omega))
 clear HQ
 go_wp2_with fail
 refine (l1Once_c (show Cur B _ g from by exact curT) 2).mono ?_
 rintro e w2 ⟨_, rfl, X2, hc2, b1, rfl⟩
 have hz2 := X2.size; (try simp only [szA] at hz2)
 have E2 : Upd w w2 [g] := Upd.trans (by exact updT) X2
 have KR2 : Blk w2 wo.heap.size 32 #[.int .i64 0, .int .i64 0, .int .i64 0, .int .i64 0, .int .i64 0, .int .i64 0, .int .i64 0, .slice none 0 0, .bool false, .int .i64 0, .int .i64 0, .int .i64 0, .int .i64 0, .int .i64 0, .int .i64 0] := Blk.upd1 (Blk.cast (by exact blkT) (by first | rfl | simp)) X2 (by omega)
 have KD2 : Blk w2 w1.heap.size 32 #[.int .i64 s.Id, .int .i64 s.Seq, .int .i64 s.View.Jobs.Index, .int .i64 s.View.Jobs.Time, .int .i64 s.View.Jobs.Holder, .int .i64 s.View.Jobs.Epoch, .int .i64 s.View.Jobs.Until, .slice aq nq kq, .bool bz, .int .i64 s.Op.Kind, .int .i64 s.Op.A, .int .i64 s.Op.B, .int .i64 s.Op.C, .int .i64 s.Op.D, .int .i64 s.Index] := Blk.upd1 (Blk.cast (by exact blkT) (by first | rfl | simp)) X2 (by omega)
 have Oq2 : OwnI w.heap.size 100 2 w2 (.slice aq nq kq) (dues s.View.Jobs.Open) := OwnI.drawn (by exact ownR) X2 (by omega)
 clear X2
 clear CR1 FR1 LR1
 have CR2 := KR2.cell; have FR2 := KR2.frozen; have LR2 := KR2.lt
 have CD2 := KD2.cell; have FD2 := KD2.frozen; have LD2 := KD2.lt
 cases b1
 rotate_left
 ·
  skip
  go_wp2_with fail
  refine (sSchedOk_k (s := s) ⟨_, (by rw [← HBZ.out]), OwnI.ints (show OwnI w.heap.size 100 2 _ (.slice aq nq kq) (dues s.View.Jobs.Open) from (by exact ownR))⟩).mono ?_
  rintro e w3 ⟨rfl, hx3⟩
  have hz3 := hx3.size; (try simp only [szA] at hz3)
  have E3 : Upd w w3 [g] := Upd.ext (by exact updT) hx3
  have hc3 : Cur B w3 g := Cur.ext (by exact curT) hx3
  have KR3 : Blk w3 wo.heap.size 32 #[.int .i64 0, .int .i64 0, .int .i64 0, .int .i64 0, .int .i64 0, .int .i64 0, .int .i64 0, .slice none 0 0, .bool false, .int .i64 0, .int .i64 0, .int .i64 0, .int .i64 0, .int .i64 0, .int .i64 0] := Blk.ext (Blk.cast (by exact blkT) (by first | rfl | simp)) hx3
  have KD3 : Blk w3 w1.heap.size 32 #[.int .i64 s.Id, .int .i64 s.Seq, .int .i64 s.View.Jobs.Index, .int .i64 s.View.Jobs.Time, .int .i64 s.View.Jobs.Holder, .int .i64 s.View.Jobs.Epoch, .int .i64 s.View.Jobs.Until, .slice aq nq kq, .bool bz, .int .i64 s.Op.Kind, .int .i64 s.Op.A, .int .i64 s.Op.B, .int .i64 s.Op.C, .int .i64 s.Op.D, .int .i64 s.Index] := Blk.ext (Blk.cast (by exact blkT) (by first | rfl | simp)) hx3
  have Oq3 : OwnI w.heap.size 100 2 w3 (.slice aq nq kq) (dues s.View.Jobs.Open) := OwnI.ext1 (by exact ownR) hx3
  clear hx3
  clear CR2 FR2 LR2 CD2 FD2 LD2
  have CR3 := KR3.cell; have FR3 := KR3.frozen; have LR3 := KR3.lt
  have CD3 := KD3.cell; have FD3 := KD3.frozen; have LD3 := KD3.lt
  obtain ⟨ok, hok⟩ : ∃ b, schedOkS s = b := ⟨_, rfl⟩
  rw [hok]; clear hok
  cases ok
  ·
   skip
   as_aux_lemma =>
    have EW3 : Ext wo w3 := Ext.upd_below X0 E3 (fun k hk => by simp at hk; omega)
    go_wp2_with fail
    refine wp_region_held_drew (S := fun w' => Ext wo w' ∧ True ∧ Blk w' w1.heap.size 32 #[.int .i64 s.Id, .int .i64 s.Seq, .int .i64 s.View.Jobs.Index, .int .i64 s.View.Jobs.Time, .int .i64 s.View.Jobs.Holder, .int .i64 s.View.Jobs.Epoch, .int .i64 s.View.Jobs.Until, .slice aq nq kq, .bool bz, .int .i64 s.Op.Kind, .int .i64 s.Op.A, .int .i64 s.Op.B, .int .i64 s.Op.C, .int .i64 s.Op.D, .int .i64 s.Index]) (by kernel_rfl) (by (try dsimp only); exact ⟨(by exact extT), trivial, (Blk.cast (by exact blkT) setsT)⟩) (fun hHeld => ?_)
    refine wpAnyH_take (i := 0) (v := ?_) rfl (by kernel_rfl) (by kernel_rfl) (by kernel_rfl) (fun _ _ _ h => h) (Or.inl ⟨by rfl, ?_⟩) (by assumption) ?_
    rotate_left
    focus (intro w hSw; (try dsimp only at hSw); have hq := hSw.2.2.cell; go_simp <;> with_reducible rfl)
    (try simp only [redA, Act.put])
    refine wpAnyH_take (i := 1) (v := ?_) rfl (by kernel_rfl) (by kernel_rfl) (by kernel_rfl) (fun _ _ _ h => h) (Or.inl ⟨by rfl, ?_⟩) (by assumption) ?_
    rotate_left
    focus (intro w hSw; (try dsimp only at hSw); go_simp <;> with_reducible rfl)
    (try simp only [redA, Act.put])
    refine wpAnyH_take (i := 2) (v := ?_) rfl (by kernel_rfl) (by kernel_rfl) (by kernel_rfl) (fun _ _ _ h => h) (Or.inl ⟨by rfl, ?_⟩) (by assumption) ?_
    rotate_left
    focus (intro w hSw; (try dsimp only at hSw); go_simp <;> with_reducible rfl)
    (try simp only [redA, Act.put])
    refine wpAnyH_take (i := 3) (v := ?_) rfl (by kernel_rfl) (by kernel_rfl) (by kernel_rfl) (fun _ _ _ h => h) (Or.inl ⟨by rfl, ?_⟩) (by assumption) ?_
    rotate_left
    focus (intro w hSw; (try dsimp only at hSw); have hq := hSw.2.2.cell; go_simp <;> with_reducible rfl)
    (try simp only [redA, Act.put])
    refine wpAnyH_ready (rs := [4]) (by kernel_rfl) (by simp) ?_
    refine AllReadyH.cons rfl (fun Kz hKz => ?_) AllReadyH.nil
    (try simp only [redA])
    go_simp
    go_at_call 49
    refine (l20DrawNow_c (show Cur B _ g from by exact curT) _ _ _ _ _ _ _ _).mono ?_
    rintro e w4 ⟨_, rfl, X4, hc4, now, rfl⟩
    have hz4 := X4.size; (try simp only [szA] at hz4)
    have E4 : Upd w w4 [g] := Upd.trans (by exact updT) X4
    have KR4 : Blk w4 wo.heap.size 32 #[.int .i64 0, .int .i64 0, .int .i64 0, .int .i64 0, .int .i64 0, .int .i64 0, .int .i64 0, .slice none 0 0, .bool false, .int .i64 0, .int .i64 0, .int .i64 0, .int .i64 0, .int .i64 0, .int .i64 0] := Blk.upd1 (Blk.cast (by exact blkT) (by first | rfl | simp)) X4 (by omega)
    have KD4 : Blk w4 w1.heap.size 32 #[.int .i64 s.Id, .int .i64 s.Seq, .int .i64 s.View.Jobs.Index, .int .i64 s.View.Jobs.Time, .int .i64 s.View.Jobs.Holder, .int .i64 s.View.Jobs.Epoch, .int .i64 s.View.Jobs.Until, .slice aq nq kq, .bool bz, .int .i64 s.Op.Kind, .int .i64 s.Op.A, .int .i64 s.Op.B, .int .i64 s.Op.C, .int .i64 s.Op.D, .int .i64 s.Index] := Blk.upd1 (Blk.cast (by exact blkT) (by first | rfl | simp)) X4 (by omega)
    have Oq4 : OwnI w.heap.size 100 2 w4 (.slice aq nq kq) (dues s.View.Jobs.Open) := OwnI.drawn (by exact ownR) X4 (by omega)
    clear X4
    clear CR3 FR3 LR3 CD3 FD3 LD3
    have CR4 := KR4.cell; have FR4 := KR4.frozen; have LR4 := KR4.lt
    have CD4 := KD4.cell; have FD4 := KD4.frozen; have LD4 := KD4.lt
    have EW4 : Ext wo w4 := Ext.upd_below X0 E4 (fun k hk => by simp at hk; omega)
    refine hKz.out _ _ (by (try dsimp only); exact ⟨(by exact extT), trivial, (Blk.cast (by exact blkT) setsT)⟩) (fun hHeld => ?_)
    clear hKz Kz
    (try simp only [redA, Act.put])
    refine wpAnyH_ready (rs := [5]) (by kernel_rfl) (by simp) ?_
    refine AllReadyH.cons rfl (fun Kz hKz => ?_) AllReadyH.nil
    (try simp only [redA])
    first | (rw [if_pos (by rfl)]; refine wp_store_row 32 (.tmp 2) (.tmp 23) (by rfl) _ #[.int .i64 s.Id, .int .i64 s.Seq, .int .i64 s.View.Jobs.Index, .int .i64 s.View.Jobs.Time, .int .i64 s.View.Jobs.Holder, .int .i64 s.View.Jobs.Epoch, .int .i64 s.View.Jobs.Until, .slice aq nq kq, .bool bz, .int .i64 s.Op.Kind, .int .i64 s.Op.A, .int .i64 s.Op.B, .int .i64 s.Op.C, .int .i64 s.Op.D, .int .i64 s.Index] (by rfl) (by rfl) 32 _ KR4 (by kernel_rfl) rfl (by kernel_rfl) ?_) | go_simp
    refine hKz.out _ _ (by (try dsimp only); exact ⟨(by exact extT), trivial, (Blk.cast (by exact blkT) setsT)⟩) (fun hHeld => ?_)
    clear hKz Kz
    (try simp only [redA, Act.put])
    refine wpAnyH_ready (rs := [6]) (by kernel_rfl) (by simp) ?_
    refine AllReadyH.cons rfl (fun Kz hKz => ?_) AllReadyH.nil
    (try simp only [redA])
    go_simp
    refine hKz.out _ _ (by (try dsimp only); exact ⟨(by exact extT), trivial, (Blk.cast (by exact blkT) setsT)⟩) (fun hHeld => ?_)
    clear hKz Kz
    (try simp only [redA, Act.put])
    refine wpAnyH_done (by kernel_rfl) ?_ _
    have KF := KR4.row #[.int .i64 s.Id, .int .i64 s.Seq, .int .i64 s.View.Jobs.Index, .int .i64 s.View.Jobs.Time, .int .i64 s.View.Jobs.Holder, .int .i64 s.View.Jobs.Epoch, .int .i64 s.View.Jobs.Until, .slice aq nq kq, .bool bz, .int .i64 s.Op.Kind, .int .i64 s.Op.A, .int .i64 s.Op.B, .int .i64 s.Op.C, .int .i64 s.Op.D, .int .i64 s.Index]
    generalize hwz : World.setRow _ _ _ = wz at KF ⊢
    have CKF := KF.cell; have FKF := KF.frozen; have LKF := KF.lt
    go_wp2_with fail
    refine bodyPost_ret (by simp [results, Tryz.results14, go_sem, CKF, FKF, LKF]; try rfl) rfl ?_
    exact ⟨_, rfl, by rw [← hwz]; exact extT, ⟨s.Id, s.Seq, ⟨⟨s.View.Jobs.Index, s.View.Jobs.Time, s.View.Jobs.Holder, s.View.Jobs.Epoch, s.View.Jobs.Until, s.View.Jobs.Open⟩⟩, bz, ⟨s.Op.Kind, s.Op.A, s.Op.B, s.Op.C, s.Op.D⟩, s.Index⟩, _, now, rfl, _, rfl, by rw [← hwz]; exact OwnI.ints (show OwnI w.heap.size 100 2 _ (.slice aq nq kq) (dues s.View.Jobs.Open) from (by exact ownR))⟩
  ·
   skip
   cases bz
   ·
    skip
    as_aux_lemma =>
     have EW3 : Ext wo w3 := Ext.upd_below X0 E3 (fun k hk => by simp at hk; omega)
     go_wp2_with fail
     refine wp_region_held_drew (S := fun w' => Ext wo w' ∧ True ∧ Blk w' w1.heap.size 32 #[.int .i64 s.Id, .int .i64 s.Seq, .int .i64 s.View.Jobs.Index, .int .i64 s.View.Jobs.Time, .int .i64 s.View.Jobs.Holder, .int .i64 s.View.Jobs.Epoch, .int .i64 s.View.Jobs.Until, .slice aq nq kq, .bool false, .int .i64 s.Op.Kind, .int .i64 s.Op.A, .int .i64 s.Op.B, .int .i64 s.Op.C, .int .i64 s.Op.D, .int .i64 s.Index]) (by kernel_rfl) (by (try dsimp only); exact ⟨(by exact extT), trivial, (Blk.cast (by exact blkT) setsT)⟩) (fun hHeld => ?_)
     refine wpAnyH_take (i := 0) (v := ?_) rfl (by kernel_rfl) (by kernel_rfl) (by kernel_rfl) (fun _ _ _ h => h) (Or.inl ⟨by rfl, ?_⟩) (by assumption) ?_
     rotate_left
     focus (intro w hSw; (try dsimp only at hSw); have hq := hSw.2.2.cell; go_simp <;> with_reducible rfl)
     (try simp only [redA, Act.put])
     refine wpAnyH_take (i := 1) (v := ?_) rfl (by kernel_rfl) (by kernel_rfl) (by kernel_rfl) (fun _ _ _ h => h) (Or.inl ⟨by rfl, ?_⟩) (by assumption) ?_
     rotate_left
     focus (intro w hSw; (try dsimp only at hSw); go_simp <;> with_reducible rfl)
     (try simp only [redA, Act.put])
     refine wpAnyH_take (i := 2) (v := ?_) rfl (by kernel_rfl) (by kernel_rfl) (by kernel_rfl) (fun _ _ _ h => h) (Or.inl ⟨by rfl, ?_⟩) (by assumption) ?_
     rotate_left
     focus (intro w hSw; (try dsimp only at hSw); go_simp <;> with_reducible rfl)
     (try simp only [redA, Act.put])
     refine wpAnyH_take (i := 3) (v := ?_) rfl (by kernel_rfl) (by kernel_rfl) (by kernel_rfl) (fun _ _ _ h => h) (Or.inl ⟨by rfl, ?_⟩) (by assumption) ?_
     rotate_left
     focus (intro w hSw; (try dsimp only at hSw); have hq := hSw.2.2.cell; go_simp <;> with_reducible rfl)
     (try simp only [redA, Act.put])
     refine wpAnyH_ready (rs := [4]) (by kernel_rfl) (by simp) ?_
     refine AllReadyH.cons rfl (fun Kz hKz => ?_) AllReadyH.nil
     (try simp only [redA])
     go_simp
     go_at_call 49
     refine (l20DrawNow_c (show Cur B _ g from by exact curT) _ _ _ _ _ _ _ _).mono ?_
     rintro e w4 ⟨_, rfl, X4, hc4, now, rfl⟩
     have hz4 := X4.size; (try simp only [szA] at hz4)
     have E4 : Upd w w4 [g] := Upd.trans (by exact updT) X4
     have KR4 : Blk w4 wo.heap.size 32 #[.int .i64 0, .int .i64 0, .int .i64 0, .int .i64 0, .int .i64 0, .int .i64 0, .int .i64 0, .slice none 0 0, .bool false, .int .i64 0, .int .i64 0, .int .i64 0, .int .i64 0, .int .i64 0, .int .i64 0] := Blk.upd1 (Blk.cast (by exact blkT) (by first | rfl | simp)) X4 (by omega)
     have KD4 : Blk w4 w1.heap.size 32 #[.int .i64 s.Id, .int .i64 s.Seq, .int .i64 s.View.Jobs.Index, .int .i64 s.View.Jobs.Time, .int .i64 s.View.Jobs.Holder, .int .i64 s.View.Jobs.Epoch, .int .i64 s.View.Jobs.Until, .slice aq nq kq, .bool false, .int .i64 s.Op.Kind, .int .i64 s.Op.A, .int .i64 s.Op.B, .int .i64 s.Op.C, .int .i64 s.Op.D, .int .i64 s.Index] := Blk.upd1 (Blk.cast (by exact blkT) (by first | rfl | simp)) X4 (by omega)
     have Oq4 : OwnI w.heap.size 100 2 w4 (.slice aq nq kq) (dues s.View.Jobs.Open) := OwnI.drawn (by exact ownR) X4 (by omega)
     clear X4
     clear CR3 FR3 LR3 CD3 FD3 LD3
     have CR4 := KR4.cell; have FR4 := KR4.frozen; have LR4 := KR4.lt
     have CD4 := KD4.cell; have FD4 := KD4.frozen; have LD4 := KD4.lt
     have EW4 : Ext wo w4 := Ext.upd_below X0 E4 (fun k hk => by simp at hk; omega)
     refine hKz.out _ _ (by (try dsimp only); exact ⟨(by exact extT), trivial, (Blk.cast (by exact blkT) setsT)⟩) (fun hHeld => ?_)
     clear hKz Kz
     (try simp only [redA, Act.put])
     refine wpAnyH_ready (rs := [5]) (by kernel_rfl) (by simp) ?_
     refine AllReadyH.cons rfl (fun Kz hKz => ?_) AllReadyH.nil
     (try simp only [redA])
     first | (rw [if_pos (by rfl)]; refine wp_store_row 32 (.tmp 2) (.tmp 23) (by rfl) _ #[.int .i64 s.Id, .int .i64 s.Seq, .int .i64 s.View.Jobs.Index, .int .i64 s.View.Jobs.Time, .int .i64 s.View.Jobs.Holder, .int .i64 s.View.Jobs.Epoch, .int .i64 s.View.Jobs.Until, .slice aq nq kq, .bool false, .int .i64 s.Op.Kind, .int .i64 s.Op.A, .int .i64 s.Op.B, .int .i64 s.Op.C, .int .i64 s.Op.D, .int .i64 s.Index] (by rfl) (by rfl) 32 _ KR4 (by kernel_rfl) rfl (by kernel_rfl) ?_) | go_simp
     refine hKz.out _ _ (by (try dsimp only); exact ⟨(by exact extT), trivial, (Blk.cast (by exact blkT) setsT)⟩) (fun hHeld => ?_)
     clear hKz Kz
     (try simp only [redA, Act.put])
     refine wpAnyH_ready (rs := [6]) (by kernel_rfl) (by simp) ?_
     refine AllReadyH.cons rfl (fun Kz hKz => ?_) AllReadyH.nil
     (try simp only [redA])
     go_simp
     refine hKz.out _ _ (by (try dsimp only); exact ⟨(by exact extT), trivial, (Blk.cast (by exact blkT) setsT)⟩) (fun hHeld => ?_)
     clear hKz Kz
     (try simp only [redA, Act.put])
     refine wpAnyH_done (by kernel_rfl) ?_ _
     have KF := KR4.row #[.int .i64 s.Id, .int .i64 s.Seq, .int .i64 s.View.Jobs.Index, .int .i64 s.View.Jobs.Time, .int .i64 s.View.Jobs.Holder, .int .i64 s.View.Jobs.Epoch, .int .i64 s.View.Jobs.Until, .slice aq nq kq, .bool false, .int .i64 s.Op.Kind, .int .i64 s.Op.A, .int .i64 s.Op.B, .int .i64 s.Op.C, .int .i64 s.Op.D, .int .i64 s.Index]
     generalize hwz : World.setRow _ _ _ = wz at KF ⊢
     have CKF := KF.cell; have FKF := KF.frozen; have LKF := KF.lt
     go_wp2_with fail
     refine bodyPost_ret (by simp [results, Tryz.results14, go_sem, CKF, FKF, LKF]; try rfl) rfl ?_
     exact ⟨_, rfl, by rw [← hwz]; exact extT, ⟨s.Id, s.Seq, ⟨⟨s.View.Jobs.Index, s.View.Jobs.Time, s.View.Jobs.Holder, s.View.Jobs.Epoch, s.View.Jobs.Until, s.View.Jobs.Open⟩⟩, false, ⟨s.Op.Kind, s.Op.A, s.Op.B, s.Op.C, s.Op.D⟩, s.Index⟩, _, now, rfl, _, rfl, by rw [← hwz]; exact OwnI.ints (show OwnI w.heap.size 100 2 _ (.slice aq nq kq) (dues s.View.Jobs.Open) from (by exact ownR))⟩
   ·
    skip
    skip
    as_aux_lemma =>
     have EW3 : Ext wo w3 := Ext.upd_below X0 E3 (fun k hk => by simp at hk; omega)
     go_wp2_with fail
     refine wp_region_held_drew (S := fun w' => Ext wo w' ∧ True ∧ Blk w' w1.heap.size 32 #[.int .i64 s.Id, .int .i64 s.Seq, .int .i64 s.View.Jobs.Index, .int .i64 s.View.Jobs.Time, .int .i64 s.View.Jobs.Holder, .int .i64 s.View.Jobs.Epoch, .int .i64 s.View.Jobs.Until, .slice aq nq kq, .bool false, .int .i64 0, .int .i64 0, .int .i64 0, .int .i64 0, .int .i64 0, .int .i64 s.Index]) (by kernel_rfl) (by (try dsimp only); exact ⟨(by exact extT), trivial, (Blk.cast (by exact blkT) setsT)⟩) (fun hHeld => ?_)
     refine wpAnyH_take (i := 0) (v := ?_) rfl (by kernel_rfl) (by kernel_rfl) (by kernel_rfl) (fun _ _ _ h => h) (Or.inl ⟨by rfl, ?_⟩) (by assumption) ?_
     rotate_left
     focus (intro w hSw; (try dsimp only at hSw); have hq := hSw.2.2.cell; go_simp <;> with_reducible rfl)
     (try simp only [redA, Act.put])
     refine wpAnyH_take (i := 1) (v := ?_) rfl (by kernel_rfl) (by kernel_rfl) (by kernel_rfl) (fun _ _ _ h => h) (Or.inl ⟨by rfl, ?_⟩) (by assumption) ?_
     rotate_left
     focus (intro w hSw; (try dsimp only at hSw); go_simp <;> with_reducible rfl)
     (try simp only [redA, Act.put])
     refine wpAnyH_take (i := 2) (v := ?_) rfl (by kernel_rfl) (by kernel_rfl) (by kernel_rfl) (fun _ _ _ h => h) (Or.inl ⟨by rfl, ?_⟩) (by assumption) ?_
     rotate_left
     focus (intro w hSw; (try dsimp only at hSw); go_simp <;> with_reducible rfl)
     (try simp only [redA, Act.put])
     refine wpAnyH_take (i := 3) (v := ?_) rfl (by kernel_rfl) (by kernel_rfl) (by kernel_rfl) (fun _ _ _ h => h) (Or.inl ⟨by rfl, ?_⟩) (by assumption) ?_
     rotate_left
     focus (intro w hSw; (try dsimp only at hSw); have hq := hSw.2.2.cell; go_simp <;> with_reducible rfl)
     (try simp only [redA, Act.put])
     refine wpAnyH_ready (rs := [4]) (by kernel_rfl) (by simp) ?_
     refine AllReadyH.cons rfl (fun Kz hKz => ?_) AllReadyH.nil
     (try simp only [redA])
     go_simp
     go_at_call 49
     refine (l20DrawNow_c (show Cur B _ g from by exact curT) _ _ _ _ _ _ _ _).mono ?_
     rintro e w4 ⟨_, rfl, X4, hc4, now, rfl⟩
     have hz4 := X4.size; (try simp only [szA] at hz4)
     have E4 : Upd w w4 [g] := Upd.trans (by exact updT) X4
     have KR4 : Blk w4 wo.heap.size 32 #[.int .i64 0, .int .i64 0, .int .i64 0, .int .i64 0, .int .i64 0, .int .i64 0, .int .i64 0, .slice none 0 0, .bool false, .int .i64 0, .int .i64 0, .int .i64 0, .int .i64 0, .int .i64 0, .int .i64 0] := Blk.upd1 (Blk.cast (by exact blkT) (by first | rfl | simp)) X4 (by omega)
     have KD4 : Blk w4 w1.heap.size 32 #[.int .i64 s.Id, .int .i64 s.Seq, .int .i64 s.View.Jobs.Index, .int .i64 s.View.Jobs.Time, .int .i64 s.View.Jobs.Holder, .int .i64 s.View.Jobs.Epoch, .int .i64 s.View.Jobs.Until, .slice aq nq kq, .bool false, .int .i64 0, .int .i64 0, .int .i64 0, .int .i64 0, .int .i64 0, .int .i64 s.Index] := Blk.upd1 (Blk.cast (by exact blkT) (by first | rfl | simp)) X4 (by omega)
     have Oq4 : OwnI w.heap.size 100 2 w4 (.slice aq nq kq) (dues s.View.Jobs.Open) := OwnI.drawn (by exact ownR) X4 (by omega)
     clear X4
     clear CR3 FR3 LR3 CD3 FD3 LD3
     have CR4 := KR4.cell; have FR4 := KR4.frozen; have LR4 := KR4.lt
     have CD4 := KD4.cell; have FD4 := KD4.frozen; have LD4 := KD4.lt
     have EW4 : Ext wo w4 := Ext.upd_below X0 E4 (fun k hk => by simp at hk; omega)
     refine hKz.out _ _ (by (try dsimp only); exact ⟨(by exact extT), trivial, (Blk.cast (by exact blkT) setsT)⟩) (fun hHeld => ?_)
     clear hKz Kz
     (try simp only [redA, Act.put])
     refine wpAnyH_ready (rs := [5]) (by kernel_rfl) (by simp) ?_
     refine AllReadyH.cons rfl (fun Kz hKz => ?_) AllReadyH.nil
     (try simp only [redA])
     first | (rw [if_pos (by rfl)]; refine wp_store_row 32 (.tmp 2) (.tmp 23) (by rfl) _ #[.int .i64 s.Id, .int .i64 s.Seq, .int .i64 s.View.Jobs.Index, .int .i64 s.View.Jobs.Time, .int .i64 s.View.Jobs.Holder, .int .i64 s.View.Jobs.Epoch, .int .i64 s.View.Jobs.Until, .slice aq nq kq, .bool false, .int .i64 0, .int .i64 0, .int .i64 0, .int .i64 0, .int .i64 0, .int .i64 s.Index] (by rfl) (by rfl) 32 _ KR4 (by kernel_rfl) rfl (by kernel_rfl) ?_) | go_simp
     refine hKz.out _ _ (by (try dsimp only); exact ⟨(by exact extT), trivial, (Blk.cast (by exact blkT) setsT)⟩) (fun hHeld => ?_)
     clear hKz Kz
     (try simp only [redA, Act.put])
     refine wpAnyH_ready (rs := [6]) (by kernel_rfl) (by simp) ?_
     refine AllReadyH.cons rfl (fun Kz hKz => ?_) AllReadyH.nil
     (try simp only [redA])
     go_simp
     refine hKz.out _ _ (by (try dsimp only); exact ⟨(by exact extT), trivial, (Blk.cast (by exact blkT) setsT)⟩) (fun hHeld => ?_)
     clear hKz Kz
     (try simp only [redA, Act.put])
     refine wpAnyH_done (by kernel_rfl) ?_ _
     have KF := KR4.row #[.int .i64 s.Id, .int .i64 s.Seq, .int .i64 s.View.Jobs.Index, .int .i64 s.View.Jobs.Time, .int .i64 s.View.Jobs.Holder, .int .i64 s.View.Jobs.Epoch, .int .i64 s.View.Jobs.Until, .slice aq nq kq, .bool false, .int .i64 0, .int .i64 0, .int .i64 0, .int .i64 0, .int .i64 0, .int .i64 s.Index]
     generalize hwz : World.setRow _ _ _ = wz at KF ⊢
     have CKF := KF.cell; have FKF := KF.frozen; have LKF := KF.lt
     go_wp2_with fail
     refine bodyPost_ret (by simp [results, Tryz.results14, go_sem, CKF, FKF, LKF]; try rfl) rfl ?_
     exact ⟨_, rfl, by rw [← hwz]; exact extT, ⟨s.Id, s.Seq, ⟨⟨s.View.Jobs.Index, s.View.Jobs.Time, s.View.Jobs.Holder, s.View.Jobs.Epoch, s.View.Jobs.Until, s.View.Jobs.Open⟩⟩, false, ⟨0, 0, 0, 0, 0⟩, s.Index⟩, _, now, rfl, _, rfl, by rw [← hwz]; exact OwnI.ints (show OwnI w.heap.size 100 2 _ (.slice aq nq kq) (dues s.View.Jobs.Open) from (by exact ownR))⟩
 ·
  skip
  as_aux_lemma =>
   have EW2 : Ext wo w2 := Ext.upd_below X0 E2 (fun k hk => by simp at hk; omega)
   go_wp2_with fail
   refine wp_region_held_drew (S := fun w' => Ext wo w' ∧ True ∧ Blk w' w1.heap.size 32 #[.int .i64 s.Id, .int .i64 s.Seq, .int .i64 s.View.Jobs.Index, .int .i64 s.View.Jobs.Time, .int .i64 s.View.Jobs.Holder, .int .i64 s.View.Jobs.Epoch, .int .i64 s.View.Jobs.Until, .slice aq nq kq, .bool bz, .int .i64 s.Op.Kind, .int .i64 s.Op.A, .int .i64 s.Op.B, .int .i64 s.Op.C, .int .i64 s.Op.D, .int .i64 s.Index]) (by kernel_rfl) (by (try dsimp only); exact ⟨(by exact extT), trivial, (Blk.cast (by exact blkT) setsT)⟩) (fun hHeld => ?_)
   refine wpAnyH_take (i := 0) (v := ?_) rfl (by kernel_rfl) (by kernel_rfl) (by kernel_rfl) (fun _ _ _ h => h) (Or.inl ⟨by rfl, ?_⟩) (by assumption) ?_
   rotate_left
   focus (intro w hSw; (try dsimp only at hSw); have hq := hSw.2.2.cell; go_simp <;> with_reducible rfl)
   (try simp only [redA, Act.put])
   refine wpAnyH_take (i := 1) (v := ?_) rfl (by kernel_rfl) (by kernel_rfl) (by kernel_rfl) (fun _ _ _ h => h) (Or.inl ⟨by rfl, ?_⟩) (by assumption) ?_
   rotate_left
   focus (intro w hSw; (try dsimp only at hSw); go_simp <;> with_reducible rfl)
   (try simp only [redA, Act.put])
   refine wpAnyH_take (i := 2) (v := ?_) rfl (by kernel_rfl) (by kernel_rfl) (by kernel_rfl) (fun _ _ _ h => h) (Or.inl ⟨by rfl, ?_⟩) (by assumption) ?_
   rotate_left
   focus (intro w hSw; (try dsimp only at hSw); go_simp <;> with_reducible rfl)
   (try simp only [redA, Act.put])
   refine wpAnyH_take (i := 3) (v := ?_) rfl (by kernel_rfl) (by kernel_rfl) (by kernel_rfl) (fun _ _ _ h => h) (Or.inl ⟨by rfl, ?_⟩) (by assumption) ?_
   rotate_left
   focus (intro w hSw; (try dsimp only at hSw); have hq := hSw.2.2.cell; go_simp <;> with_reducible rfl)
   (try simp only [redA, Act.put])
   refine wpAnyH_ready (rs := [4]) (by kernel_rfl) (by simp) ?_
   refine AllReadyH.cons rfl (fun Kz hKz => ?_) AllReadyH.nil
   (try simp only [redA])
   go_simp
   go_at_call 49
   refine (l20DrawNow_c (show Cur B _ g from by exact curT) _ _ _ _ _ _ _ _).mono ?_
   rintro e w3 ⟨_, rfl, X3, hc3, now, rfl⟩
   have hz3 := X3.size; (try simp only [szA] at hz3)
   have E3 : Upd w w3 [g] := Upd.trans (by exact updT) X3
   have KR3 : Blk w3 wo.heap.size 32 #[.int .i64 0, .int .i64 0, .int .i64 0, .int .i64 0, .int .i64 0, .int .i64 0, .int .i64 0, .slice none 0 0, .bool false, .int .i64 0, .int .i64 0, .int .i64 0, .int .i64 0, .int .i64 0, .int .i64 0] := Blk.upd1 (Blk.cast (by exact blkT) (by first | rfl | simp)) X3 (by omega)
   have KD3 : Blk w3 w1.heap.size 32 #[.int .i64 s.Id, .int .i64 s.Seq, .int .i64 s.View.Jobs.Index, .int .i64 s.View.Jobs.Time, .int .i64 s.View.Jobs.Holder, .int .i64 s.View.Jobs.Epoch, .int .i64 s.View.Jobs.Until, .slice aq nq kq, .bool bz, .int .i64 s.Op.Kind, .int .i64 s.Op.A, .int .i64 s.Op.B, .int .i64 s.Op.C, .int .i64 s.Op.D, .int .i64 s.Index] := Blk.upd1 (Blk.cast (by exact blkT) (by first | rfl | simp)) X3 (by omega)
   have Oq3 : OwnI w.heap.size 100 2 w3 (.slice aq nq kq) (dues s.View.Jobs.Open) := OwnI.drawn (by exact ownR) X3 (by omega)
   clear X3
   clear CR2 FR2 LR2 CD2 FD2 LD2
   have CR3 := KR3.cell; have FR3 := KR3.frozen; have LR3 := KR3.lt
   have CD3 := KD3.cell; have FD3 := KD3.frozen; have LD3 := KD3.lt
   have EW3 : Ext wo w3 := Ext.upd_below X0 E3 (fun k hk => by simp at hk; omega)
   refine hKz.out _ _ (by (try dsimp only); exact ⟨(by exact extT), trivial, (Blk.cast (by exact blkT) setsT)⟩) (fun hHeld => ?_)
   clear hKz Kz
   (try simp only [redA, Act.put])
   refine wpAnyH_ready (rs := [5]) (by kernel_rfl) (by simp) ?_
   refine AllReadyH.cons rfl (fun Kz hKz => ?_) AllReadyH.nil
   (try simp only [redA])
   first | (rw [if_pos (by rfl)]; refine wp_store_row 32 (.tmp 2) (.tmp 23) (by rfl) _ #[.int .i64 s.Id, .int .i64 s.Seq, .int .i64 s.View.Jobs.Index, .int .i64 s.View.Jobs.Time, .int .i64 s.View.Jobs.Holder, .int .i64 s.View.Jobs.Epoch, .int .i64 s.View.Jobs.Until, .slice aq nq kq, .bool bz, .int .i64 s.Op.Kind, .int .i64 s.Op.A, .int .i64 s.Op.B, .int .i64 s.Op.C, .int .i64 s.Op.D, .int .i64 s.Index] (by rfl) (by rfl) 32 _ KR3 (by kernel_rfl) rfl (by kernel_rfl) ?_) | go_simp
   refine hKz.out _ _ (by (try dsimp only); exact ⟨(by exact extT), trivial, (Blk.cast (by exact blkT) setsT)⟩) (fun hHeld => ?_)
   clear hKz Kz
   (try simp only [redA, Act.put])
   refine wpAnyH_ready (rs := [6]) (by kernel_rfl) (by simp) ?_
   refine AllReadyH.cons rfl (fun Kz hKz => ?_) AllReadyH.nil
   (try simp only [redA])
   go_simp
   refine hKz.out _ _ (by (try dsimp only); exact ⟨(by exact extT), trivial, (Blk.cast (by exact blkT) setsT)⟩) (fun hHeld => ?_)
   clear hKz Kz
   (try simp only [redA, Act.put])
   refine wpAnyH_done (by kernel_rfl) ?_ _
   have KF := KR3.row #[.int .i64 s.Id, .int .i64 s.Seq, .int .i64 s.View.Jobs.Index, .int .i64 s.View.Jobs.Time, .int .i64 s.View.Jobs.Holder, .int .i64 s.View.Jobs.Epoch, .int .i64 s.View.Jobs.Until, .slice aq nq kq, .bool bz, .int .i64 s.Op.Kind, .int .i64 s.Op.A, .int .i64 s.Op.B, .int .i64 s.Op.C, .int .i64 s.Op.D, .int .i64 s.Index]
   generalize hwz : World.setRow _ _ _ = wz at KF ⊢
   have CKF := KF.cell; have FKF := KF.frozen; have LKF := KF.lt
   go_wp2_with fail
   refine bodyPost_ret (by simp [results, Tryz.results14, go_sem, CKF, FKF, LKF]; try rfl) rfl ?_
   exact ⟨_, rfl, by rw [← hwz]; exact extT, ⟨s.Id, s.Seq, ⟨⟨s.View.Jobs.Index, s.View.Jobs.Time, s.View.Jobs.Holder, s.View.Jobs.Epoch, s.View.Jobs.Until, s.View.Jobs.Open⟩⟩, bz, ⟨s.Op.Kind, s.Op.A, s.Op.B, s.Op.C, s.Op.D⟩, s.Index⟩, _, now, rfl, _, rfl, by rw [← hwz]; exact OwnI.ints (show OwnI w.heap.size 100 2 _ (.slice aq nq kq) (dues s.View.Jobs.Open) from (by exact ownR))⟩

end Go.Proofs.YtcnioiieiebodaaGreat
