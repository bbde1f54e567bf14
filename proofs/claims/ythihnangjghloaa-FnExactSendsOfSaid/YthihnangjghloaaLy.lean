/- Contracts and plain laws: SNs. -/
import Derived.Test.YthihnangjghloaaLa
import Derived.Test.YthihnangjghloaaLx
set_option linter.unusedSimpArgs false
set_option linter.unusedVariables false
-- SendsOf (spec.SendsOf).
set_option linter.unusedSimpArgs false
set_option linter.unusedVariables false
namespace Go.Proofs.Ythihnangjghloaa
open Go.RowKit Go.G8

theorem sAskBy_k {w : World} {v : Value} {s : DSched} (h : RdSched w v s) : Calls Try.prog 66 #[v] w (RetV w (.tuple #[.agg #[.int .i64 (askBy s).Client, .int .i64 (askBy s).Seq, .int .i64 (askBy s).Op.Kind, .int .i64 (askBy s).Op.A, .int .i64 (askBy s).Op.B, .int .i64 (askBy s).Op.C, .int .i64 (askBy s).Op.D], .bool (askByB s)])) := by
 obtain ⟨t2, rfl, h2⟩ := h
 refine (sAskBy_c w _ _ _ _ _ _ _ t2 _ _ _ _ _ _ _ _ h2).mono ?_
 rintro e w' ⟨_, rfl, hx, r0, z1, rfl, g, rfl⟩
 unfold IsAsk at g
 subst g
 exact ⟨rfl, hx⟩
set_option maxHeartbeats 4000000 in
set_option maxRecDepth 100000 in
theorem sSendsOf_k_bad {w : World} {v : Value} {s : DSched} (h : RdSched w v s) (hb : schedOkS s = false) : Calls Try.prog 24 #[v] w (Ret w fun r w' => ∃ F, OwMsgs w.heap.size w' r (sendsL s) F) := by
 obtain ⟨a7, n7, k7, rfl⟩ := h.shape
 obtain ⟨bz, hbz⟩ : ∃ b : Bool, s.Busy = b := ⟨_, rfl⟩
 rw [hbz] at h ⊢
 have HB := Lib.hid hbz; clear hbz
 have hb0 := hb; have Hb := Lib.hid hb; clear hb
 obtain ⟨i0, qi, qy0, qy1, qy2⟩ := info_parts info_Msg
 have E0 : Ext w w := Ext.refl _
 go_enter Try.func24, Try.ntmps24
 go_wp2_with fail
 refine (sSchedOk_k (h.ext (by exact extT))).mono ?_
 rintro e w1 ⟨rfl, hx1⟩
 have X1 : Ext w w1 := Ext.trans (by exact extT) hx1
 have hz1 := X1.size
 have hy1 := hx1.size; (try simp only [szA] at hy1)
 have KS1 : Blk w1 w.heap.size 65 #[.int .i64 s.Id, .int .i64 s.Seq, .int .i64 s.View.Jobs.Index, .int .i64 s.View.Jobs.Time, .int .i64 s.View.Jobs.Holder, .int .i64 s.View.Jobs.Epoch, .int .i64 s.View.Jobs.Until, .slice a7 n7 k7, .bool bz, .int .i64 s.Op.Kind, .int .i64 s.Op.A, .int .i64 s.Op.B, .int .i64 s.Op.C, .int .i64 s.Op.D, .int .i64 s.Index] := Blk.ext (Blk.cast (by exact blkT) setsT) hx1
 have E1 : Ext w w1 := E0.trans X1
 clear hx1 X1
 have CS1 := KS1.cell; have FS1 := KS1.frozen; have LS1 := KS1.lt
 rw [hb0]; clear hb0
 go_wp2_with fail
 go_ret
 rw [sends_bad Hb.out]
 exact ⟨_, rfl, by exact extT, OwMsgs.of (⟨[], (OwnNs.lit0 w1 _ _ _).mono (by omega)⟩)⟩
set_option maxHeartbeats 4000000 in
set_option maxRecDepth 100000 in
theorem sSendsOf_k_idle {w : World} {v : Value} {s : DSched} (h : RdSched w v s) (hb : schedOkS s = true) (hbz : s.Busy = false) : Calls Try.prog 24 #[v] w (Ret w fun r w' => ∃ F, OwMsgs w.heap.size w' r (sendsL s) F) := by
 obtain ⟨a7, n7, k7, rfl⟩ := h.shape
 rw [hbz] at h ⊢
 have HB := Lib.hid hbz; clear hbz
 have hb0 := hb; have Hb := Lib.hid hb; clear hb
 obtain ⟨i0, qi, qy0, qy1, qy2⟩ := info_parts info_Msg
 have hid := (schedOkS_parts Hb.out).1; have HID := Lib.hid hid; clear hid
 have E0 : Ext w w := Ext.refl _
 go_enter Try.func24, Try.ntmps24
 go_wp2_with fail
 refine (sSchedOk_k (h.ext (by exact extT))).mono ?_
 rintro e w1 ⟨rfl, hx1⟩
 have X1 : Ext w w1 := Ext.trans (by exact extT) hx1
 have XX1 := X1
 have hz1 := X1.size
 have hy1 := hx1.size; (try simp only [szA] at hy1)
 have KS1 : Blk w1 w.heap.size 65 #[.int .i64 s.Id, .int .i64 s.Seq, .int .i64 s.View.Jobs.Index, .int .i64 s.View.Jobs.Time, .int .i64 s.View.Jobs.Holder, .int .i64 s.View.Jobs.Epoch, .int .i64 s.View.Jobs.Until, .slice a7 n7 k7, .bool false, .int .i64 s.Op.Kind, .int .i64 s.Op.A, .int .i64 s.Op.B, .int .i64 s.Op.C, .int .i64 s.Op.D, .int .i64 s.Index] := Blk.ext (Blk.cast (by exact blkT) setsT) hx1
 have E1 : Ext w w1 := E0.trans X1
 clear hx1 X1
 have CS1 := KS1.cell; have FS1 := KS1.frozen; have LS1 := KS1.lt
 rw [hb0]; clear hb0
 go_wp2_with fail
 refine wp_region_held_drew (S := fun w' => Ext w1 w') (by kernel_rfl) (by (try dsimp only); first | exact Ext.drew (Ext.refl _) | exact extT) (fun hHeld => ?_)
 refine wpAnyH_take (i := 0) (v := ?_) rfl (by kernel_rfl) (by kernel_rfl) (by kernel_rfl) (fun _ _ _ h => h) (Or.inl ⟨by rfl, ?_⟩) (by assumption) ?_
 rotate_left
 focus (intro w hSw; (try dsimp only at hSw); go_simp <;> with_reducible rfl)
 (try simp only [redA, Act.put])
 refine wpAnyH_take (i := 1) (v := ?_) rfl (by kernel_rfl) (by kernel_rfl) (by kernel_rfl) (fun _ _ _ h => h) (Or.inl ⟨by rfl, ?_⟩) (by assumption) ?_
 rotate_left
 focus (intro w hSw; (try dsimp only at hSw); have hq := (KS1.ext hSw).cell; have hq2 := (KS1.ext hSw).lt; go_simp <;> with_reducible rfl)
 (try simp only [redA, Act.put])
 refine wpAnyH_take (i := 2) (v := ?_) rfl (by kernel_rfl) (by kernel_rfl) (by kernel_rfl) (fun _ _ _ h => h) (Or.inl ⟨by rfl, ?_⟩) (by assumption) ?_
 rotate_left
 focus (intro w hSw; (try dsimp only at hSw); go_simp <;> with_reducible rfl)
 (try simp only [redA, Act.put])
 refine wpAnyH_take (i := 3) (v := ?_) rfl (by kernel_rfl) (by kernel_rfl) (by kernel_rfl) (fun _ _ _ h => h) (Or.inl ⟨by rfl, ?_⟩) (by assumption) ?_
 rotate_left
 focus (intro w hSw; (try dsimp only at hSw); have hq := (KS1.ext hSw).cell; have hq2 := (KS1.ext hSw).lt; go_simp <;> with_reducible rfl)
 (try simp only [redA, Act.put])
 refine wpAnyH_ready (rs := [4]) (by kernel_rfl) (by simp) ?_
 refine AllReadyH.cons rfl (fun Kz hKz => ?_) AllReadyH.nil
 (try simp only [redA])
 go_simp
 go_at_call 65
 refine (sPollRow_k _ s.Id HID.out).mono ?_
 rintro e w2 ⟨_, rfl, hx2, Op⟩
 have X2 : Ext w1 w2 := Ext.trans (by exact extT) hx2; have hz2 := X2.size; have hv2 := hx2.size; (try simp only [szA] at hv2)
 replace Op := OwnI.mono (B' := w.heap.size) Op (by first | omega | (simp; done) | (simp; omega) | (simp only [szA]; omega))
 clear hx2
 obtain ⟨ap, np, kp, rfl⟩ := Op.shape
 refine hKz.out _ _ (by (try dsimp only); exact extT) (fun hHeld => ?_)
 clear hKz Kz
 (try simp only [redA, Act.put])
 refine wpAnyH_take (i := 5) (v := ?_) rfl (by kernel_rfl) (by kernel_rfl) (by kernel_rfl) (fun _ _ _ h => h) (Or.inl ⟨by rfl, ?_⟩) (by assumption) ?_
 rotate_left
 focus (intro w hSw; (try dsimp only at hSw); go_simp <;> with_reducible rfl)
 (try simp only [redA, Act.put])
 refine wpAnyH_ready (rs := [6]) (by kernel_rfl) (by simp) ?_
 refine AllReadyH.cons rfl (fun Kz hKz => ?_) AllReadyH.nil
 (try simp only [redA])
 go_simp
 refine hKz.out _ _ (by (try dsimp only); exact extT) (fun hHeld => ?_)
 clear hKz Kz
 (try simp only [redA, Act.put])
 refine wpAnyH_ready (rs := [7]) (by kernel_rfl) (by simp) ?_
 refine AllReadyH.cons rfl (fun Kz hKz => ?_) AllReadyH.nil
 (try simp only [redA])
 go_simp
 refine hKz.out _ _ (by (try dsimp only); exact extT) (fun hHeld => ?_)
 clear hKz Kz
 (try simp only [redA, Act.put])
 refine wpAnyH_done (by kernel_rfl) ?_ _
 have X29 := X2
 have hz2 := X2.size
 have KS2 : Blk w2 w.heap.size 65 #[.int .i64 s.Id, .int .i64 s.Seq, .int .i64 s.View.Jobs.Index, .int .i64 s.View.Jobs.Time, .int .i64 s.View.Jobs.Holder, .int .i64 s.View.Jobs.Epoch, .int .i64 s.View.Jobs.Until, .slice a7 n7 k7, .bool false, .int .i64 s.Op.Kind, .int .i64 s.Op.A, .int .i64 s.Op.B, .int .i64 s.Op.C, .int .i64 s.Op.D, .int .i64 s.Index] := Blk.ext KS1 X2
 have E2 : Ext w w2 := E1.trans X2
 clear CS1 FS1 LS1
 have CS2 := KS2.cell; have FS2 := KS2.frozen; have LS2 := KS2.lt
 have OM0 : OwnNs w.heap.size 118 2 2 (w2.alloc (.cells #[.int .i64 s.Id, .int .i64 1, .slice ap np kp] 118)) (.slice (some ⟨w2.heap.size, 0, none⟩) 1 1) [([s.Id, 1], pollL s.Id)] [.slice ap np kp] := OwnNs.lit1 (B2 := w.heap.size) (r := ([s.Id, 1], pollL s.Id)) rfl Op (Nat.le_refl _) (by omega) _ rfl
 obtain ⟨w3, hwj⟩ : ∃ x, x = w2.alloc (.cells #[.int .i64 s.Id, .int .i64 1, .slice ap np kp] 118) := ⟨_, rfl⟩
 rw [← hwj] at OM0 ⊢
 have hx3 : Ext w2 w3 := by rw [hwj]; exact extT
 clear hwj Op
 have X3 : Ext w2 w3 := Ext.trans (by exact extT) hx3
 have XX3 := X3
 have hz3 := X3.size
 have hy3 := hx3.size; (try simp only [szA] at hy3)
 have KS3 : Blk w3 w.heap.size 65 #[.int .i64 s.Id, .int .i64 s.Seq, .int .i64 s.View.Jobs.Index, .int .i64 s.View.Jobs.Time, .int .i64 s.View.Jobs.Holder, .int .i64 s.View.Jobs.Epoch, .int .i64 s.View.Jobs.Until, .slice a7 n7 k7, .bool false, .int .i64 s.Op.Kind, .int .i64 s.Op.A, .int .i64 s.Op.B, .int .i64 s.Op.C, .int .i64 s.Op.D, .int .i64 s.Index] := Blk.ext (Blk.cast (by exact blkT) setsT) hx3
 clear KS2
 have E3 : Ext w w3 := E2.trans X3
 clear hx3 X3 E2
 clear CS2 FS2 LS2
 have CS3 := KS3.cell; have FS3 := KS3.frozen; have LS3 := KS3.lt
 go_wp2_with fail
 refine (sAskBy_k (h.ext (by exact extT))).mono ?_
 rintro e w4 ⟨rfl, hx4⟩
 have X4 : Ext w3 w4 := Ext.trans (by exact extT) hx4
 have XX4 := X4
 have hz4 := X4.size
 have hy4 := hx4.size; (try simp only [szA] at hy4)
 have KS4 : Blk w4 w.heap.size 65 #[.int .i64 s.Id, .int .i64 s.Seq, .int .i64 s.View.Jobs.Index, .int .i64 s.View.Jobs.Time, .int .i64 s.View.Jobs.Holder, .int .i64 s.View.Jobs.Epoch, .int .i64 s.View.Jobs.Until, .slice a7 n7 k7, .bool false, .int .i64 s.Op.Kind, .int .i64 s.Op.A, .int .i64 s.Op.B, .int .i64 s.Op.C, .int .i64 s.Op.D, .int .i64 s.Index] := Blk.ext (Blk.cast (by exact blkT) setsT) hx4
 clear KS3
 have E4 : Ext w w4 := E3.trans X4
 clear hx4 X4 E3
 clear CS3 FS3 LS3
 have CS4 := KS4.cell; have FS4 := KS4.frozen; have LS4 := KS4.lt
 have OM1 := OwnNs.ext OM0 (show Ext w3 w4 from XX4); clear OM0 XX4
 rw [show askByB s = false from by unfold askByB; rw [HB.out]; simp]
 go_wp2_with fail
 go_ret
 rw [sends_idle Hb.out HB.out]
 exact ⟨_, rfl, by exact extT, OwMsgs.of ⟨_, OwnNs.ext OM1 (by exact extT)⟩⟩
set_option maxHeartbeats 4000000 in
set_option maxRecDepth 100000 in
theorem sSendsOf_k_busy {w : World} {v : Value} {s : DSched} (h : RdSched w v s) (hb : schedOkS s = true) (hbz : s.Busy = true) : Calls Try.prog 24 #[v] w (Ret w fun r w' => ∃ F, OwMsgs w.heap.size w' r (sendsL s) F) := by
 obtain ⟨a7, n7, k7, rfl⟩ := h.shape
 rw [hbz] at h ⊢
 have HB := Lib.hid hbz; clear hbz
 have hb0 := hb; have Hb := Lib.hid hb; clear hb
 obtain ⟨i0, qi, qy0, qy1, qy2⟩ := info_parts info_Msg
 have hid := (schedOkS_parts Hb.out).1; have HID := Lib.hid hid; clear hid
 have E0 : Ext w w := Ext.refl _
 go_enter Try.func24, Try.ntmps24
 go_wp2_with fail
 refine (sSchedOk_k (h.ext (by exact extT))).mono ?_
 rintro e w1 ⟨rfl, hx1⟩
 have X1 : Ext w w1 := Ext.trans (by exact extT) hx1
 have XX1 := X1
 have hz1 := X1.size
 have hy1 := hx1.size; (try simp only [szA] at hy1)
 have KS1 : Blk w1 w.heap.size 65 #[.int .i64 s.Id, .int .i64 s.Seq, .int .i64 s.View.Jobs.Index, .int .i64 s.View.Jobs.Time, .int .i64 s.View.Jobs.Holder, .int .i64 s.View.Jobs.Epoch, .int .i64 s.View.Jobs.Until, .slice a7 n7 k7, .bool true, .int .i64 s.Op.Kind, .int .i64 s.Op.A, .int .i64 s.Op.B, .int .i64 s.Op.C, .int .i64 s.Op.D, .int .i64 s.Index] := Blk.ext (Blk.cast (by exact blkT) setsT) hx1
 have E1 : Ext w w1 := E0.trans X1
 clear hx1 X1
 have CS1 := KS1.cell; have FS1 := KS1.frozen; have LS1 := KS1.lt
 rw [hb0]; clear hb0
 go_wp2_with fail
 refine wp_region_held_drew (S := fun w' => Ext w1 w') (by kernel_rfl) (by (try dsimp only); first | exact Ext.drew (Ext.refl _) | exact extT) (fun hHeld => ?_)
 refine wpAnyH_take (i := 0) (v := ?_) rfl (by kernel_rfl) (by kernel_rfl) (by kernel_rfl) (fun _ _ _ h => h) (Or.inl ⟨by rfl, ?_⟩) (by assumption) ?_
 rotate_left
 focus (intro w hSw; (try dsimp only at hSw); go_simp <;> with_reducible rfl)
 (try simp only [redA, Act.put])
 refine wpAnyH_take (i := 1) (v := ?_) rfl (by kernel_rfl) (by kernel_rfl) (by kernel_rfl) (fun _ _ _ h => h) (Or.inl ⟨by rfl, ?_⟩) (by assumption) ?_
 rotate_left
 focus (intro w hSw; (try dsimp only at hSw); have hq := (KS1.ext hSw).cell; have hq2 := (KS1.ext hSw).lt; go_simp <;> with_reducible rfl)
 (try simp only [redA, Act.put])
 refine wpAnyH_take (i := 2) (v := ?_) rfl (by kernel_rfl) (by kernel_rfl) (by kernel_rfl) (fun _ _ _ h => h) (Or.inl ⟨by rfl, ?_⟩) (by assumption) ?_
 rotate_left
 focus (intro w hSw; (try dsimp only at hSw); go_simp <;> with_reducible rfl)
 (try simp only [redA, Act.put])
 refine wpAnyH_take (i := 3) (v := ?_) rfl (by kernel_rfl) (by kernel_rfl) (by kernel_rfl) (fun _ _ _ h => h) (Or.inl ⟨by rfl, ?_⟩) (by assumption) ?_
 rotate_left
 focus (intro w hSw; (try dsimp only at hSw); have hq := (KS1.ext hSw).cell; have hq2 := (KS1.ext hSw).lt; go_simp <;> with_reducible rfl)
 (try simp only [redA, Act.put])
 refine wpAnyH_ready (rs := [4]) (by kernel_rfl) (by simp) ?_
 refine AllReadyH.cons rfl (fun Kz hKz => ?_) AllReadyH.nil
 (try simp only [redA])
 go_simp
 go_at_call 65
 refine (sPollRow_k _ s.Id HID.out).mono ?_
 rintro e w2 ⟨_, rfl, hx2, Op⟩
 have X2 : Ext w1 w2 := Ext.trans (by exact extT) hx2; have hz2 := X2.size; have hv2 := hx2.size; (try simp only [szA] at hv2)
 replace Op := OwnI.mono (B' := w.heap.size) Op (by first | omega | (simp; done) | (simp; omega) | (simp only [szA]; omega))
 clear hx2
 obtain ⟨ap, np, kp, rfl⟩ := Op.shape
 refine hKz.out _ _ (by (try dsimp only); exact extT) (fun hHeld => ?_)
 clear hKz Kz
 (try simp only [redA, Act.put])
 refine wpAnyH_take (i := 5) (v := ?_) rfl (by kernel_rfl) (by kernel_rfl) (by kernel_rfl) (fun _ _ _ h => h) (Or.inl ⟨by rfl, ?_⟩) (by assumption) ?_
 rotate_left
 focus (intro w hSw; (try dsimp only at hSw); go_simp <;> with_reducible rfl)
 (try simp only [redA, Act.put])
 refine wpAnyH_ready (rs := [6]) (by kernel_rfl) (by simp) ?_
 refine AllReadyH.cons rfl (fun Kz hKz => ?_) AllReadyH.nil
 (try simp only [redA])
 go_simp
 refine hKz.out _ _ (by (try dsimp only); exact extT) (fun hHeld => ?_)
 clear hKz Kz
 (try simp only [redA, Act.put])
 refine wpAnyH_ready (rs := [7]) (by kernel_rfl) (by simp) ?_
 refine AllReadyH.cons rfl (fun Kz hKz => ?_) AllReadyH.nil
 (try simp only [redA])
 go_simp
 refine hKz.out _ _ (by (try dsimp only); exact extT) (fun hHeld => ?_)
 clear hKz Kz
 (try simp only [redA, Act.put])
 refine wpAnyH_done (by kernel_rfl) ?_ _
 have X29 := X2
 have hz2 := X2.size
 have KS2 : Blk w2 w.heap.size 65 #[.int .i64 s.Id, .int .i64 s.Seq, .int .i64 s.View.Jobs.Index, .int .i64 s.View.Jobs.Time, .int .i64 s.View.Jobs.Holder, .int .i64 s.View.Jobs.Epoch, .int .i64 s.View.Jobs.Until, .slice a7 n7 k7, .bool true, .int .i64 s.Op.Kind, .int .i64 s.Op.A, .int .i64 s.Op.B, .int .i64 s.Op.C, .int .i64 s.Op.D, .int .i64 s.Index] := Blk.ext KS1 X2
 have E2 : Ext w w2 := E1.trans X2
 clear CS1 FS1 LS1
 have CS2 := KS2.cell; have FS2 := KS2.frozen; have LS2 := KS2.lt
 have OM0 : OwnNs w.heap.size 118 2 2 (w2.alloc (.cells #[.int .i64 s.Id, .int .i64 1, .slice ap np kp] 118)) (.slice (some ⟨w2.heap.size, 0, none⟩) 1 1) [([s.Id, 1], pollL s.Id)] [.slice ap np kp] := OwnNs.lit1 (B2 := w.heap.size) (r := ([s.Id, 1], pollL s.Id)) rfl Op (Nat.le_refl _) (by omega) _ rfl
 obtain ⟨w3, hwj⟩ : ∃ x, x = w2.alloc (.cells #[.int .i64 s.Id, .int .i64 1, .slice ap np kp] 118) := ⟨_, rfl⟩
 rw [← hwj] at OM0 ⊢
 have hx3 : Ext w2 w3 := by rw [hwj]; exact extT
 clear hwj Op
 have X3 : Ext w2 w3 := Ext.trans (by exact extT) hx3
 have XX3 := X3
 have hz3 := X3.size
 have hy3 := hx3.size; (try simp only [szA] at hy3)
 have KS3 : Blk w3 w.heap.size 65 #[.int .i64 s.Id, .int .i64 s.Seq, .int .i64 s.View.Jobs.Index, .int .i64 s.View.Jobs.Time, .int .i64 s.View.Jobs.Holder, .int .i64 s.View.Jobs.Epoch, .int .i64 s.View.Jobs.Until, .slice a7 n7 k7, .bool true, .int .i64 s.Op.Kind, .int .i64 s.Op.A, .int .i64 s.Op.B, .int .i64 s.Op.C, .int .i64 s.Op.D, .int .i64 s.Index] := Blk.ext (Blk.cast (by exact blkT) setsT) hx3
 clear KS2
 have E3 : Ext w w3 := E2.trans X3
 clear hx3 X3 E2
 clear CS2 FS2 LS2
 have CS3 := KS3.cell; have FS3 := KS3.frozen; have LS3 := KS3.lt
 go_wp2_with fail
 refine (sAskBy_k (h.ext (by exact extT))).mono ?_
 rintro e w4 ⟨rfl, hx4⟩
 have X4 : Ext w3 w4 := Ext.trans (by exact extT) hx4
 have XX4 := X4
 have hz4 := X4.size
 have hy4 := hx4.size; (try simp only [szA] at hy4)
 have KS4 : Blk w4 w.heap.size 65 #[.int .i64 s.Id, .int .i64 s.Seq, .int .i64 s.View.Jobs.Index, .int .i64 s.View.Jobs.Time, .int .i64 s.View.Jobs.Holder, .int .i64 s.View.Jobs.Epoch, .int .i64 s.View.Jobs.Until, .slice a7 n7 k7, .bool true, .int .i64 s.Op.Kind, .int .i64 s.Op.A, .int .i64 s.Op.B, .int .i64 s.Op.C, .int .i64 s.Op.D, .int .i64 s.Index] := Blk.ext (Blk.cast (by exact blkT) setsT) hx4
 clear KS3
 have E4 : Ext w w4 := E3.trans X4
 clear hx4 X4 E3
 clear CS3 FS3 LS3
 have CS4 := KS4.cell; have FS4 := KS4.frozen; have LS4 := KS4.lt
 have OM1 := OwnNs.ext OM0 (show Ext w3 w4 from XX4); clear OM0 XX4
 rw [show askByB s = true from by unfold askByB; rw [Hb.out, HB.out]; rfl, show askBy s = ⟨s.Id, s.Seq, s.Op⟩ from by unfold askBy; rw [if_pos (by rw [Hb.out, HB.out]; rfl)]]
 have HA : Hid (askOk ⟨s.Id, s.Seq, ⟨s.Op.Kind, s.Op.A, s.Op.B, s.Op.C, s.Op.D⟩⟩ = true) := Lib.hid (asks_ok Hb.out HB.out)
 have hfo := OwnNs.foot OM1
 have hwn : w.heap.size ≤ w4.heap.size := by omega
 go_wp2_with fail
 refine wp_region_held_drew (S := (fun w' => Ext w w' ∧ Blk w' w.heap.size 65 #[.int .i64 s.Id, .int .i64 s.Seq, .int .i64 s.View.Jobs.Index, .int .i64 s.View.Jobs.Time, .int .i64 s.View.Jobs.Holder, .int .i64 s.View.Jobs.Epoch, .int .i64 s.View.Jobs.Until, .slice a7 n7 k7, .bool true, .int .i64 s.Op.Kind, .int .i64 s.Op.A, .int .i64 s.Op.B, .int .i64 s.Op.C, .int .i64 s.Op.D, .int .i64 s.Index] ∧ Blk w' w4.heap.size 120 #[.int .i64 s.Id, .int .i64 s.Seq, .int .i64 s.Op.Kind, .int .i64 s.Op.A, .int .i64 s.Op.B, .int .i64 s.Op.C, .int .i64 s.Op.D])) (by kernel_rfl) (by (try dsimp only); exact ⟨by exact extT, Blk.cast (by exact blkT) setsT, Blk.cast (by exact blkT) setsT⟩) (fun hHeld => ?_)
 refine wpAnyH_take (i := 0) (v := ?_) rfl (by kernel_rfl) (by kernel_rfl) (by kernel_rfl) (fun _ _ _ h => h) (Or.inl ⟨by rfl, ?_⟩) (by assumption) ?_
 rotate_left
 focus (intro w hSw; (try dsimp only at hSw); go_simp <;> with_reducible rfl)
 (try simp only [redA, Act.put])
 refine wpAnyH_take (i := 1) (v := ?_) rfl (by kernel_rfl) (by kernel_rfl) (by kernel_rfl) (fun _ _ _ h => h) (Or.inl ⟨by rfl, ?_⟩) (by assumption) ?_
 rotate_left
 focus (intro w hSw; (try dsimp only at hSw); go_simp <;> with_reducible rfl)
 (try simp only [redA, Act.put])
 refine wpAnyH_take (i := 2) (v := ?_) rfl (by kernel_rfl) (by kernel_rfl) (by kernel_rfl) (fun _ _ _ h => h) (Or.inl ⟨by rfl, ?_⟩) (by assumption) ?_
 rotate_left
 focus (intro w hSw; (try dsimp only at hSw); have hq := hSw.2.1.cell; have hq2 := hSw.2.1.lt; go_simp <;> with_reducible rfl)
 (try simp only [redA, Act.put])
 refine wpAnyH_take (i := 3) (v := ?_) rfl (by kernel_rfl) (by kernel_rfl) (by kernel_rfl) (fun _ _ _ h => h) (Or.inl ⟨by rfl, ?_⟩) (by assumption) ?_
 rotate_left
 focus (intro w hSw; (try dsimp only at hSw); have hq := hSw.2.2.cell; have hq2 := hSw.2.2.lt; go_simp <;> with_reducible rfl)
 (try simp only [redA, Act.put])
 refine wpAnyH_ready (rs := [4]) (by kernel_rfl) (by simp) ?_
 refine AllReadyH.cons rfl (fun Kz hKz => ?_) AllReadyH.nil
 (try simp only [redA])
 go_simp
 go_at_call 67
 refine (sAskRow_k _ s.Id s.Seq s.Op.Kind s.Op.A s.Op.B s.Op.C s.Op.D HA.out).mono ?_
 rintro e w5 ⟨_, rfl, hx5, Oz⟩
 have KS5 : Blk w5 w.heap.size 65 #[.int .i64 s.Id, .int .i64 s.Seq, .int .i64 s.View.Jobs.Index, .int .i64 s.View.Jobs.Time, .int .i64 s.View.Jobs.Holder, .int .i64 s.View.Jobs.Epoch, .int .i64 s.View.Jobs.Until, .slice a7 n7 k7, .bool true, .int .i64 s.Op.Kind, .int .i64 s.Op.A, .int .i64 s.Op.B, .int .i64 s.Op.C, .int .i64 s.Op.D, .int .i64 s.Index] := Blk.ext (Blk.cast (by exact blkT) setsT) hx5
 have KK5 : Blk w5 w4.heap.size 120 #[.int .i64 s.Id, .int .i64 s.Seq, .int .i64 s.Op.Kind, .int .i64 s.Op.A, .int .i64 s.Op.B, .int .i64 s.Op.C, .int .i64 s.Op.D] := Blk.ext (Blk.cast (by exact blkT) setsT) hx5
 have hz5 := hx5.size; (try simp only [szA] at hz5)
 have E5 : Ext w w5 := Ext.trans (by exact extT) hx5
 have OM2 := OwnNs.ext OM1 (Ext.trans (show Ext w4 _ from by exact extT) hx5)
 replace Oz := OwnI.mono (B' := w4.heap.size) Oz (by first | omega | (simp; done) | (simp; omega) | (simp only [szA]; omega))
 obtain ⟨ar, nr, kr, rfl⟩ := Oz.shape
 clear hx5 OM1
 refine hKz.out _ _ (by (try dsimp only); exact ⟨by exact extT, Blk.cast (by exact blkT) setsT, Blk.cast (by exact blkT) setsT⟩) (fun hHeld => ?_)
 clear hKz Kz
 (try simp only [redA, Act.put])
 refine wpAnyH_take (i := 5) (v := ?_) rfl (by kernel_rfl) (by kernel_rfl) (by kernel_rfl) (fun _ _ _ h => h) (Or.inl ⟨by rfl, ?_⟩) (by assumption) ?_
 rotate_left
 focus (intro w hSw; (try dsimp only at hSw); go_simp <;> with_reducible rfl)
 (try simp only [redA, Act.put])
 refine wpAnyH_ready (rs := [6]) (by kernel_rfl) (by simp) ?_
 refine AllReadyH.cons rfl (fun Kz hKz => ?_) AllReadyH.nil
 (try simp only [redA])
 go_simp
 refine hKz.out _ _ (by (try dsimp only); exact ⟨by exact extT, Blk.cast (by exact blkT) setsT, Blk.cast (by exact blkT) setsT⟩) (fun hHeld => ?_)
 clear hKz Kz
 (try simp only [redA, Act.put])
 refine wpAnyH_ready (rs := [7]) (by kernel_rfl) (by simp) ?_
 refine AllReadyH.cons rfl (fun Kz hKz => ?_) AllReadyH.nil
 (try simp only [redA])
 have OO := OwnNs.ext OM2 ((Ext.refl w5).alloc (.cells #[.int .i64 s.Id, .int .i64 0, .slice ar nr kr] 118))
 rw [if_pos (by rfl)]
 refine wp_append_row0 (n := 2) (r := ([s.Id, 0], askL ⟨s.Id, s.Seq, s.Op⟩)) (.tmp 23) (.tmp 29) 71 (by rfl) i0 _ 40 Try.underlying71 qi qy0 qy1 qy2 rfl (by rfl) OO _ (by rfl) _ (by exact Blk.new _ _ _) (by rfl) rfl (Own.ext Oz ((Ext.refl _).alloc _)) hwn (fun k hk => (hfo k hk).2) 1001 (by simp) (by unfold maxLen; omega) (by omega) (by (try simp only [World.size_alloc]); omega) ?_
 intro gx cp w6 hown1 hga hxa hua
 have E6 : Ext w w6 := hxa w (by exact extT) (Nat.le_refl _)
 have KS6 : Blk w6 w.heap.size 65 #[.int .i64 s.Id, .int .i64 s.Seq, .int .i64 s.View.Jobs.Index, .int .i64 s.View.Jobs.Time, .int .i64 s.View.Jobs.Holder, .int .i64 s.View.Jobs.Epoch, .int .i64 s.View.Jobs.Until, .slice a7 n7 k7, .bool true, .int .i64 s.Op.Kind, .int .i64 s.Op.A, .int .i64 s.Op.B, .int .i64 s.Op.C, .int .i64 s.Op.D, .int .i64 s.Index] := Blk.app (Blk.cast (by exact blkT) setsT) OO.2.2.1 (by decide) hga
 have KK6 : Blk w6 w4.heap.size 120 #[.int .i64 s.Id, .int .i64 s.Seq, .int .i64 s.Op.Kind, .int .i64 s.Op.A, .int .i64 s.Op.B, .int .i64 s.Op.C, .int .i64 s.Op.D] := Blk.app (Blk.cast (by exact blkT) setsT) OO.2.2.1 (by decide) hga
 clear hga hxa hua OO OM2
 refine hKz.out _ _ (by (try dsimp only); exact ⟨by exact extT, Blk.cast (by exact blkT) setsT, Blk.cast (by exact blkT) setsT⟩) (fun hHeld => ?_)
 clear hKz Kz
 (try simp only [redA, Act.put])
 refine wpAnyH_ready (rs := [8]) (by kernel_rfl) (by simp) ?_
 refine AllReadyH.cons rfl (fun Kz hKz => ?_) AllReadyH.nil
 (try simp only [redA])
 go_simp
 refine hKz.out _ _ (by (try dsimp only); exact ⟨by exact extT, Blk.cast (by exact blkT) setsT, Blk.cast (by exact blkT) setsT⟩) (fun hHeld => ?_)
 clear hKz Kz
 (try simp only [redA, Act.put])
 refine wpAnyH_done (by kernel_rfl) ?_ _
 go_wp2_with fail
 go_ret
 rw [sends_busy Hb.out HB.out]
 exact ⟨_, rfl, by exact extT, OwMsgs.of ⟨_, OwnNs.ext hown1 (by exact extT)⟩⟩
theorem sSendsOf_k {w : World} {v : Value} {s : DSched} (h : RdSched w v s) : Calls Try.prog 24 #[v] w (Ret w fun r w' => ∃ F, OwMsgs w.heap.size w' r (sendsL s) F) := by
 cases hb : schedOkS s
 ·
  exact sSendsOf_k_bad h hb
 cases hbz : s.Busy
 ·
  exact sSendsOf_k_idle h hb hbz
 ·
  exact sSendsOf_k_busy h hb hbz

end Go.Proofs.Ythihnangjghloaa
