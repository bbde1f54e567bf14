/- Stores that fall. -/
import Derived.Test.YtankkbjlneeolaaKS
import Derived.Test.YtankkbjlneeolaaP7
import Derived.Test.YtankkbjlneeolaaKB
set_option linter.unusedSimpArgs false
set_option linter.unusedVariables false
namespace Go.Proofs.Ytankkbjlneeolaa
open Go.RowKit Go.G8

section
variable {B : Nat} {w : World}
theorem OwStore.nil (B : Nat) (w : World) : OwStore B w (.agg #[.slice none 0 0, .slice none 0 0, .int .i64 0, .int .i64 0, .slice none 0 0, .slice none 0 0, .int .i64 0, .int .i64 0, .int .i64 0, .int .i64 0, .int .i64 0, .int .i64 0]) ⟨⟨[], []⟩, ⟨0, 0, [], [], ⟨0, 0, 0⟩⟩, 0, 0, 0⟩ [] :=
  ⟨_, _, _, _, [], [], rfl, OwnNs.nil _ _ _ _ _, OwnNs.nil _ _ _ _ _, OwnI.nil _ _ _ _, OwnI.nil _ _ _ _, by simp [feet, Value.ownBlock], by simp [feet, Value.ownBlock]⟩
theorem IsDisk.store {a b : Value} {d : DDisk} (h : IsDisk B w (.agg #[a, b]) d) : ∃ F, OwStore B w (.agg #[a, b, .int .i64 0, .int .i64 0, .slice none 0 0, .slice none 0 0, .int .i64 0, .int .i64 0, .int .i64 0, .int .i64 0, .int .i64 0, .int .i64 0]) ⟨d, ⟨0, 0, [], [], ⟨0, 0, 0⟩⟩, 0, 0, 0⟩ F := by
  obtain ⟨t0, t1, ss0, ss1, e, h0, h1, hd⟩ := h
  injection e with e; injection e with e; injection e with e1 e; injection e with e2 _
  subst e1; subst e2
  exact ⟨_, _, _, _, _, ss0, ss1, rfl, h0, h1, OwnI.nil _ _ _ _, OwnI.nil _ _ _ _, hd, rfl⟩
end
noncomputable def fallenStore (fates : List Int) (s : DStore) : DStore := if storeOk s then ⟨fallenDisk false fates s.Disk, ⟨0, 0, [], [], ⟨0, 0, 0⟩⟩, 0, 0, 0⟩ else ⟨⟨[], []⟩, ⟨0, 0, [], [], ⟨0, 0, 0⟩⟩, 0, 0, 0⟩
theorem storeOk_disk {s : DStore} (h : storeOk s = true) : diskOk s.Disk = true := by
  simp only [storeOk, Bool.and_eq_true] at h
  exact shelfOk_disk h.1
theorem sStoreOk_k {w : World} {v : Value} {s : DStore} (h : RdStore w v s) : Calls Try.prog 24 #[v] w (RetV w (.bool (storeOk s))) := by
  obtain ⟨t0, t1, t4, t5, rfl, h0, h1, h4, h5⟩ := h
  exact sStoreOk_c w t0 s.Disk.Kept t1 s.Disk.Wait s.State.Index s.State.Time t4 s.State.Pairs t5 s.State.Jobs s.State.Lease.Holder s.State.Lease.Epoch s.State.Lease.Until s.Num s.Last s.Busy h0 h1 h4 h5
set_option maxHeartbeats 4000000 in
set_option maxRecDepth 100000 in
theorem sFallenStore_k {w : World} {v : Value} {s : DStore} (h : RdStore w v s) {u : Value} {fates : List Int} (hf : Ints 1 w u fates) : Calls Try.prog 7 #[v, u] w (Ret w fun r w' => ∃ F, OwStore w.heap.size w' r (fallenStore fates s) F) := by
  have H := h
  obtain ⟨t0, t1, t4, t5, rfl, h0, h1, h4, h5⟩ := h
  obtain ⟨a0, n0, k0, rfl⟩ := h0.shape
  obtain ⟨a1, n1, k1, rfl⟩ := h1.shape
  obtain ⟨a4, n4, k4, rfl⟩ := h4.shape
  obtain ⟨a5, n5, k5, rfl⟩ := h5.shape
  obtain ⟨W0, hW0⟩ : ∃ W0, W0 = (w.alloc (.cells #[.slice a0 n0 k0, .slice a1 n1 k1, .int .i64 s.State.Index, .int .i64 s.State.Time, .slice a4 n4 k4, .slice a5 n5 k5, .int .i64 s.State.Lease.Holder, .int .i64 s.State.Lease.Epoch, .int .i64 s.State.Lease.Until, .int .i64 s.Num, .int .i64 s.Last, .int .i64 s.Busy] 45)).alloc (.cells #[.slice none 0 0, .slice none 0 0, .int .i64 0, .int .i64 0, .slice none 0 0, .slice none 0 0, .int .i64 0, .int .i64 0, .int .i64 0, .int .i64 0, .int .i64 0, .int .i64 0] 45) := ⟨_, rfl⟩
  have hE0 : Ext w W0 := by rw [hW0]; exact ((Ext.refl _).alloc _).alloc _
  have hs0 : W0.heap.size = w.heap.size + 1 + 1 := by rw [hW0]; simp
  have KR0 : Blk W0 (w.heap.size + 1) 45 #[.slice none 0 0, .slice none 0 0, .int .i64 0, .int .i64 0, .slice none 0 0, .slice none 0 0, .int .i64 0, .int .i64 0, .int .i64 0, .int .i64 0, .int .i64 0, .int .i64 0] := by rw [hW0]; exact Blk.new2 _ _ _ _
  have KP0 : Blk W0 w.heap.size 45 #[.slice a0 n0 k0, .slice a1 n1 k1, .int .i64 s.State.Index, .int .i64 s.State.Time, .slice a4 n4 k4, .slice a5 n5 k5, .int .i64 s.State.Lease.Holder, .int .i64 s.State.Lease.Epoch, .int .i64 s.State.Lease.Until, .int .i64 s.Num, .int .i64 s.Last, .int .i64 s.Busy] := by rw [hW0]; exact (Blk.new _ _ _).alloc _
  have HW0 := Lib.hid hW0
  clear hW0
  obtain ⟨a2, n2, k2, rfl⟩ := hf.shape
  go_enter Try.func7, Try.ntmps7
  go_wp2_with fail
  rw [← HW0.out]
  refine (sStoreOk_k (H.ext hE0)).mono ?_
  rintro e w1 ⟨rfl, hx1⟩
  have hz1 := hx1.size; have KR1 := KR0.ext hx1; have KP1 := KP0.ext hx1; have CR1 := KR1.cell; have FR1 := KR1.frozen; have CP1 := KP1.cell
  have hE1 : Ext w w1 := hE0.trans hx1
  cases hb : storeOk s
  · go_wp2_with fail
    refine bodyPost_ret (by simp [results, Try.results7, go_sem, *]; try rfl) rfl ?_
    refine ⟨_, rfl, ?_, [], (OwStore.nil _ _).cast (by simp [fallenStore, hb])⟩
    repeat' (first | (with_reducible exact Ext.refl _) | (with_reducible assumption) | (with_reducible refine Ext.drewN ?_ _) | (with_reducible refine Ext.drew ?_) | (with_reducible refine Ext.alloc ?_ _) | (with_reducible refine Ext.setCell ?_ ?_ _) | (with_reducible refine Ext.setRow ?_ ?_ _) | (with_reducible exact Nat.le_refl _) | (with_reducible refine Ext.trans ?_ (by assumption)) | omega)
  · go_wp2_with fail
    refine (sFallen_c _ _ s.Disk.Kept _ s.Disk.Wait _ fates (h0.ext hE1) (h1.ext hE1) (hf.ext hE1)).mono ?_
    rintro e w2 ⟨_, rfl, hx2, hd⟩
    obtain ⟨b0, m0, j0, b1, m1, j1, rfl⟩ := hd.shape
    have KR2 := KR1.ext hx2; have CR2 := KR2.cell; have FR2 := KR2.frozen; have hz2 := hx2.size
    have hbd : ∀ w : World, (Instr.build 45 #[(0, .agg #[.slice b0 m0 j0, .slice b1 m1 j1])]).run Try.prog w = .ok (.agg #[.slice b0 m0 j0, .slice b1 m1 j1, .int .i64 0, .int .i64 0, .slice none 0 0, .slice none 0 0, .int .i64 0, .int .i64 0, .int .i64 0, .int .i64 0, .int .i64 0, .int .i64 0]) w := fun _ => by kernel_rfl
    go_wp2_with fail
    refine bodyPost_ret (by simp [results, Try.results7, go_sem, *]; try rfl) rfl ?_
    rw [show fallenStore fates s = ⟨fallenDisk false fates s.Disk, ⟨0, 0, [], [], ⟨0, 0, 0⟩⟩, 0, 0, 0⟩ by simp [fallenStore, hb]]
    refine ⟨_, rfl, ?_, (IsDisk.mono (IsDisk.keep hd (by repeat' (first | (with_reducible exact Chg.refl _ _) | (with_reducible refine Chg.drewN ?_ _) | (with_reducible refine Chg.drew ?_) | (with_reducible refine Chg.alloc ?_ _) | (with_reducible refine Chg.setLow ?_ (by omega) _) | (with_reducible refine Chg.setNew ?_ (by omega) _) | (with_reducible refine Chg.setRow ?_ (by omega) _) | (with_reducible refine Chg.ext ?_ (by assumption)) | omega))) (by omega)).store⟩
    repeat' (first | (with_reducible exact Ext.refl _) | (with_reducible assumption) | (with_reducible refine Ext.drewN ?_ _) | (with_reducible refine Ext.drew ?_) | (with_reducible refine Ext.alloc ?_ _) | (with_reducible refine Ext.setCell ?_ ?_ _) | (with_reducible refine Ext.setRow ?_ ?_ _) | (with_reducible exact Nat.le_refl _) | (with_reducible refine Ext.trans ?_ (by assumption)) | omega)
theorem storeOk_k {w : World} {v : Value} {s : DStore} (h : RdStore w v s) : Calls Try.prog 28 #[v] w (RetV w (.bool (storeOk s))) := by
  obtain ⟨t0, t1, t4, t5, rfl, h0, h1, h4, h5⟩ := h
  exact storeOk_c w t0 s.Disk.Kept t1 s.Disk.Wait s.State.Index s.State.Time t4 s.State.Pairs t5 s.State.Jobs s.State.Lease.Holder s.State.Lease.Epoch s.State.Lease.Until s.Num s.Last s.Busy h0 h1 h4 h5
set_option maxHeartbeats 4000000 in
set_option maxRecDepth 100000 in
theorem fallenStore_k {w : World} {v : Value} {s : DStore} (h : RdStore w v s) {u : Value} {fates : List Int} (hf : Ints 1 w u fates) : Calls Try.prog 10 #[v, u] w (Ret w fun r w' => ∃ F, OwStore w.heap.size w' r (fallenStore fates s) F) := by
  have H := h
  obtain ⟨t0, t1, t4, t5, rfl, h0, h1, h4, h5⟩ := h
  obtain ⟨a0, n0, k0, rfl⟩ := h0.shape
  obtain ⟨a1, n1, k1, rfl⟩ := h1.shape
  obtain ⟨a4, n4, k4, rfl⟩ := h4.shape
  obtain ⟨a5, n5, k5, rfl⟩ := h5.shape
  obtain ⟨W0, hW0⟩ : ∃ W0, W0 = (w.alloc (.cells #[.slice a0 n0 k0, .slice a1 n1 k1, .int .i64 s.State.Index, .int .i64 s.State.Time, .slice a4 n4 k4, .slice a5 n5 k5, .int .i64 s.State.Lease.Holder, .int .i64 s.State.Lease.Epoch, .int .i64 s.State.Lease.Until, .int .i64 s.Num, .int .i64 s.Last, .int .i64 s.Busy] 45)).alloc (.cells #[.slice none 0 0, .slice none 0 0, .int .i64 0, .int .i64 0, .slice none 0 0, .slice none 0 0, .int .i64 0, .int .i64 0, .int .i64 0, .int .i64 0, .int .i64 0, .int .i64 0] 45) := ⟨_, rfl⟩
  have hE0 : Ext w W0 := by rw [hW0]; exact ((Ext.refl _).alloc _).alloc _
  have hs0 : W0.heap.size = w.heap.size + 1 + 1 := by rw [hW0]; simp
  have KR0 : Blk W0 (w.heap.size + 1) 45 #[.slice none 0 0, .slice none 0 0, .int .i64 0, .int .i64 0, .slice none 0 0, .slice none 0 0, .int .i64 0, .int .i64 0, .int .i64 0, .int .i64 0, .int .i64 0, .int .i64 0] := by rw [hW0]; exact Blk.new2 _ _ _ _
  have KP0 : Blk W0 w.heap.size 45 #[.slice a0 n0 k0, .slice a1 n1 k1, .int .i64 s.State.Index, .int .i64 s.State.Time, .slice a4 n4 k4, .slice a5 n5 k5, .int .i64 s.State.Lease.Holder, .int .i64 s.State.Lease.Epoch, .int .i64 s.State.Lease.Until, .int .i64 s.Num, .int .i64 s.Last, .int .i64 s.Busy] := by rw [hW0]; exact (Blk.new _ _ _).alloc _
  have HW0 := Lib.hid hW0
  clear hW0
  obtain ⟨a2, n2, k2, rfl⟩ := hf.shape
  go_enter Try.func10, Try.ntmps10
  go_wp2_with fail
  rw [← HW0.out]
  refine (storeOk_k (H.ext hE0)).mono ?_
  rintro e w1 ⟨rfl, hx1⟩
  have hz1 := hx1.size; have KR1 := KR0.ext hx1; have KP1 := KP0.ext hx1; have CR1 := KR1.cell; have FR1 := KR1.frozen; have CP1 := KP1.cell
  have hE1 : Ext w w1 := hE0.trans hx1
  cases hb : storeOk s
  · go_wp2_with fail
    refine bodyPost_ret (by simp [results, Try.results10, go_sem, *]; try rfl) rfl ?_
    refine ⟨_, rfl, ?_, [], (OwStore.nil _ _).cast (by simp [fallenStore, hb])⟩
    repeat' (first | (with_reducible exact Ext.refl _) | (with_reducible assumption) | (with_reducible refine Ext.drewN ?_ _) | (with_reducible refine Ext.drew ?_) | (with_reducible refine Ext.alloc ?_ _) | (with_reducible refine Ext.setCell ?_ ?_ _) | (with_reducible refine Ext.setRow ?_ ?_ _) | (with_reducible exact Nat.le_refl _) | (with_reducible refine Ext.trans ?_ (by assumption)) | omega)
  · go_wp2_with fail
    refine (fallen_c _ _ s.Disk.Kept _ s.Disk.Wait _ fates (h0.ext hE1) (h1.ext hE1) (hf.ext hE1)).mono ?_
    rintro e w2 ⟨_, rfl, hx2, hd⟩
    obtain ⟨b0, m0, j0, b1, m1, j1, rfl⟩ := hd.shape
    have KR2 := KR1.ext hx2; have CR2 := KR2.cell; have FR2 := KR2.frozen; have hz2 := hx2.size
    have hbd : ∀ w : World, (Instr.build 45 #[(0, .agg #[.slice b0 m0 j0, .slice b1 m1 j1])]).run Try.prog w = .ok (.agg #[.slice b0 m0 j0, .slice b1 m1 j1, .int .i64 0, .int .i64 0, .slice none 0 0, .slice none 0 0, .int .i64 0, .int .i64 0, .int .i64 0, .int .i64 0, .int .i64 0, .int .i64 0]) w := fun _ => by kernel_rfl
    go_wp2_with fail
    refine bodyPost_ret (by simp [results, Try.results10, go_sem, *]; try rfl) rfl ?_
    rw [show fallenStore fates s = ⟨fallenDisk false fates s.Disk, ⟨0, 0, [], [], ⟨0, 0, 0⟩⟩, 0, 0, 0⟩ by simp [fallenStore, hb]]
    refine ⟨_, rfl, ?_, (IsDisk.mono (IsDisk.keep hd (by repeat' (first | (with_reducible exact Chg.refl _ _) | (with_reducible refine Chg.drewN ?_ _) | (with_reducible refine Chg.drew ?_) | (with_reducible refine Chg.alloc ?_ _) | (with_reducible refine Chg.setLow ?_ (by omega) _) | (with_reducible refine Chg.setNew ?_ (by omega) _) | (with_reducible refine Chg.setRow ?_ (by omega) _) | (with_reducible refine Chg.ext ?_ (by assumption)) | omega))) (by omega)).store⟩
    repeat' (first | (with_reducible exact Ext.refl _) | (with_reducible assumption) | (with_reducible refine Ext.drewN ?_ _) | (with_reducible refine Ext.drew ?_) | (with_reducible refine Ext.alloc ?_ _) | (with_reducible refine Ext.setCell ?_ ?_ _) | (with_reducible refine Ext.setRow ?_ ?_ _) | (with_reducible exact Nat.le_refl _) | (with_reducible refine Ext.trans ?_ (by assumption)) | omega)
theorem fallenDisk_n (fates : List Int) (all : Bool) (d : DDisk) : nDisk (fallenDisk all fates d) ≤ 1000000 := by
  unfold fallenDisk
  split
  · rename_i h
    obtain ⟨h1, h2, h3, h4, h5⟩ := diskOk_rows h
    exact nDisk_bound (by simp only [fallK_len]; exact h4) (fallK_ok h _) (by simp) (by simp)
  · simp [nDisk, tot, nestInt64S, nestWrite]
theorem nFallenStore (fates : List Int) (s : DStore) : nStore (fallenStore fates s) ≤ 1000000 := by
  unfold fallenStore
  split
  · have := fallenDisk_n fates false s.Disk
    rw [nStore_eq]; simp only [List.length_nil]; omega
  · simp [nStore, tot, nestInt64S, nestWrite]

end Go.Proofs.Ytankkbjlneeolaa
