/- New disks. -/
import Derived.Test.YtghfklophkekjaaS1
import Derived.Test.YtghfklophkekjaaHelpC
namespace Go.Proofs.Ytghfklophkekjaa
open Go.RowKit Go.G8

end Go.Proofs.Ytghfklophkekjaa
namespace Go.G8
open Go.RowKit
def newDisk (n : Int) : DDisk := if inb n 1 40 then ⟨List.replicate n.toNat [], []⟩ else ⟨[], []⟩
theorem ncells_nil (n : Nat) : ncells (nestInt64S (List.replicate n [])) (List.replicate n (.slice none 0 0)) = List.replicate n (.slice none 0 0) := by
  induction n with
  | zero => rfl
  | succ n ih =>
    simp only [List.replicate_succ, nestInt64S, ncells, List.map_cons, List.zip_cons_cons, List.flatMap_cons] at ih ⊢
    rw [ih]
    simp [ncell]
theorem OwnNs.nil (B : Nat) (e e1 : TypeId) (n : Nat) (w : World) : OwnNs B e e1 n w (.slice none 0 0) [] [] :=
  ⟨fun r h => by simp at h, rfl, ⟨0, by simp [ncells], .inl ⟨rfl, rfl⟩⟩, ⟨fun i s r h => by simp at h, fun i j s t k _ h => by simp at h, fun i s k h => by simp at h⟩⟩
/-- What 'make([][]int64, n)' lays. -/
theorem OwnNs.made (w : World) (e e1 : TypeId) (n : Nat) (hn : n ≤ 40) : OwnNs w.heap.size e e1 0 (w.alloc (.cells (madeCells #[.slice none 0 0] n) e)) (.slice (some ⟨w.heap.size, 0, none⟩) n n) (nestInt64S (List.replicate n [])) (List.replicate n (.slice none 0 0)) := by
  have hrep : ∀ (i : Nat) (s : Value), (List.replicate n (Value.slice none 0 0))[i]? = some s → s = .slice none 0 0 := by
    intro i s h
    exact List.eq_of_mem_replicate (List.mem_of_getElem? h)
  have hft : ∀ k, k ∈ feet [Value.slice none 0 0] → False := by simp [feet, Value.ownBlock]
  refine ⟨fun r h => by simp [nestInt64S] at h; simp [h], by simp [nestInt64S], Own.of_blk (cap := n) (Blk.new _ _ _) (Nat.le_refl _) (by simp [size_madeCells]) (by rw [ncells_nil]; simp) (Nat.le_refl _) (by unfold maxLen; omega) ?_, ⟨fun i s r h1 h2 => ?_, fun i j s t k _ h1 h2 h3 => ?_, fun i s k h1 h3 => ?_⟩⟩
  · rw [ncells_nil]
    intro j hj
    have hj' : j < n := by omega
    simp [madeCells, hj', Nat.mod_one]
  · rw [hrep i s h1]
    have : r.2 = [] := by
      have := List.mem_of_getElem? h2
      simp [nestInt64S] at this
      simp [this]
    rw [this]
    exact OwnI.nil _ _ _ _
  · rw [hrep i s h1] at h3; exact (hft k h3).elim
  · rw [hrep i s h1] at h3; exact (hft k h3).elim
theorem OwnNs.made1 (w : World) (o : Obj) (e e1 : TypeId) (n : Nat) (hn : n ≤ 40) : OwnNs (w.heap.size + 1) e e1 0 ((w.alloc o).alloc (.cells (madeCells #[.slice none 0 0] n) e)) (.slice (some ⟨w.heap.size + 1, 0, none⟩) n n) (nestInt64S (List.replicate n [])) (List.replicate n (.slice none 0 0)) := by
  have := OwnNs.made (w.alloc o) e e1 n hn
  rwa [World.size_alloc] at this
end Go.G8
namespace Go.Proofs.Ytghfklophkekjaa
open Go.RowKit Go.G8
def IsDisk (B : Nat) (w : World) (v : Value) (d : DDisk) : Prop := ∃ t0 t1 : Value, ∃ ss0 ss1 : List Value, v = .agg #[t0, t1] ∧ OwnNs B 85 2 0 w t0 (nestInt64S d.Kept) ss0 ∧ OwnNs B 93 2 1 w t1 (nestWrite d.Wait) ss1 ∧ (∀ k, k ∈ feet (t0 :: ss0) → k ∈ feet (t1 :: ss1) → False)
set_option maxHeartbeats 1600000 in
set_option maxRecDepth 100000 in
theorem sNewDisk_c (w : World) (n : Int) : Calls Try.prog 89 #[.int .i64 n] w (Ret w fun v w' => IsDisk w.heap.size w' v (newDisk n)) := by
  cases hb : inb n 1 40
  · go_enter Try.func89, Try.ntmps89
    go_wp2_with (first | (go_at_call 43; refine (l1In_c _ _ _ _).mono ?_; rintro e w1 ⟨rfl, rfl⟩))
    refine bodyPost_ret (by simp [results, Try.results89, go_sem, *]; try rfl) rfl ?_
    refine ⟨_, rfl, by repeat' (first | (with_reducible exact Ext.refl _) | (with_reducible assumption) | (with_reducible refine Ext.drewN ?_ _) | (with_reducible refine Ext.drew ?_) | (with_reducible refine Ext.alloc ?_ _) | (with_reducible refine Ext.setCell ?_ ?_ _) | (with_reducible refine Ext.setRow ?_ ?_ _) | (with_reducible exact Nat.le_refl _) | (with_reducible refine Ext.trans ?_ (by assumption)) | omega), _, _, [], [], rfl, ?_, ?_, by simp [feet, Value.ownBlock]⟩
    · rw [show newDisk n = ⟨[], []⟩ by simp [newDisk, hb]]; exact OwnNs.nil _ _ _ _ _
    · rw [show newDisk n = ⟨[], []⟩ by simp [newDisk, hb]]; exact OwnNs.nil _ _ _ _ _
  · obtain ⟨h1, h2⟩ := inb_true.1 hb
    obtain ⟨m, rfl⟩ := Int.eq_ofNat_of_zero_le (show 0 ≤ n by omega)
    obtain ⟨i0, hi, hz0, hz1, hz2⟩ := info_parts info_Int64S
    have hmk := fun W => run_make (P := Try.prog) W 22 85 i0 _ Try.underlying22 hi hz0 .i64 .i64 m m (by omega) (by omega) (by rw [hz2]; omega) (by omega)
    simp only [Int.toNat_natCast] at hmk
    go_enter Try.func89, Try.ntmps89
    go_wp2_with (first | (go_at_call 43; refine (l1In_c _ _ _ _).mono ?_; rintro e w1 ⟨rfl, rfl⟩))
    clear hmk
    refine bodyPost_ret (by simp [results, Try.results89, go_sem, *]; try rfl) rfl ?_
    refine ⟨_, rfl, by repeat' (first | (with_reducible exact Ext.refl _) | (with_reducible assumption) | (with_reducible refine Ext.drewN ?_ _) | (with_reducible refine Ext.drew ?_) | (with_reducible refine Ext.alloc ?_ _) | (with_reducible refine Ext.setCell ?_ ?_ _) | (with_reducible refine Ext.setRow ?_ ?_ _) | (with_reducible exact Nat.le_refl _) | (with_reducible refine Ext.trans ?_ (by assumption)) | omega), _, _, List.replicate m (.slice none 0 0), [], rfl, ?_, ?_, by simp [feet, Value.ownBlock]⟩
    · rw [show newDisk (m : Int) = ⟨List.replicate m [], []⟩ by simp [newDisk, hb]]
      exact (OwnNs.made1 w _ 85 2 m (by omega)).mono (by omega)
    · rw [show newDisk (m : Int) = ⟨List.replicate m [], []⟩ by simp [newDisk, hb]]; exact OwnNs.nil _ _ _ _ _
set_option maxHeartbeats 1600000 in
set_option maxRecDepth 100000 in
theorem sNewShelf_c (w : World) : Calls Try.prog 49 #[] w (Ret w fun v w' => IsDisk w.heap.size w' v (newDisk 8)) := by
  go_enter Try.func49, Try.ntmps49
  go_wp2_with fail
  refine (sNewDisk_c _ 8).mono ?_
  rintro e w1 ⟨_, rfl, hx1, t0, t1, ss0, ss1, rfl, g0, g1, hd⟩
  obtain ⟨a0, n0, k0, rfl⟩ := g0.nest.shape
  obtain ⟨a1, n1, k1, rfl⟩ := g1.nest.shape
  obtain ⟨hc1, hf1⟩ := hx1.cells
  have hz1 := hx1.size
  simp only [World.size_alloc] at hc1 hf1 hz1 g0 g1
  have hy : w.heap.size < w1.heap.size := by omega
  go_wp2
  refine bodyPost_ret (by simp [results, Try.results49, go_sem, *]; try rfl) rfl ?_
  clear hc1 hf1
  refine ⟨_, rfl, by repeat' (first | (with_reducible exact Ext.refl _) | (with_reducible assumption) | (with_reducible refine Ext.drewN ?_ _) | (with_reducible refine Ext.drew ?_) | (with_reducible refine Ext.alloc ?_ _) | (with_reducible refine Ext.setCell ?_ ?_ _) | (with_reducible refine Ext.setRow ?_ ?_ _) | (with_reducible exact Nat.le_refl _) | (with_reducible refine Ext.trans ?_ (by assumption)) | omega), _, _, ss0, ss1, rfl, (OwnNs.keep g0 (by repeat' (first | (with_reducible exact Chg.refl _ _) | (with_reducible refine Chg.drewN ?_ _) | (with_reducible refine Chg.drew ?_) | (with_reducible refine Chg.alloc ?_ _) | (with_reducible refine Chg.setLow ?_ (by omega) _) | (with_reducible refine Chg.setNew ?_ (by omega) _) | (with_reducible refine Chg.setRow ?_ (by omega) _) | (with_reducible refine Chg.ext ?_ (by assumption)) | omega))).mono (by simp), (OwnNs.keep g1 (by repeat' (first | (with_reducible exact Chg.refl _ _) | (with_reducible refine Chg.drewN ?_ _) | (with_reducible refine Chg.drew ?_) | (with_reducible refine Chg.alloc ?_ _) | (with_reducible refine Chg.setLow ?_ (by omega) _) | (with_reducible refine Chg.setNew ?_ (by omega) _) | (with_reducible refine Chg.setRow ?_ (by omega) _) | (with_reducible refine Chg.ext ?_ (by assumption)) | omega))).mono (by simp), hd⟩
set_option maxHeartbeats 1600000 in
set_option maxRecDepth 100000 in
theorem newDisk_c (w : World) (n : Int) : Calls Try.prog 90 #[.int .i64 n] w (Ret w fun v w' => IsDisk w.heap.size w' v (newDisk n)) := by
  cases hb : inb n 1 40
  · go_enter Try.func90, Try.ntmps90
    go_wp2_with (first | (go_at_call 46; refine (between_c _ _ _ _).mono ?_; rintro e w1 ⟨rfl, rfl⟩))
    refine bodyPost_ret (by simp [results, Try.results90, go_sem, *]; try rfl) rfl ?_
    refine ⟨_, rfl, by repeat' (first | (with_reducible exact Ext.refl _) | (with_reducible assumption) | (with_reducible refine Ext.drewN ?_ _) | (with_reducible refine Ext.drew ?_) | (with_reducible refine Ext.alloc ?_ _) | (with_reducible refine Ext.setCell ?_ ?_ _) | (with_reducible refine Ext.setRow ?_ ?_ _) | (with_reducible exact Nat.le_refl _) | (with_reducible refine Ext.trans ?_ (by assumption)) | omega), _, _, [], [], rfl, ?_, ?_, by simp [feet, Value.ownBlock]⟩
    · rw [show newDisk n = ⟨[], []⟩ by simp [newDisk, hb]]; exact OwnNs.nil _ _ _ _ _
    · rw [show newDisk n = ⟨[], []⟩ by simp [newDisk, hb]]; exact OwnNs.nil _ _ _ _ _
  · obtain ⟨h1, h2⟩ := inb_true.1 hb
    obtain ⟨m, rfl⟩ := Int.eq_ofNat_of_zero_le (show 0 ≤ n by omega)
    obtain ⟨i0, hi, hz0, hz1, hz2⟩ := info_parts info_Int64S
    have hmk := fun W => run_make (P := Try.prog) W 22 85 i0 _ Try.underlying22 hi hz0 .i64 .i64 m m (by omega) (by omega) (by rw [hz2]; omega) (by omega)
    simp only [Int.toNat_natCast] at hmk
    go_enter Try.func90, Try.ntmps90
    go_wp2_with (first | (go_at_call 46; refine (between_c _ _ _ _).mono ?_; rintro e w1 ⟨rfl, rfl⟩))
    clear hmk
    refine bodyPost_ret (by simp [results, Try.results90, go_sem, *]; try rfl) rfl ?_
    refine ⟨_, rfl, by repeat' (first | (with_reducible exact Ext.refl _) | (with_reducible assumption) | (with_reducible refine Ext.drewN ?_ _) | (with_reducible refine Ext.drew ?_) | (with_reducible refine Ext.alloc ?_ _) | (with_reducible refine Ext.setCell ?_ ?_ _) | (with_reducible refine Ext.setRow ?_ ?_ _) | (with_reducible exact Nat.le_refl _) | (with_reducible refine Ext.trans ?_ (by assumption)) | omega), _, _, List.replicate m (.slice none 0 0), [], rfl, ?_, ?_, by simp [feet, Value.ownBlock]⟩
    · rw [show newDisk (m : Int) = ⟨List.replicate m [], []⟩ by simp [newDisk, hb]]
      exact (OwnNs.made1 w _ 85 2 m (by omega)).mono (by omega)
    · rw [show newDisk (m : Int) = ⟨List.replicate m [], []⟩ by simp [newDisk, hb]]; exact OwnNs.nil _ _ _ _ _
set_option maxHeartbeats 1600000 in
set_option maxRecDepth 100000 in
theorem newShelf_c (w : World) : Calls Try.prog 50 #[] w (Ret w fun v w' => IsDisk w.heap.size w' v (newDisk 8)) := by
  go_enter Try.func50, Try.ntmps50
  go_wp2_with fail
  refine (newDisk_c _ 8).mono ?_
  rintro e w1 ⟨_, rfl, hx1, t0, t1, ss0, ss1, rfl, g0, g1, hd⟩
  obtain ⟨a0, n0, k0, rfl⟩ := g0.nest.shape
  obtain ⟨a1, n1, k1, rfl⟩ := g1.nest.shape
  obtain ⟨hc1, hf1⟩ := hx1.cells
  have hz1 := hx1.size
  simp only [World.size_alloc] at hc1 hf1 hz1 g0 g1
  have hy : w.heap.size < w1.heap.size := by omega
  go_wp2
  refine bodyPost_ret (by simp [results, Try.results50, go_sem, *]; try rfl) rfl ?_
  clear hc1 hf1
  refine ⟨_, rfl, by repeat' (first | (with_reducible exact Ext.refl _) | (with_reducible assumption) | (with_reducible refine Ext.drewN ?_ _) | (with_reducible refine Ext.drew ?_) | (with_reducible refine Ext.alloc ?_ _) | (with_reducible refine Ext.setCell ?_ ?_ _) | (with_reducible refine Ext.setRow ?_ ?_ _) | (with_reducible exact Nat.le_refl _) | (with_reducible refine Ext.trans ?_ (by assumption)) | omega), _, _, ss0, ss1, rfl, (OwnNs.keep g0 (by repeat' (first | (with_reducible exact Chg.refl _ _) | (with_reducible refine Chg.drewN ?_ _) | (with_reducible refine Chg.drew ?_) | (with_reducible refine Chg.alloc ?_ _) | (with_reducible refine Chg.setLow ?_ (by omega) _) | (with_reducible refine Chg.setNew ?_ (by omega) _) | (with_reducible refine Chg.setRow ?_ (by omega) _) | (with_reducible refine Chg.ext ?_ (by assumption)) | omega))).mono (by simp), (OwnNs.keep g1 (by repeat' (first | (with_reducible exact Chg.refl _ _) | (with_reducible refine Chg.drewN ?_ _) | (with_reducible refine Chg.drew ?_) | (with_reducible refine Chg.alloc ?_ _) | (with_reducible refine Chg.setLow ?_ (by omega) _) | (with_reducible refine Chg.setNew ?_ (by omega) _) | (with_reducible refine Chg.setRow ?_ (by omega) _) | (with_reducible refine Chg.ext ?_ (by assumption)) | omega))).mono (by simp), hd⟩

end Go.Proofs.Ytghfklophkekjaa
