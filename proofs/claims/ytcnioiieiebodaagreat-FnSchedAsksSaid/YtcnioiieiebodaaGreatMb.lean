/- Contracts and plain laws: HelpA V1 S1 HelpC HelpD HelpE HelpF HelpG S4. -/
import Derived.Test.YtcnioiieiebodaaGreatRows
import Derived.Test.YtcnioiieiebodaaGreatMa
set_option linter.unusedSimpArgs false
set_option linter.unusedVariables false
-- HelpA: contracts of the statements' helper functions.
namespace Go.Proofs.YtcnioiieiebodaaGreat
open Go.RowKit Go.G8

theorem info_Int64 : (Tryz.prog.info? 2).map (fun i => (i.zero, i.size, i.bytes)) = some (some (.int .i64 0), 1, 8) := by kernel_rfl

theorem info_Due : (Tryz.prog.info? 100).map (fun i => (i.zero, i.size, i.bytes)) = some (some (.agg #[.int .i64 0, .int .i64 0]), 2, 16) := by kernel_rfl



















end Go.Proofs.YtcnioiieiebodaaGreat

namespace Go.Proofs.YtcnioiieiebodaaGreat
open Go.RowKit Go.G8

set_option maxHeartbeats 400000 in
theorem l1In_c (w : World) (x lo hi : Int) : Calls Tryz.prog 37 #[.int .i64 x, .int .i64 lo, .int .i64 hi] w fun e w' => e = .returned (.bool (inb x lo hi)) ∧ w = w' := by
 by_cases h1 : lo ≤ x
 ·
  by_cases h2 : x ≤ hi
  ·
   rw [inb_of h1 h2]
   go_enter Tryz.func37, Tryz.ntmps37
   go_wp2
   go_ret
   exact ⟨rfl, rfl⟩
  ·
   rw [inb_hi (by omega)]
   go_enter Tryz.func37, Tryz.ntmps37
   go_wp2
   go_ret
   exact ⟨rfl, rfl⟩
 ·
  rw [inb_lo (by omega)]
  go_enter Tryz.func37, Tryz.ntmps37
  go_wp2
  go_ret
  exact ⟨rfl, rfl⟩
set_option maxHeartbeats 400000 in
theorem between_c (w : World) (x lo hi : Int) : Calls Tryz.prog 41 #[.int .i64 x, .int .i64 lo, .int .i64 hi] w fun e w' => e = .returned (.bool (inb x lo hi)) ∧ w = w' := by
 by_cases h1 : lo ≤ x
 ·
  by_cases h2 : x ≤ hi
  ·
   rw [inb_of h1 h2]
   go_enter Tryz.func41, Tryz.ntmps41
   go_wp2
   go_ret
   exact ⟨rfl, rfl⟩
  ·
   rw [inb_hi (by omega)]
   go_enter Tryz.func41, Tryz.ntmps41
   go_wp2
   go_ret
   exact ⟨rfl, rfl⟩
 ·
  rw [inb_lo (by omega)]
  go_enter Tryz.func41, Tryz.ntmps41
  go_wp2
  go_ret
  exact ⟨rfl, rfl⟩
set_option maxHeartbeats 400000 in
theorem sTimeOk_c (w : World) (x : Int) : Calls Tryz.prog 90 #[.int .i64 x] w fun e w' => e = .returned (.bool (timeOk x)) ∧ w = w' := by
 go_enter Tryz.func90, Tryz.ntmps90
 go_wp2_with (first | (go_at_call 37; refine (l1In_c _ _ _ _).mono ?_; rintro e w1 ⟨rfl, rfl⟩))
 go_ret
 exact ⟨rfl, rfl⟩
set_option maxHeartbeats 400000 in
theorem l11DueLess_c (w : World) (a b : DDue) : Calls Tryz.prog 172 #[.agg #[.int .i64 a.Id, .int .i64 a.Due], .agg #[.int .i64 b.Id, .int .i64 b.Due]] w (RetV w (.bool (dueLess a b))) := by
 by_cases h1 : a.Due < b.Due
 ·
  rw [dueLess_lt h1]
  go_enter Tryz.func172, Tryz.ntmps172
  go_wp2
  go_ret
  exact ⟨rfl, by repeat (with_reducible (first | exact Ext.refl _ | refine Ext.alloc ?_ _))⟩
 ·
  by_cases h2 : a.Due = b.Due
  ·
   have h2' : (a.Due == b.Due) = true := by simpa using h2
   by_cases h3 : a.Id < b.Id
   ·
    rw [dueLess_id h2 h3]
    clear h2
    go_enter Tryz.func172, Tryz.ntmps172
    go_wp2
    go_ret
    exact ⟨rfl, by repeat (with_reducible (first | exact Ext.refl _ | refine Ext.alloc ?_ _))⟩
   ·
    rw [dueLess_ge h2 h3]
    clear h2
    go_enter Tryz.func172, Tryz.ntmps172
    go_wp2
    go_ret
    exact ⟨rfl, by repeat (with_reducible (first | exact Ext.refl _ | refine Ext.alloc ?_ _))⟩
  ·
   have h2' : (a.Due == b.Due) = false := by simpa using h2
   rw [dueLess_no h1 h2]
   clear h2
   go_enter Tryz.func172, Tryz.ntmps172
   go_wp2
   go_ret
   exact ⟨rfl, by repeat (with_reducible (first | exact Ext.refl _ | refine Ext.alloc ?_ _))⟩
set_option maxHeartbeats 400000 in
theorem dueLess_c (w : World) (a b : DDue) : Calls Tryz.prog 137 #[.agg #[.int .i64 a.Id, .int .i64 a.Due], .agg #[.int .i64 b.Id, .int .i64 b.Due]] w (RetV w (.bool (dueLess a b))) := by
 by_cases h1 : a.Due < b.Due
 ·
  rw [dueLess_lt h1]
  go_enter Tryz.func137, Tryz.ntmps137
  go_wp2
  go_ret
  exact ⟨rfl, by repeat (with_reducible (first | exact Ext.refl _ | refine Ext.alloc ?_ _))⟩
 ·
  by_cases h2 : a.Due = b.Due
  ·
   have h2' : (a.Due == b.Due) = true := by simpa using h2
   by_cases h3 : a.Id < b.Id
   ·
    rw [dueLess_id h2 h3]
    clear h2
    go_enter Tryz.func137, Tryz.ntmps137
    go_wp2
    go_ret
    exact ⟨rfl, by repeat (with_reducible (first | exact Ext.refl _ | refine Ext.alloc ?_ _))⟩
   ·
    rw [dueLess_ge h2 h3]
    clear h2
    go_enter Tryz.func137, Tryz.ntmps137
    go_wp2
    go_ret
    exact ⟨rfl, by repeat (with_reducible (first | exact Ext.refl _ | refine Ext.alloc ?_ _))⟩
  ·
   have h2' : (a.Due == b.Due) = false := by simpa using h2
   rw [dueLess_no h1 h2]
   clear h2
   go_enter Tryz.func137, Tryz.ntmps137
   go_wp2
   go_ret
   exact ⟨rfl, by repeat (with_reducible (first | exact Ext.refl _ | refine Ext.alloc ?_ _))⟩
set_option maxHeartbeats 400000 in
theorem l7Id_c (w : World) (x : Int) : Calls Tryz.prog 89 #[.int .i64 x] w fun e w' => e = .returned (.bool (idOk x)) ∧ w = w' := by
 go_enter Tryz.func89, Tryz.ntmps89
 go_wp2_with (first | (go_at_call 37; refine (l1In_c _ _ _ _).mono ?_; rintro e w1 ⟨rfl, rfl⟩))
 go_ret
 exact ⟨rfl, rfl⟩
set_option maxHeartbeats 400000 in
theorem l16Time_c (w : World) (x : Int) : Calls Tryz.prog 50 #[.int .i64 x] w fun e w' => e = .returned (.bool (timeOk x)) ∧ w = w' := by
 go_enter Tryz.func50, Tryz.ntmps50
 go_wp2_with (first | (go_at_call 37; refine (l1In_c _ _ _ _).mono ?_; rintro e w1 ⟨rfl, rfl⟩))
 go_ret
 exact ⟨rfl, rfl⟩
set_option maxHeartbeats 400000 in
theorem timeOk_c (w : World) (x : Int) : Calls Tryz.prog 95 #[.int .i64 x] w fun e w' => e = .returned (.bool (timeOk x)) ∧ w = w' := by
 go_enter Tryz.func95, Tryz.ntmps95
 go_wp2_with (first | (go_at_call 41; refine (between_c _ _ _ _).mono ?_; rintro e w1 ⟨rfl, rfl⟩))
 go_ret
 exact ⟨rfl, rfl⟩
set_option maxHeartbeats 400000 in
theorem idOk_c (w : World) (x : Int) : Calls Tryz.prog 94 #[.int .i64 x] w fun e w' => e = .returned (.bool (idOk x)) ∧ w = w' := by
 go_enter Tryz.func94, Tryz.ntmps94
 go_wp2_with (first | (go_at_call 41; refine (between_c _ _ _ _).mono ?_; rintro e w1 ⟨rfl, rfl⟩))
 go_ret
 exact ⟨rfl, rfl⟩
end Go.Proofs.YtcnioiieiebodaaGreat

-- Rows and disks: right or not.
namespace Go.Proofs.YtcnioiieiebodaaGreat
open Go.RowKit Go.G8

end Go.Proofs.YtcnioiieiebodaaGreat
namespace Go.G8
open Go.RowKit
def nestInt64S (l : List (List Int)) : List NRow := l.map (fun r => ([], r))
def nestWrite (l : List DWrite) : List NRow := l.map (fun d => ([d.At], d.Row))
theorem all_step {α : Type} {p : α → Bool} {l : List α} {k : Nat} {d : α} (h : l[k]? = some d) (h1 : (l.take k).all p = true) (h2 : p d = true) : (l.take (k + 1)).all p = true := by
 rw [List.take_add_one, h, List.all_append, h1]; simp [h2]
/-- A slice of integers, opened for a walk. -/
theorem Ints.one {w : World} {v : Value} {l : List Int} (h : Ints 1 w v l) : ∃ a cap, v = .slice a l.length cap ∧ l.length ≤ cap ∧ cap ≤ maxLen ∧
  ∀ i, i < l.length → ∃ x b off, l[i]? = some x ∧ a = some ⟨b, off, none⟩ ∧ b < w.heap.size ∧ w.cell? ⟨b, off + i, none⟩ = some (.int .i64 x) := by
 obtain ⟨a, len, cap, rfl, hl, h1, h2, h3⟩ := h.open_
 obtain rfl : l.length = len := by omega
 refine ⟨a, cap, rfl, h1, h2, fun i hi => ?_⟩
 obtain ⟨b, off, ha, hb, hc⟩ := h3 i hi
 obtain ⟨x, hx, hcell⟩ := hc 0 (by omega)
 simp only [Nat.mul_one, Nat.add_zero] at hx hcell
 exact ⟨x, b, off, hx, ha, hb, hcell⟩
end Go.G8
namespace Go.Proofs.YtcnioiieiebodaaGreat
open Go.RowKit Go.G8
theorem nest_at {l : List (List Int)} {k : Nat} {r : NRow} (h : (nestInt64S l)[k]? = some r) : l[k]? = some r.2 := by
 simp only [nestInt64S, List.getElem?_map, Option.map_eq_some_iff] at h
 obtain ⟨x, hx, rfl⟩ := h
 exact hx
theorem nestW_at {l : List DWrite} {k : Nat} {r : NRow} (h : (nestWrite l)[k]? = some r) : ∃ d, l[k]? = some d ∧ r = ([d.At], d.Row) := by
 simp only [nestWrite, List.getElem?_map, Option.map_eq_some_iff] at h
 obtain ⟨x, hx, rfl⟩ := h
 exact ⟨x, hx, rfl⟩
/-- The rows of a disk, opened for a walk. -/
theorem Nest.rows {w : World} {v : Value} {l : List (List Int)} (h : Nest 0 w v (nestInt64S l)) : ∃ a cap, v = .slice a l.length cap ∧ l.length ≤ cap ∧ cap ≤ maxLen ∧
  ∀ i, i < l.length → ∃ r b off sa sn sc, l[i]? = some r ∧ a = some ⟨b, off, none⟩ ∧ b < w.heap.size ∧ w.cell? ⟨b, off + i, none⟩ = some (.slice sa sn sc) ∧ Ints 1 w (.slice sa sn sc) r := by
 obtain ⟨a, cap, rfl, h1, h2, h3⟩ := h.open_
 have hl : (nestInt64S l).length = l.length := by simp [nestInt64S]
 rw [hl] at h1 h3 ⊢
 refine ⟨a, cap, rfl, h1, h2, fun i hi => ?_⟩
 obtain ⟨r, b, off, s, hr, ha, hb, _, hc, hin⟩ := h3 i hi
 obtain ⟨sa, sn, sc, rfl⟩ := hin.shape
 exact ⟨r.2, b, off, sa, sn, sc, nest_at hr, ha, hb, by simpa using hc, hin⟩
theorem Nest.writes {w : World} {v : Value} {l : List DWrite} (h : Nest 1 w v (nestWrite l)) : ∃ a cap, v = .slice a l.length cap ∧ l.length ≤ cap ∧ cap ≤ maxLen ∧
  ∀ i, i < l.length → ∃ d b off sa sn sc, l[i]? = some d ∧ a = some ⟨b, off, none⟩ ∧ b < w.heap.size ∧ w.cell? ⟨b, off + i * 2, none⟩ = some (.int .i64 d.At) ∧ w.cell? ⟨b, off + i * 2 + 1, none⟩ = some (.slice sa sn sc) ∧ Ints 1 w (.slice sa sn sc) d.Row := by
 obtain ⟨a, cap, rfl, h1, h2, h3⟩ := h.open_
 have hl : (nestWrite l).length = l.length := by simp [nestWrite]
 rw [hl] at h1 h3 ⊢
 refine ⟨a, cap, rfl, h1, h2, fun i hi => ?_⟩
 obtain ⟨r, b, off, s, hr, ha, hb, hci, hc, hin⟩ := h3 i hi
 obtain ⟨d, hd, rfl⟩ := nestW_at hr
 obtain ⟨sa, sn, sc, rfl⟩ := hin.shape
 have h0 := hci 0 d.At rfl
 simp only [Nat.add_zero, Nat.reduceAdd] at h0 hc
 exact ⟨d, b, off, sa, sn, sc, hd, ha, hb, h0, hc, hin⟩

end Go.Proofs.YtcnioiieiebodaaGreat

-- HelpC: contracts of the statements' helper functions on rows.
namespace Go.Proofs.YtcnioiieiebodaaGreat
open Go.RowKit Go.G8

theorem info_Msg : (Tryz.prog.info? 96).map (fun i => (i.zero, i.size, i.bytes)) = some (some (.agg #[.int .i64 0, .int .i64 0, .slice none 0 0]), 3, 40) := by kernel_rfl







end Go.Proofs.YtcnioiieiebodaaGreat

-- HelpD: contracts of the statements' helper functions on disks.
namespace Go.Proofs.YtcnioiieiebodaaGreat
open Go.RowKit Go.G8




end Go.Proofs.YtcnioiieiebodaaGreat

-- HelpE: contracts of the statements' helper functions on disks: marks.
namespace Go.Proofs.YtcnioiieiebodaaGreat
open Go.RowKit Go.G8


end Go.Proofs.YtcnioiieiebodaaGreat

-- HelpF: contracts of the statements' helper functions on states and stores.
namespace Go.Proofs.YtcnioiieiebodaaGreat
open Go.RowKit Go.G8

theorem info_Pair : (Tryz.prog.info? 157).map (fun i => (i.zero, i.size, i.bytes)) = some (some (.agg #[.int .i64 0, .int .i64 0]), 2, 16) := by kernel_rfl





theorem info_Job : (Tryz.prog.info? 142).map (fun i => (i.zero, i.size, i.bytes)) = some (some (.agg #[.int .i64 0, .int .i64 0, .int .i64 0, .int .i64 0, .int .i64 0]), 5, 40) := by kernel_rfl








end Go.Proofs.YtcnioiieiebodaaGreat

-- HelpG: contracts of the statements' helper functions on snapshots.
set_option linter.unusedSimpArgs false
set_option linter.unusedVariables false
namespace Go.Proofs.YtcnioiieiebodaaGreat
open Go.RowKit Go.G8













end Go.Proofs.YtcnioiieiebodaaGreat

-- New disks.
namespace Go.Proofs.YtcnioiieiebodaaGreat
open Go.RowKit Go.G8

end Go.Proofs.YtcnioiieiebodaaGreat
namespace Go.G8
open Go.RowKit
theorem ncells_nil (n : Nat) : ncells (nestInt64S (List.replicate n [])) (List.replicate n (.slice none 0 0)) = List.replicate n (.slice none 0 0) := by
 induction n with
 | zero => rfl
 | succ n ih =>
  simp only [List.replicate_succ, nestInt64S, ncells, List.map_cons, List.zip_cons_cons, List.flatMap_cons] at ih ⊢
  rw [ih]
  simp [ncell]
theorem OwnNs.nil (B : Nat) (e e1 : TypeId) (n : Nat) (w : World) : OwnNs B e e1 n w (.slice none 0 0) [] [] :=
 ⟨fun r h => by simp at h, rfl, ⟨0, by simp [ncells], .inl ⟨rfl, rfl⟩⟩, ⟨fun i s r h => by simp at h, fun i j s t k _ h => by simp at h, fun i s k h => by simp at h⟩⟩
/-- What 'make([][]int64, n)' lays. -/
theorem OwnNs.made (w : World) (e e1 : TypeId) (n : Nat) (hn : n ≤ 40) : OwnNs w.heap.size e e1 0 (w.alloc (.cells (madeCells #[.slice none 0 0] n) e)) (.slice (some ⟨w.heap.size, 0, none⟩) n n) (nestInt64S (List.replicate n [])) (List.replicate n (.slice none 0 0)) := by
 have hrep : ∀ (i : Nat) (s : Value), (List.replicate n (Value.slice none 0 0))[i]? = some s → s = .slice none 0 0 := by
  intro i s h
  exact List.eq_of_mem_replicate (List.mem_of_getElem? h)
 have hft : ∀ k, k ∈ feet [Value.slice none 0 0] → False := by simp [feet, Value.ownBlock]
 refine ⟨fun r h => by simp [nestInt64S] at h; simp [h], by simp [nestInt64S], Own.of_blk (cap := n) (Blk.new _ _ _) (Nat.le_refl _) (by simp [size_madeCells]) (by rw [ncells_nil]; simp) (Nat.le_refl _) (by unfold maxLen; omega) ?_, ⟨fun i s r h1 h2 => ?_, fun i j s t k _ h1 h2 h3 => ?_, fun i s k h1 h3 => ?_⟩⟩
 ·
  rw [ncells_nil]
  intro j hj
  have hj' : j < n := by omega
  simp [madeCells, hj', Nat.mod_one]
 ·
  rw [hrep i s h1]
  have : r.2 = [] := by
   have := List.mem_of_getElem? h2
   simp [nestInt64S] at this
   simp [this]
  rw [this]
  exact OwnI.nil _ _ _ _
 ·
  rw [hrep i s h1] at h3; exact (hft k h3).elim
 ·
  rw [hrep i s h1] at h3; exact (hft k h3).elim
end Go.G8
namespace Go.Proofs.YtcnioiieiebodaaGreat
open Go.RowKit Go.G8
end Go.Proofs.YtcnioiieiebodaaGreat
