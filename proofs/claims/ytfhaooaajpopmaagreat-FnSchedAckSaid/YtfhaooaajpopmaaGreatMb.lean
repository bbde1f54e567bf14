/- Contracts and plain laws: HelpA V1 S1 HelpC HelpD HelpE HelpF HelpG S4. -/
import Derived.Test.YtfhaooaajpopmaaGreatRows
import Derived.Test.YtfhaooaajpopmaaGreatMa
set_option linter.unusedSimpArgs false
set_option linter.unusedVariables false
set_option maxHeartbeats 8000000
set_option maxRecDepth 100000
namespace Go.Proofs.YtfhaooaajpopmaaGreat
open Go.RowKit Go.G8
theorem info_Int64 : (Tryz.prog.info? 2).map (fun i => (i.zero, i.size, i.bytes)) = some (some (.int .i64 0), 1, 8) := by kernel_rfl
theorem info_Due : (Tryz.prog.info? 72).map (fun i => (i.zero, i.size, i.bytes)) = some (some (.agg #[.int .i64 0, .int .i64 0]), 2, 16) := by kernel_rfl
theorem l1In_c (w : World) (x lo hi : Int) : Calls Tryz.prog 21 #[.int .i64 x, .int .i64 lo, .int .i64 hi] w fun e w' => e = .returned (.bool (inb x lo hi)) ∧ w = w' := by
 by_cases h1 : lo ≤ x
 ·
  by_cases h2 : x ≤ hi
  ·
   rw [inb_of h1 h2]
   go_enter Tryz.func21, Tryz.ntmps21
   go_wp2
   go_ret
   exact ⟨rfl, rfl⟩
  rw [inb_hi oM]
  go_enter Tryz.func21, Tryz.ntmps21
  go_wp2
  go_ret
  exact ⟨rfl, rfl⟩
 rw [inb_lo oM]
 go_enter Tryz.func21, Tryz.ntmps21
 go_wp2
 go_ret
 exact ⟨rfl, rfl⟩
theorem between_c (w : World) (x lo hi : Int) : Calls Tryz.prog 25 #[.int .i64 x, .int .i64 lo, .int .i64 hi] w fun e w' => e = .returned (.bool (inb x lo hi)) ∧ w = w' := by
 by_cases h1 : lo ≤ x
 ·
  by_cases h2 : x ≤ hi
  ·
   rw [inb_of h1 h2]
   go_enter Tryz.func25, Tryz.ntmps25
   go_wp2
   go_ret
   exact ⟨rfl, rfl⟩
  rw [inb_hi oM]
  go_enter Tryz.func25, Tryz.ntmps25
  go_wp2
  go_ret
  exact ⟨rfl, rfl⟩
 rw [inb_lo oM]
 go_enter Tryz.func25, Tryz.ntmps25
 go_wp2
 go_ret
 exact ⟨rfl, rfl⟩
theorem sTimeOk_c (w : World) (x : Int) : Calls Tryz.prog 48 #[.int .i64 x] w fun e w' => e = .returned (.bool (timeOk x)) ∧ w = w' := by
 go_enter Tryz.func48, Tryz.ntmps48
 go_wp2_with (first | (go_at_call 21; refine (l1In_c _ _ _ _).mono ?_; rintro e w1 ⟨rfl, rfl⟩))
 go_ret
 exact ⟨rfl, rfl⟩
theorem l11DueLess_c (w : World) (a b : DDue) : Calls Tryz.prog 72 #[.agg #[.int .i64 a.Id, .int .i64 a.Due], .agg #[.int .i64 b.Id, .int .i64 b.Due]] w (RetV w (.bool (dueLess a b))) := by
 by_cases h1 : a.Due < b.Due
 ·
  rw [dueLess_lt h1]
  go_enter Tryz.func72, Tryz.ntmps72
  go_wp2
  go_ret
  exact ⟨rfl, by repeat (with_reducible (first | exact Ext.refl _ | refine Ext.alloc ?_ _))⟩
 by_cases h2 : a.Due = b.Due
 ·
  have h2' : (a.Due == b.Due) = true := by simpa using h2
  by_cases h3 : a.Id < b.Id
  ·
   rw [dueLess_id h2 h3]
   clear h2
   go_enter Tryz.func72, Tryz.ntmps72
   go_wp2
   go_ret
   exact ⟨rfl, by repeat (with_reducible (first | exact Ext.refl _ | refine Ext.alloc ?_ _))⟩
  rw [dueLess_ge h2 h3]
  clear h2
  go_enter Tryz.func72, Tryz.ntmps72
  go_wp2
  go_ret
  exact ⟨rfl, by repeat (with_reducible (first | exact Ext.refl _ | refine Ext.alloc ?_ _))⟩
 have h2' : (a.Due == b.Due) = false := by simpa using h2
 rw [dueLess_no h1 h2]
 clear h2
 go_enter Tryz.func72, Tryz.ntmps72
 go_wp2
 go_ret
 exact ⟨rfl, by repeat (with_reducible (first | exact Ext.refl _ | refine Ext.alloc ?_ _))⟩
theorem dueLess_c (w : World) (a b : DDue) : Calls Tryz.prog 63 #[.agg #[.int .i64 a.Id, .int .i64 a.Due], .agg #[.int .i64 b.Id, .int .i64 b.Due]] w (RetV w (.bool (dueLess a b))) := by
 by_cases h1 : a.Due < b.Due
 ·
  rw [dueLess_lt h1]
  go_enter Tryz.func63, Tryz.ntmps63
  go_wp2
  go_ret
  exact ⟨rfl, by repeat (with_reducible (first | exact Ext.refl _ | refine Ext.alloc ?_ _))⟩
 by_cases h2 : a.Due = b.Due
 ·
  have h2' : (a.Due == b.Due) = true := by simpa using h2
  by_cases h3 : a.Id < b.Id
  ·
   rw [dueLess_id h2 h3]
   clear h2
   go_enter Tryz.func63, Tryz.ntmps63
   go_wp2
   go_ret
   exact ⟨rfl, by repeat (with_reducible (first | exact Ext.refl _ | refine Ext.alloc ?_ _))⟩
  rw [dueLess_ge h2 h3]
  clear h2
  go_enter Tryz.func63, Tryz.ntmps63
  go_wp2
  go_ret
  exact ⟨rfl, by repeat (with_reducible (first | exact Ext.refl _ | refine Ext.alloc ?_ _))⟩
 have h2' : (a.Due == b.Due) = false := by simpa using h2
 rw [dueLess_no h1 h2]
 clear h2
 go_enter Tryz.func63, Tryz.ntmps63
 go_wp2
 go_ret
 exact ⟨rfl, by repeat (with_reducible (first | exact Ext.refl _ | refine Ext.alloc ?_ _))⟩
theorem l7Id_c (w : World) (x : Int) : Calls Tryz.prog 47 #[.int .i64 x] w fun e w' => e = .returned (.bool (idOk x)) ∧ w = w' := by
 go_enter Tryz.func47, Tryz.ntmps47
 go_wp2_with (first | (go_at_call 21; refine (l1In_c _ _ _ _).mono ?_; rintro e w1 ⟨rfl, rfl⟩))
 go_ret
 exact ⟨rfl, rfl⟩
theorem l16Time_c (w : World) (x : Int) : Calls Tryz.prog 66 #[.int .i64 x] w fun e w' => e = .returned (.bool (timeOk x)) ∧ w = w' := by
 go_enter Tryz.func66, Tryz.ntmps66
 go_wp2_with (first | (go_at_call 21; refine (l1In_c _ _ _ _).mono ?_; rintro e w1 ⟨rfl, rfl⟩))
 go_ret
 exact ⟨rfl, rfl⟩
theorem timeOk_c (w : World) (x : Int) : Calls Tryz.prog 53 #[.int .i64 x] w fun e w' => e = .returned (.bool (timeOk x)) ∧ w = w' := by
 go_enter Tryz.func53, Tryz.ntmps53
 go_wp2_with (first | (go_at_call 25; refine (between_c _ _ _ _).mono ?_; rintro e w1 ⟨rfl, rfl⟩))
 go_ret
 exact ⟨rfl, rfl⟩
theorem idOk_c (w : World) (x : Int) : Calls Tryz.prog 52 #[.int .i64 x] w fun e w' => e = .returned (.bool (idOk x)) ∧ w = w' := by
 go_enter Tryz.func52, Tryz.ntmps52
 go_wp2_with (first | (go_at_call 25; refine (between_c _ _ _ _).mono ?_; rintro e w1 ⟨rfl, rfl⟩))
 go_ret
 exact ⟨rfl, rfl⟩
end Go.Proofs.YtfhaooaajpopmaaGreat
namespace Go.G8
open Go.RowKit
def nestInt64S (l : List (List Int)) : List NRow := l.map (fun r => ([], r))
def nestWrite (l : List DWrite) : List NRow := l.map (fun d => ([d.At], d.Row))
theorem all_step {α : Type} {p : α → Bool} {l : List α} {k : Nat} {d : α} (h : l[k]? = some d) (h1 : (l.take k).all p = true) (h2 : p d = true) : (l.take (k + 1)).all p = true := by
 rw [List.take_add_one, h, List.all_append, h1]; simp [h2]
theorem Ints.one {w : World} {v : Value} {l : List Int} (h : Ints 1 w v l) : ∃ a cap, v = .slice a l.length cap ∧ l.length ≤ cap ∧ cap ≤ maxLen ∧
  ∀ i, i < l.length → ∃ x b off, l[i]? = some x ∧ a = some ⟨b, off, none⟩ ∧ b < w.heap.size ∧ w.cell? ⟨b, off + i, none⟩ = some (.int .i64 x) := by
 obtain ⟨a, len, cap, rfl, hl, h1, h2, h3⟩ := h.open_
 obtain rfl : l.length = len := by omega
 refine ⟨a, cap, rfl, h1, h2, fun i hi => ?_⟩
 obtain ⟨b, off, ha, hb, hc⟩ := h3 i hi
 obtain ⟨x, hx, hcell⟩ := hc 0 oM
 simp only [Nat.mul_one, Nat.add_zero] at hx hcell
 exact ⟨x, b, off, hx, ha, hb, hcell⟩
end Go.G8
namespace Go.Proofs.YtfhaooaajpopmaaGreat
open Go.RowKit Go.G8
theorem nest_at {l : List (List Int)} {k : Nat} {r : NRow} (h : (nestInt64S l)[k]? = some r) : l[k]? = some r.2 := by
 simp only [nestInt64S, List.getElem?_map, Option.map_eq_some_iff] at h
 obtain ⟨x, hx, rfl⟩ := h
 exact hx
theorem nestW_at {l : List DWrite} {k : Nat} {r : NRow} (h : (nestWrite l)[k]? = some r) : ∃ d, l[k]? = some d ∧ r = ([d.At], d.Row) := by
 simp only [nestWrite, List.getElem?_map, Option.map_eq_some_iff] at h
 obtain ⟨x, hx, rfl⟩ := h
 exact ⟨x, hx, rfl⟩
theorem Nest.rows {w : World} {v : Value} {l : List (List Int)} (h : Nest 0 w v (nestInt64S l)) : ∃ a cap, v = .slice a l.length cap ∧ l.length ≤ cap ∧ cap ≤ maxLen ∧
  ∀ i, i < l.length → ∃ r b off sa sn sc, l[i]? = some r ∧ a = some ⟨b, off, none⟩ ∧ b < w.heap.size ∧ w.cell? ⟨b, off + i, none⟩ = some (.slice sa sn sc) ∧ Ints 1 w (.slice sa sn sc) r := by
 obtain ⟨a, cap, rfl, h1, h2, h3⟩ := h.open_
 have hl : (nestInt64S l).length = l.length := by simp [nestInt64S]
 rw [hl] at h1 h3 ⊢
 refine ⟨a, cap, rfl, h1, h2, fun i hi => ?_⟩
 obtain ⟨r, b, off, s, hr, ha, hb, _, hc, hin⟩ := h3 i hi
 obtain ⟨sa, sn, sc, rfl⟩ := hin.shape
 exact ⟨r.2, b, off, sa, sn, sc, nest_at hr, ha, hb, by simpa using hc, hin⟩
theorem Nest.writes {w : World} {v : Value} {l : List DWrite} (h : Nest 1 w v (nestWrite l)) : ∃ a cap, v = .slice a l.length cap ∧ l.length ≤ cap ∧ cap ≤ maxLen ∧
  ∀ i, i < l.length → ∃ d b off sa sn sc, l[i]? = some d ∧ a = some ⟨b, off, none⟩ ∧ b < w.heap.size ∧ w.cell? ⟨b, off + i * 2, none⟩ = some (.int .i64 d.At) ∧ w.cell? ⟨b, off + i * 2 + 1, none⟩ = some (.slice sa sn sc) ∧ Ints 1 w (.slice sa sn sc) d.Row := by
 obtain ⟨a, cap, rfl, h1, h2, h3⟩ := h.open_
 have hl : (nestWrite l).length = l.length := by simp [nestWrite]
 rw [hl] at h1 h3 ⊢
 refine ⟨a, cap, rfl, h1, h2, fun i hi => ?_⟩
 obtain ⟨r, b, off, s, hr, ha, hb, hci, hc, hin⟩ := h3 i hi
 obtain ⟨d, hd, rfl⟩ := nestW_at hr
 obtain ⟨sa, sn, sc, rfl⟩ := hin.shape
 have h0 := hci 0 d.At rfl
 simp only [Nat.add_zero, Nat.reduceAdd] at h0 hc
 exact ⟨d, b, off, sa, sn, sc, hd, ha, hb, h0, hc, hin⟩
theorem info_Pair : (Tryz.prog.info? 122).map (fun i => (i.zero, i.size, i.bytes)) = some (some (.agg #[.int .i64 0, .int .i64 0]), 2, 16) := by kernel_rfl
theorem info_Job : (Tryz.prog.info? 86).map (fun i => (i.zero, i.size, i.bytes)) = some (some (.agg #[.int .i64 0, .int .i64 0, .int .i64 0, .int .i64 0, .int .i64 0]), 5, 40) := by kernel_rfl
end Go.Proofs.YtfhaooaajpopmaaGreat
namespace Go.G8
open Go.RowKit
theorem ncells_nil (n : Nat) : ncells (nestInt64S (List.replicate n [])) (List.replicate n (.slice none 0 0)) = List.replicate n (.slice none 0 0) := by
 induction n with
 | zero => rfl
 | succ n ih =>
  simp only [List.replicate_succ, nestInt64S, ncells, List.map_cons, List.zip_cons_cons, List.flatMap_cons] at ih ⊢
  rw [ih]
  simp [ncell]
theorem OwnNs.nil (B : Nat) (e e1 : TypeId) (n : Nat) (w : World) : OwnNs B e e1 n w (.slice none 0 0) [] [] :=
 ⟨fun r h => by simp at h, rfl, ⟨0, by simp [ncells], .inl ⟨rfl, rfl⟩⟩, ⟨fun i s r h => by simp at h, fun i j s t k _ h => by simp at h, fun i s k h => by simp at h⟩⟩
theorem OwnNs.made (w : World) (e e1 : TypeId) (n : Nat) (hn : n ≤ 40) : OwnNs w.heap.size e e1 0 (w.alloc (.cells (madeCells #[.slice none 0 0] n) e)) (.slice (some ⟨w.heap.size, 0, none⟩) n n) (nestInt64S (List.replicate n [])) (List.replicate n (.slice none 0 0)) := by
 have hrep : ∀ (i : Nat) (s : Value), (List.replicate n (Value.slice none 0 0))[i]? = some s → s = .slice none 0 0 := by
  intro i s h
  exact List.eq_of_mem_replicate (List.mem_of_getElem? h)
 have hft : ∀ k, k ∈ feet [Value.slice none 0 0] → False := by simp [feet, Value.ownBlock]
 refine ⟨fun r h => by simp [nestInt64S] at h; simp [h], by simp [nestInt64S], Own.of_blk (cap := n) (Blk.new _ _ _) (Nat.le_refl _) (by simp [size_madeCells]) (by rw [ncells_nil]; simp) (Nat.le_refl _) (by unfold maxLen; omega) ?_, ⟨fun i s r h1 h2 => ?_, fun i j s t k _ h1 h2 h3 => ?_, fun i s k h1 h3 => ?_⟩⟩
 ·
  rw [ncells_nil]
  intro j hj
  have hj' : j < n := by omega
  simp [madeCells, hj', Nat.mod_one]
 ·
  rw [hrep i s h1]
  have : r.2 = [] := by
   have := List.mem_of_getElem? h2
   simp [nestInt64S] at this
   simp [this]
  rw [this]
  exact OwnI.nil _ _ _ _
 ·
  rw [hrep i s h1] at h3; exact (hft k h3).elim
 rw [hrep i s h1] at h3; exact (hft k h3).elim
end Go.G8
