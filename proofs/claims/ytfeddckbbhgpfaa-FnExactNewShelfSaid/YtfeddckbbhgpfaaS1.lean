/- Rows and disks: right or not. -/
import Derived.Test.YtfeddckbbhgpfaaV1
import Derived.Test.YtfeddckbbhgpfaaNest
namespace Go.Proofs.Ytfeddckbbhgpfaa
open Go.RowKit Go.G8

end Go.Proofs.Ytfeddckbbhgpfaa
namespace Go.G8
open Go.RowKit
def nestInt64S (l : List (List Int)) : List NRow := l.map (fun r => ([], r))
def nestWrite (l : List DWrite) : List NRow := l.map (fun d => ([d.At], d.Row))
def nestMsg (l : List DMsg) : List NRow := l.map (fun d => ([d.From, d.To], d.Row))
def rowOk (r : List Int) : Bool := decide (r.length ≤ 48) && r.all (fun x => inb x 0 1000000000)
def writeOk (n : Nat) (w : DWrite) : Bool := inb w.At 0 (n - 1) && rowOk w.Row
def diskOk (d : DDisk) : Bool := decide (1 ≤ d.Kept.length ∧ d.Kept.length ≤ 40 ∧ d.Wait.length ≤ 60) && (d.Kept.all rowOk && d.Wait.all (writeOk d.Kept.length))
def shelfOk (d : DDisk) : Bool := diskOk d && decide (d.Kept.length = 8)
theorem all_step {α : Type} {p : α → Bool} {l : List α} {k : Nat} {d : α} (h : l[k]? = some d) (h1 : (l.take k).all p = true) (h2 : p d = true) : (l.take (k + 1)).all p = true := by
  rw [List.take_add_one, h, List.all_append, h1]; simp [h2]
theorem all_no {α : Type} {p : α → Bool} {l : List α} {k : Nat} {d : α} (h : l[k]? = some d) (h2 : p d = false) : l.all p = false := by
  rw [Bool.eq_false_iff]; intro hh
  rw [List.all_eq_true] at hh
  have := hh d (List.mem_of_getElem? h)
  rw [h2] at this; cases this
/-- A slice of integers, opened for a walk. -/
theorem Ints.one {w : World} {v : Value} {l : List Int} (h : Ints 1 w v l) : ∃ a cap, v = .slice a l.length cap ∧ l.length ≤ cap ∧ cap ≤ maxLen ∧
    ∀ i, i < l.length → ∃ x b off, l[i]? = some x ∧ a = some ⟨b, off, none⟩ ∧ b < w.heap.size ∧ w.cell? ⟨b, off + i, none⟩ = some (.int .i64 x) := by
  obtain ⟨a, len, cap, rfl, hl, h1, h2, h3⟩ := h.open_
  obtain rfl : l.length = len := by omega
  refine ⟨a, cap, rfl, h1, h2, fun i hi => ?_⟩
  obtain ⟨b, off, ha, hb, hc⟩ := h3 i hi
  obtain ⟨x, hx, hcell⟩ := hc 0 (by omega)
  simp only [Nat.mul_one, Nat.add_zero] at hx hcell
  exact ⟨x, b, off, hx, ha, hb, hcell⟩
end Go.G8
namespace Go.Proofs.Ytfeddckbbhgpfaa
open Go.RowKit Go.G8

theorem nest_at {l : List (List Int)} {k : Nat} {r : NRow} (h : (nestInt64S l)[k]? = some r) : l[k]? = some r.2 := by
  simp only [nestInt64S, List.getElem?_map, Option.map_eq_some_iff] at h
  obtain ⟨x, hx, rfl⟩ := h
  exact hx
theorem nestW_at {l : List DWrite} {k : Nat} {r : NRow} (h : (nestWrite l)[k]? = some r) : ∃ d, l[k]? = some d ∧ r = ([d.At], d.Row) := by
  simp only [nestWrite, List.getElem?_map, Option.map_eq_some_iff] at h
  obtain ⟨x, hx, rfl⟩ := h
  exact ⟨x, hx, rfl⟩
/-- The rows of a disk, opened for a walk. -/
theorem Nest.rows {w : World} {v : Value} {l : List (List Int)} (h : Nest 0 w v (nestInt64S l)) : ∃ a cap, v = .slice a l.length cap ∧ l.length ≤ cap ∧ cap ≤ maxLen ∧
    ∀ i, i < l.length → ∃ r b off sa sn sc, l[i]? = some r ∧ a = some ⟨b, off, none⟩ ∧ b < w.heap.size ∧ w.cell? ⟨b, off + i, none⟩ = some (.slice sa sn sc) ∧ Ints 1 w (.slice sa sn sc) r := by
  obtain ⟨a, cap, rfl, h1, h2, h3⟩ := h.open_
  have hl : (nestInt64S l).length = l.length := by simp [nestInt64S]
  rw [hl] at h1 h3 ⊢
  refine ⟨a, cap, rfl, h1, h2, fun i hi => ?_⟩
  obtain ⟨r, b, off, s, hr, ha, hb, _, hc, hin⟩ := h3 i hi
  obtain ⟨sa, sn, sc, rfl⟩ := hin.shape
  exact ⟨r.2, b, off, sa, sn, sc, nest_at hr, ha, hb, by simpa using hc, hin⟩
theorem Nest.writes {w : World} {v : Value} {l : List DWrite} (h : Nest 1 w v (nestWrite l)) : ∃ a cap, v = .slice a l.length cap ∧ l.length ≤ cap ∧ cap ≤ maxLen ∧
    ∀ i, i < l.length → ∃ d b off sa sn sc, l[i]? = some d ∧ a = some ⟨b, off, none⟩ ∧ b < w.heap.size ∧ w.cell? ⟨b, off + i * 2, none⟩ = some (.int .i64 d.At) ∧ w.cell? ⟨b, off + i * 2 + 1, none⟩ = some (.slice sa sn sc) ∧ Ints 1 w (.slice sa sn sc) d.Row := by
  obtain ⟨a, cap, rfl, h1, h2, h3⟩ := h.open_
  have hl : (nestWrite l).length = l.length := by simp [nestWrite]
  rw [hl] at h1 h3 ⊢
  refine ⟨a, cap, rfl, h1, h2, fun i hi => ?_⟩
  obtain ⟨r, b, off, s, hr, ha, hb, hci, hc, hin⟩ := h3 i hi
  obtain ⟨d, hd, rfl⟩ := nestW_at hr
  obtain ⟨sa, sn, sc, rfl⟩ := hin.shape
  have h0 := hci 0 d.At rfl
  simp only [Nat.add_zero, Nat.reduceAdd] at h0 hc
  exact ⟨d, b, off, sa, sn, sc, hd, ha, hb, h0, hc, hin⟩

end Go.Proofs.Ytfeddckbbhgpfaa
