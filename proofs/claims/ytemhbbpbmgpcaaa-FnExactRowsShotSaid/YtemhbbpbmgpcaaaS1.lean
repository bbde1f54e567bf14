/- Rows and disks: right or not. -/
import Derived.Test.YtemhbbpbmgpcaaaV1
import Derived.Test.YtemhbbpbmgpcaaaNest
namespace Go.Proofs.Ytemhbbpbmgpcaaa
open Go.RowKit Go.G8

end Go.Proofs.Ytemhbbpbmgpcaaa
namespace Go.G8
open Go.RowKit
def nestInt64S (l : List (List Int)) : List NRow := l.map (fun r => ([], r))
def nestWrite (l : List DWrite) : List NRow := l.map (fun d => ([d.At], d.Row))
def nestMsg (l : List DMsg) : List NRow := l.map (fun d => ([d.From, d.To], d.Row))
def rowOk (r : List Int) : Bool := decide (r.length ≤ 48) && r.all (fun x => inb x 0 1000000000)
def writeOk (n : Nat) (w : DWrite) : Bool := inb w.At 0 (n - 1) && rowOk w.Row
def diskOk (d : DDisk) : Bool := decide (1 ≤ d.Kept.length ∧ d.Kept.length ≤ 40 ∧ d.Wait.length ≤ 60) && (d.Kept.all rowOk && d.Wait.all (writeOk d.Kept.length))
def shelfOk (d : DDisk) : Bool := diskOk d && decide (d.Kept.length = 8)
theorem all_step {α : Type} {p : α → Bool} {l : List α} {k : Nat} {d : α} (h : l[k]? = some d) (h1 : (l.take k).all p = true) (h2 : p d = true) : (l.take (k + 1)).all p = true := by
  rw [List.take_add_one, h, List.all_append, h1]; simp [h2]
theorem all_no {α : Type} {p : α → Bool} {l : List α} {k : Nat} {d : α} (h : l[k]? = some d) (h2 : p d = false) : l.all p = false := by
  rw [Bool.eq_false_iff]; intro hh
  rw [List.all_eq_true] at hh
  have := hh d (List.mem_of_getElem? h)
  rw [h2] at this; cases this
/-- A slice of integers, opened for a walk. -/
theorem Ints.one {w : World} {v : Value} {l : List Int} (h : Ints 1 w v l) : ∃ a cap, v = .slice a l.length cap ∧ l.length ≤ cap ∧ cap ≤ maxLen ∧
    ∀ i, i < l.length → ∃ x b off, l[i]? = some x ∧ a = some ⟨b, off, none⟩ ∧ b < w.heap.size ∧ w.cell? ⟨b, off + i, none⟩ = some (.int .i64 x) := by
  obtain ⟨a, len, cap, rfl, hl, h1, h2, h3⟩ := h.open_
  obtain rfl : l.length = len := by omega
  refine ⟨a, cap, rfl, h1, h2, fun i hi => ?_⟩
  obtain ⟨b, off, ha, hb, hc⟩ := h3 i hi
  obtain ⟨x, hx, hcell⟩ := hc 0 (by omega)
  simp only [Nat.mul_one, Nat.add_zero] at hx hcell
  exact ⟨x, b, off, hx, ha, hb, hcell⟩
end Go.G8
namespace Go.Proofs.Ytemhbbpbmgpcaaa
open Go.RowKit Go.G8
set_option maxHeartbeats 1600000 in
set_option maxRecDepth 100000 in
theorem sRowOk_c (w : World) (s0_0 : Value) (l0_0 : List Int) (h0_0 : Ints 1 w s0_0 l0_0) : Calls Try.prog 49 #[s0_0] w (RetV w (.bool (rowOk l0_0))) := by
  obtain ⟨a, cap, rfl, hcap, hm, ha⟩ := h0_0.one
  have HA := Lib.hid ha
  clear ha
  unfold maxLen at hm
  by_cases h48 : l0_0.length ≤ 48
  · go_enter Try.func49, Try.ntmps49
    go_wp2
    go_loopw [3] (fun i wr => ∃ k : Nat, k ≤ l0_0.length ∧ i = .int .i64 k ∧ Ext w wr ∧ Hid ((l0_0.take k).all (fun x => inb x 0 1000000000) = true)) (fun i _ => l0_0.length - (intOf i).toNat)
    case atStart => exact ⟨0, Nat.zero_le _, rfl, Ext.refl _, Lib.hid (by simp)⟩
    case round =>
      obtain ⟨k, hk, rfl, he, hp⟩ := hrel
      by_cases hlt : k < l0_0.length
      · obtain ⟨x, b1, o1, hx, rfl, _, c⟩ := HA.out k hlt
        have d0 := he.cell c
        have HX := Lib.hid hx
        clear hx c
        cases hb : inb x 0 1000000000
        · go_wp2_with (first | (go_at_call 44; refine (l1In_c _ _ _ _).mono ?_; rintro e w1 ⟨rfl, rfl⟩))
          go_ret
          exact ⟨by rw [rowOk, all_no HX.out (p := fun x => inb x 0 1000000000) hb]; simp, he⟩
        · go_wp2_with (first | (go_at_call 44; refine (l1In_c _ _ _ _).mono ?_; rintro e w1 ⟨rfl, rfl⟩))
          go_roundw
          case rel => exact ⟨k + 1, by omega, by go_num, he, Lib.hid (all_step HX.out hp.out hb)⟩
          case measure => simp [intOf]; omega
      · obtain rfl : k = l0_0.length := by omega
        go_wp2
        go_ret
        have hp' := hp.out
        rw [List.take_length] at hp'
        exact ⟨by rw [rowOk, hp']; simp [h48], he⟩
  · go_enter Try.func49, Try.ntmps49
    go_wp2
    go_ret
    exact ⟨by rw [rowOk]; simp [h48], Ext.refl _⟩
set_option maxHeartbeats 1600000 in
set_option maxRecDepth 100000 in
theorem rowOk_c (w : World) (s0_0 : Value) (l0_0 : List Int) (h0_0 : Ints 1 w s0_0 l0_0) : Calls Try.prog 60 #[s0_0] w (RetV w (.bool (rowOk l0_0))) := by
  obtain ⟨a, cap, rfl, hcap, hm, ha⟩ := h0_0.one
  have HA := Lib.hid ha
  clear ha
  unfold maxLen at hm
  by_cases h48 : l0_0.length ≤ 48
  · go_enter Try.func60, Try.ntmps60
    go_wp2
    go_loopw [10] (fun i wr => ∃ k : Nat, k ≤ l0_0.length ∧ i = .int .i64 k ∧ Ext w wr ∧ Hid ((l0_0.take k).all (fun x => inb x 0 1000000000) = true)) (fun i _ => l0_0.length - (intOf i).toNat)
    case atStart => exact ⟨0, Nat.zero_le _, rfl, Ext.refl _, Lib.hid (by simp)⟩
    case round =>
      obtain ⟨k, hk, rfl, he, hp⟩ := hrel
      by_cases hlt : k < l0_0.length
      · obtain ⟨x, b1, o1, hx, rfl, _, c⟩ := HA.out k hlt
        have d0 := he.cell c
        have HX := Lib.hid hx
        clear hx c
        cases hb : inb x 0 1000000000
        · go_wp2_with (first | (go_at_call 55; refine (between_c _ _ _ _).mono ?_; rintro e w1 ⟨rfl, rfl⟩))
          go_ret
          exact ⟨by rw [rowOk, all_no HX.out (p := fun x => inb x 0 1000000000) hb]; simp, he⟩
        · go_wp2_with (first | (go_at_call 55; refine (between_c _ _ _ _).mono ?_; rintro e w1 ⟨rfl, rfl⟩))
          go_roundw
          case rel => exact ⟨k + 1, by omega, by go_num, he, Lib.hid (all_step HX.out hp.out hb)⟩
          case measure => simp [intOf]; omega
      · obtain rfl : k = l0_0.length := by omega
        go_wp2
        go_ret
        have hp' := hp.out
        rw [List.take_length] at hp'
        exact ⟨by rw [rowOk, hp']; simp [h48], he⟩
  · go_enter Try.func60, Try.ntmps60
    go_wp2
    go_ret
    exact ⟨by rw [rowOk]; simp [h48], Ext.refl _⟩

theorem nest_at {l : List (List Int)} {k : Nat} {r : NRow} (h : (nestInt64S l)[k]? = some r) : l[k]? = some r.2 := by
  simp only [nestInt64S, List.getElem?_map, Option.map_eq_some_iff] at h
  obtain ⟨x, hx, rfl⟩ := h
  exact hx
theorem nestW_at {l : List DWrite} {k : Nat} {r : NRow} (h : (nestWrite l)[k]? = some r) : ∃ d, l[k]? = some d ∧ r = ([d.At], d.Row) := by
  simp only [nestWrite, List.getElem?_map, Option.map_eq_some_iff] at h
  obtain ⟨x, hx, rfl⟩ := h
  exact ⟨x, hx, rfl⟩
/-- The rows of a disk, opened for a walk. -/
theorem Nest.rows {w : World} {v : Value} {l : List (List Int)} (h : Nest 0 w v (nestInt64S l)) : ∃ a cap, v = .slice a l.length cap ∧ l.length ≤ cap ∧ cap ≤ maxLen ∧
    ∀ i, i < l.length → ∃ r b off sa sn sc, l[i]? = some r ∧ a = some ⟨b, off, none⟩ ∧ b < w.heap.size ∧ w.cell? ⟨b, off + i, none⟩ = some (.slice sa sn sc) ∧ Ints 1 w (.slice sa sn sc) r := by
  obtain ⟨a, cap, rfl, h1, h2, h3⟩ := h.open_
  have hl : (nestInt64S l).length = l.length := by simp [nestInt64S]
  rw [hl] at h1 h3 ⊢
  refine ⟨a, cap, rfl, h1, h2, fun i hi => ?_⟩
  obtain ⟨r, b, off, s, hr, ha, hb, _, hc, hin⟩ := h3 i hi
  obtain ⟨sa, sn, sc, rfl⟩ := hin.shape
  exact ⟨r.2, b, off, sa, sn, sc, nest_at hr, ha, hb, by simpa using hc, hin⟩
theorem Nest.writes {w : World} {v : Value} {l : List DWrite} (h : Nest 1 w v (nestWrite l)) : ∃ a cap, v = .slice a l.length cap ∧ l.length ≤ cap ∧ cap ≤ maxLen ∧
    ∀ i, i < l.length → ∃ d b off sa sn sc, l[i]? = some d ∧ a = some ⟨b, off, none⟩ ∧ b < w.heap.size ∧ w.cell? ⟨b, off + i * 2, none⟩ = some (.int .i64 d.At) ∧ w.cell? ⟨b, off + i * 2 + 1, none⟩ = some (.slice sa sn sc) ∧ Ints 1 w (.slice sa sn sc) d.Row := by
  obtain ⟨a, cap, rfl, h1, h2, h3⟩ := h.open_
  have hl : (nestWrite l).length = l.length := by simp [nestWrite]
  rw [hl] at h1 h3 ⊢
  refine ⟨a, cap, rfl, h1, h2, fun i hi => ?_⟩
  obtain ⟨r, b, off, s, hr, ha, hb, hci, hc, hin⟩ := h3 i hi
  obtain ⟨d, hd, rfl⟩ := nestW_at hr
  obtain ⟨sa, sn, sc, rfl⟩ := hin.shape
  have h0 := hci 0 d.At rfl
  simp only [Nat.add_zero, Nat.reduceAdd] at h0 hc
  exact ⟨d, b, off, sa, sn, sc, hd, ha, hb, h0, hc, hin⟩

end Go.Proofs.Ytemhbbpbmgpcaaa
