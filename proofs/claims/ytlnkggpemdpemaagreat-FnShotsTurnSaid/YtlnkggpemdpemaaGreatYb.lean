/- Contracts and plain laws: HelpA V1 S1 HelpC HelpD HelpE HelpF HelpG S4. -/
import Derived.Test.YtlnkggpemdpemaaGreatRows
import Derived.Test.YtlnkggpemdpemaaGreatYa
set_option linter.unusedSimpArgs false
set_option linter.unusedVariables false
set_option maxHeartbeats 8000000
set_option maxRecDepth 100000
namespace Go.Proofs.YtlnkggpemdpemaaGreat
open Go.RowKit Go.G8
theorem info_Int64 : (Tryz.prog.info? 2).map (fun i => (i.zero, i.size, i.bytes)) = some (some (.int .i64 0), 1, 8) := by kernel_rfl
theorem info_Due : (Tryz.prog.info? 86).map (fun i => (i.zero, i.size, i.bytes)) = some (some (.agg #[.int .i64 0, .int .i64 0]), 2, 16) := by kernel_rfl
theorem l1In_c (w : World) (x lo hi : Int) : Calls Tryz.prog 32 #[.int .i64 x, .int .i64 lo, .int .i64 hi] w fun e w' => e = .returned (.bool (inb x lo hi)) ∧ w = w' := by
 by_cases h1 : lo ≤ x
 ·
  by_cases h2 : x ≤ hi
  ·
   rw [inb_of h1 h2]
   go_enter Tryz.func32, Tryz.ntmps32
   go_wp2
   go_ret
   exact ⟨rfl, rfl⟩
  rw [inb_hi oM]
  go_enter Tryz.func32, Tryz.ntmps32
  go_wp2
  go_ret
  exact ⟨rfl, rfl⟩
 rw [inb_lo oM]
 go_enter Tryz.func32, Tryz.ntmps32
 go_wp2
 go_ret
 exact ⟨rfl, rfl⟩
theorem between_c (w : World) (x lo hi : Int) : Calls Tryz.prog 62 #[.int .i64 x, .int .i64 lo, .int .i64 hi] w fun e w' => e = .returned (.bool (inb x lo hi)) ∧ w = w' := by
 by_cases h1 : lo ≤ x
 ·
  by_cases h2 : x ≤ hi
  ·
   rw [inb_of h1 h2]
   go_enter Tryz.func62, Tryz.ntmps62
   go_wp2
   go_ret
   exact ⟨rfl, rfl⟩
  rw [inb_hi oM]
  go_enter Tryz.func62, Tryz.ntmps62
  go_wp2
  go_ret
  exact ⟨rfl, rfl⟩
 rw [inb_lo oM]
 go_enter Tryz.func62, Tryz.ntmps62
 go_wp2
 go_ret
 exact ⟨rfl, rfl⟩
theorem sTimeOk_c (w : World) (x : Int) : Calls Tryz.prog 127 #[.int .i64 x] w fun e w' => e = .returned (.bool (timeOk x)) ∧ w = w' := by
 go_enter Tryz.func127, Tryz.ntmps127
 go_wp2_with (first | (go_at_call 32; refine (l1In_c _ _ _ _).mono ?_; rintro e w1 ⟨rfl, rfl⟩))
 go_ret
 exact ⟨rfl, rfl⟩
theorem timeOk_c (w : World) (x : Int) : Calls Tryz.prog 91 #[.int .i64 x] w fun e w' => e = .returned (.bool (timeOk x)) ∧ w = w' := by
 go_enter Tryz.func91, Tryz.ntmps91
 go_wp2_with (first | (go_at_call 62; refine (between_c _ _ _ _).mono ?_; rintro e w1 ⟨rfl, rfl⟩))
 go_ret
 exact ⟨rfl, rfl⟩
theorem idOk_c (w : World) (x : Int) : Calls Tryz.prog 151 #[.int .i64 x] w fun e w' => e = .returned (.bool (idOk x)) ∧ w = w' := by
 go_enter Tryz.func151, Tryz.ntmps151
 go_wp2_with (first | (go_at_call 62; refine (between_c _ _ _ _).mono ?_; rintro e w1 ⟨rfl, rfl⟩))
 go_ret
 exact ⟨rfl, rfl⟩
end Go.Proofs.YtlnkggpemdpemaaGreat
namespace Go.G8
open Go.RowKit
def nestInt64S (l : List (List Int)) : List NRow := l.map (fun r => ([], r))
def nestWrite (l : List DWrite) : List NRow := l.map (fun d => ([d.At], d.Row))
def rowOk (r : List Int) : Bool := decide (r.length ≤ 48) && r.all (fun x => inb x 0 1000000000)
def writeOk (n : Nat) (w : DWrite) : Bool := inb w.At 0 (n - 1) && rowOk w.Row
def diskOk (d : DDisk) : Bool := decide (1 ≤ d.Kept.length ∧ d.Kept.length ≤ 40 ∧ d.Wait.length ≤ 60) && (d.Kept.all rowOk && d.Wait.all (writeOk d.Kept.length))
def shelfOk (d : DDisk) : Bool := diskOk d && decide (d.Kept.length = 8)
theorem all_step {α : Type} {p : α → Bool} {l : List α} {k : Nat} {d : α} (h : l[k]? = some d) (h1 : (l.take k).all p = true) (h2 : p d = true) : (l.take (k + 1)).all p = true := by
 rw [List.take_add_one, h, List.all_append, h1]; simp [h2]
theorem all_no {α : Type} {p : α → Bool} {l : List α} {k : Nat} {d : α} (h : l[k]? = some d) (h2 : p d = false) : l.all p = false := by
 rw [Bool.eq_false_iff]; intro hh
 rw [List.all_eq_true] at hh
 have := hh d (List.mem_of_getElem? h)
 rw [h2] at this; cases this
theorem Ints.one {w : World} {v : Value} {l : List Int} (h : Ints 1 w v l) : ∃ a cap, v = .slice a l.length cap ∧ l.length ≤ cap ∧ cap ≤ maxLen ∧
  ∀ i, i < l.length → ∃ x b off, l[i]? = some x ∧ a = some ⟨b, off, none⟩ ∧ b < w.heap.size ∧ w.cell? ⟨b, off + i, none⟩ = some (.int .i64 x) := by
 obtain ⟨a, len, cap, rfl, hl, h1, h2, h3⟩ := h.open_
 obtain rfl : l.length = len := by omega
 refine ⟨a, cap, rfl, h1, h2, fun i hi => ?_⟩
 obtain ⟨b, off, ha, hb, hc⟩ := h3 i hi
 obtain ⟨x, hx, hcell⟩ := hc 0 oM
 simp only [Nat.mul_one, Nat.add_zero] at hx hcell
 exact ⟨x, b, off, hx, ha, hb, hcell⟩
end Go.G8
namespace Go.Proofs.YtlnkggpemdpemaaGreat
open Go.RowKit Go.G8
theorem sRowOk_c (w : World) (s0_0 : Value) (l0_0 : List Int) (h0_0 : Ints 1 w s0_0 l0_0) : Calls Tryz.prog 89 #[s0_0] w (RetV w (.bool (rowOk l0_0))) := by
 obtain ⟨a, cap, rfl, hcap, hm, ha⟩ := h0_0.one
 have HA := Lib.hid ha
 clear ha
 unfold maxLen at hm
 by_cases h48 : l0_0.length ≤ 48
 ·
  go_enter Tryz.func89, Tryz.ntmps89
  go_wp2
  go_loopw [3] (fun i wr => ∃ k : Nat, k ≤ l0_0.length ∧ i = .int .i64 k ∧ Ext w wr ∧ Hid ((l0_0.take k).all (fun x => inb x 0 1000000000) = true)) (fun i _ => l0_0.length - (intOf i).toNat)
  case atStart => exact ⟨0, Nat.zero_le _, rfl, Ext.refl _, Lib.hid (by simp)⟩
  case round =>
   obtain ⟨k, hk, rfl, he, hp⟩ := hrel
   by_cases hlt : k < l0_0.length
   ·
    obtain ⟨x, b1, o1, hx, rfl, _, c⟩ := HA.out k hlt
    have d0 := he.cell c
    have HX := Lib.hid hx
    clear hx c
    cases hb : inb x 0 1000000000
    ·
     go_wp2_with (first | (go_at_call 32; refine (l1In_c _ _ _ _).mono ?_; rintro e w1 ⟨rfl, rfl⟩))
     go_ret
     exact ⟨by rw [rowOk, all_no HX.out (p := fun x => inb x 0 1000000000) hb]; simp, he⟩
    go_wp2_with (first | (go_at_call 32; refine (l1In_c _ _ _ _).mono ?_; rintro e w1 ⟨rfl, rfl⟩))
    go_roundw
    case rel => exact ⟨k + 1, by omega, by go_num, he, Lib.hid (all_step HX.out hp.out hb)⟩
    case measure => simp [intOf]; omega
   obtain rfl : k = l0_0.length := by omega
   go_wp2
   go_ret
   have hp' := hp.out
   rw [List.take_length] at hp'
   exact ⟨by rw [rowOk, hp']; simp [h48], he⟩
 go_enter Tryz.func89, Tryz.ntmps89
 go_wp2
 go_ret
 exact ⟨by rw [rowOk]; simp [h48], Ext.refl _⟩
theorem rowOk_c (w : World) (s0_0 : Value) (l0_0 : List Int) (h0_0 : Ints 1 w s0_0 l0_0) : Calls Tryz.prog 98 #[s0_0] w (RetV w (.bool (rowOk l0_0))) := by
 obtain ⟨a, cap, rfl, hcap, hm, ha⟩ := h0_0.one
 have HA := Lib.hid ha
 clear ha
 unfold maxLen at hm
 by_cases h48 : l0_0.length ≤ 48
 ·
  go_enter Tryz.func98, Tryz.ntmps98
  go_wp2
  go_loopw [10] (fun i wr => ∃ k : Nat, k ≤ l0_0.length ∧ i = .int .i64 k ∧ Ext w wr ∧ Hid ((l0_0.take k).all (fun x => inb x 0 1000000000) = true)) (fun i _ => l0_0.length - (intOf i).toNat)
  case atStart => exact ⟨0, Nat.zero_le _, rfl, Ext.refl _, Lib.hid (by simp)⟩
  case round =>
   obtain ⟨k, hk, rfl, he, hp⟩ := hrel
   by_cases hlt : k < l0_0.length
   ·
    obtain ⟨x, b1, o1, hx, rfl, _, c⟩ := HA.out k hlt
    have d0 := he.cell c
    have HX := Lib.hid hx
    clear hx c
    cases hb : inb x 0 1000000000
    ·
     go_wp2_with (first | (go_at_call 62; refine (between_c _ _ _ _).mono ?_; rintro e w1 ⟨rfl, rfl⟩))
     go_ret
     exact ⟨by rw [rowOk, all_no HX.out (p := fun x => inb x 0 1000000000) hb]; simp, he⟩
    go_wp2_with (first | (go_at_call 62; refine (between_c _ _ _ _).mono ?_; rintro e w1 ⟨rfl, rfl⟩))
    go_roundw
    case rel => exact ⟨k + 1, by omega, by go_num, he, Lib.hid (all_step HX.out hp.out hb)⟩
    case measure => simp [intOf]; omega
   obtain rfl : k = l0_0.length := by omega
   go_wp2
   go_ret
   have hp' := hp.out
   rw [List.take_length] at hp'
   exact ⟨by rw [rowOk, hp']; simp [h48], he⟩
 go_enter Tryz.func98, Tryz.ntmps98
 go_wp2
 go_ret
 exact ⟨by rw [rowOk]; simp [h48], Ext.refl _⟩
theorem l3Has_c (w : World) (s0_0 : Value) (l0_0 : List (List Int)) (s0_1 : Value) (l0_1 : List DWrite) (c1_0 : Int) (h0_0 : Nest 0 w s0_0 (nestInt64S l0_0)) (h0_1 : Nest 1 w s0_1 (nestWrite l0_1)) :
  Calls Tryz.prog 90 #[.agg #[s0_0, s0_1], .int .i64 c1_0] w (RetV w (.bool (inb c1_0 0 ((⟨l0_0, l0_1⟩ : DDisk).Kept.length - 1)))) := by
 obtain ⟨a0, cap0, rfl, hc0, hm0, -⟩ := h0_0.open_
 obtain ⟨a1, n1, c1, rfl⟩ := h0_1.shape
 unfold maxLen at hm0
 have hl : (nestInt64S l0_0).length = l0_0.length := by simp [nestInt64S]
 rw [hl] at hc0 ⊢
 clear hl
 go_enter Tryz.func90, Tryz.ntmps90
 go_wp2_with (first | (go_at_call 32; refine (l1In_c _ _ _ _  ).mono ?_; rintro e wa ⟨rfl, rfl⟩))
 go_ret
 refine ⟨rfl, ?_⟩
 exact xT
theorem sectorOk_c (w : World) (s0_0 : Value) (l0_0 : List (List Int)) (s0_1 : Value) (l0_1 : List DWrite) (c1_0 : Int) (h0_0 : Nest 0 w s0_0 (nestInt64S l0_0)) (h0_1 : Nest 1 w s0_1 (nestWrite l0_1)) :
  Calls Tryz.prog 99 #[.agg #[s0_0, s0_1], .int .i64 c1_0] w (RetV w (.bool (inb c1_0 0 ((⟨l0_0, l0_1⟩ : DDisk).Kept.length - 1)))) := by
 obtain ⟨a0, cap0, rfl, hc0, hm0, -⟩ := h0_0.open_
 obtain ⟨a1, n1, c1, rfl⟩ := h0_1.shape
 unfold maxLen at hm0
 have hl : (nestInt64S l0_0).length = l0_0.length := by simp [nestInt64S]
 rw [hl] at hc0 ⊢
 clear hl
 go_enter Tryz.func99, Tryz.ntmps99
 go_wp2_with (first | (go_at_call 62; refine (between_c _ _ _ _  ).mono ?_; rintro e wa ⟨rfl, rfl⟩))
 go_ret
 refine ⟨rfl, ?_⟩
 exact xT
theorem nest_at {l : List (List Int)} {k : Nat} {r : NRow} (h : (nestInt64S l)[k]? = some r) : l[k]? = some r.2 := by
 simp only [nestInt64S, List.getElem?_map, Option.map_eq_some_iff] at h
 obtain ⟨x, hx, rfl⟩ := h
 exact hx
theorem nestW_at {l : List DWrite} {k : Nat} {r : NRow} (h : (nestWrite l)[k]? = some r) : ∃ d, l[k]? = some d ∧ r = ([d.At], d.Row) := by
 simp only [nestWrite, List.getElem?_map, Option.map_eq_some_iff] at h
 obtain ⟨x, hx, rfl⟩ := h
 exact ⟨x, hx, rfl⟩
theorem Nest.rows {w : World} {v : Value} {l : List (List Int)} (h : Nest 0 w v (nestInt64S l)) : ∃ a cap, v = .slice a l.length cap ∧ l.length ≤ cap ∧ cap ≤ maxLen ∧
  ∀ i, i < l.length → ∃ r b off sa sn sc, l[i]? = some r ∧ a = some ⟨b, off, none⟩ ∧ b < w.heap.size ∧ w.cell? ⟨b, off + i, none⟩ = some (.slice sa sn sc) ∧ Ints 1 w (.slice sa sn sc) r := by
 obtain ⟨a, cap, rfl, h1, h2, h3⟩ := h.open_
 have hl : (nestInt64S l).length = l.length := by simp [nestInt64S]
 rw [hl] at h1 h3 ⊢
 refine ⟨a, cap, rfl, h1, h2, fun i hi => ?_⟩
 obtain ⟨r, b, off, s, hr, ha, hb, _, hc, hin⟩ := h3 i hi
 obtain ⟨sa, sn, sc, rfl⟩ := hin.shape
 exact ⟨r.2, b, off, sa, sn, sc, nest_at hr, ha, hb, by simpa using hc, hin⟩
theorem Nest.writes {w : World} {v : Value} {l : List DWrite} (h : Nest 1 w v (nestWrite l)) : ∃ a cap, v = .slice a l.length cap ∧ l.length ≤ cap ∧ cap ≤ maxLen ∧
  ∀ i, i < l.length → ∃ d b off sa sn sc, l[i]? = some d ∧ a = some ⟨b, off, none⟩ ∧ b < w.heap.size ∧ w.cell? ⟨b, off + i * 2, none⟩ = some (.int .i64 d.At) ∧ w.cell? ⟨b, off + i * 2 + 1, none⟩ = some (.slice sa sn sc) ∧ Ints 1 w (.slice sa sn sc) d.Row := by
 obtain ⟨a, cap, rfl, h1, h2, h3⟩ := h.open_
 have hl : (nestWrite l).length = l.length := by simp [nestWrite]
 rw [hl] at h1 h3 ⊢
 refine ⟨a, cap, rfl, h1, h2, fun i hi => ?_⟩
 obtain ⟨r, b, off, s, hr, ha, hb, hci, hc, hin⟩ := h3 i hi
 obtain ⟨d, hd, rfl⟩ := nestW_at hr
 obtain ⟨sa, sn, sc, rfl⟩ := hin.shape
 have h0 := hci 0 d.At rfl
 simp only [Nat.add_zero, Nat.reduceAdd] at h0 hc
 exact ⟨d, b, off, sa, sn, sc, hd, ha, hb, h0, hc, hin⟩
theorem info_Int64S : (Tryz.prog.info? 49).map (fun i => (i.zero, i.size, i.bytes)) = some (some (.slice none 0 0), 1, 24) := by kernel_rfl
theorem info_Write : (Tryz.prog.info? 117).map (fun i => (i.zero, i.size, i.bytes)) = some (some (.agg #[.int .i64 0, .slice none 0 0]), 2, 32) := by kernel_rfl
theorem info_Pair : (Tryz.prog.info? 113).map (fun i => (i.zero, i.size, i.bytes)) = some (some (.agg #[.int .i64 0, .int .i64 0]), 2, 16) := by kernel_rfl
theorem info_Job : (Tryz.prog.info? 95).map (fun i => (i.zero, i.size, i.bytes)) = some (some (.agg #[.int .i64 0, .int .i64 0, .int .i64 0, .int .i64 0, .int .i64 0]), 5, 40) := by kernel_rfl
end Go.Proofs.YtlnkggpemdpemaaGreat
namespace Go.G8
open Go.RowKit
def newDisk (n : Int) : DDisk := if inb n 1 40 then ⟨List.replicate n.toNat [], []⟩ else ⟨[], []⟩
theorem ncells_nil (n : Nat) : ncells (nestInt64S (List.replicate n [])) (List.replicate n (.slice none 0 0)) = List.replicate n (.slice none 0 0) := by
 induction n with
 | zero => rfl
 | succ n ih =>
  simp only [List.replicate_succ, nestInt64S, ncells, List.map_cons, List.zip_cons_cons, List.flatMap_cons] at ih ⊢
  rw [ih]
  simp [ncell]
theorem OwnNs.nil (B : Nat) (e e1 : TypeId) (n : Nat) (w : World) : OwnNs B e e1 n w (.slice none 0 0) [] [] :=
 ⟨fun r h => by simp at h, rfl, ⟨0, by simp [ncells], .inl ⟨rfl, rfl⟩⟩, ⟨fun i s r h => by simp at h, fun i j s t k _ h => by simp at h, fun i s k h => by simp at h⟩⟩
theorem OwnNs.made (w : World) (e e1 : TypeId) (n : Nat) (hn : n ≤ 40) : OwnNs w.heap.size e e1 0 (w.alloc (.cells (madeCells #[.slice none 0 0] n) e)) (.slice (some ⟨w.heap.size, 0, none⟩) n n) (nestInt64S (List.replicate n [])) (List.replicate n (.slice none 0 0)) := by
 have hrep : ∀ (i : Nat) (s : Value), (List.replicate n (Value.slice none 0 0))[i]? = some s → s = .slice none 0 0 := by
  intro i s h
  exact List.eq_of_mem_replicate (List.mem_of_getElem? h)
 have hft : ∀ k, k ∈ feet [Value.slice none 0 0] → False := by simp [feet, Value.ownBlock]
 refine ⟨fun r h => by simp [nestInt64S] at h; simp [h], by simp [nestInt64S], Own.of_blk (cap := n) (Blk.new _ _ _) (Nat.le_refl _) (by simp [size_madeCells]) (by rw [ncells_nil]; simp) (Nat.le_refl _) (by unfold maxLen; omega) ?_, ⟨fun i s r h1 h2 => ?_, fun i j s t k _ h1 h2 h3 => ?_, fun i s k h1 h3 => ?_⟩⟩
 ·
  rw [ncells_nil]
  intro j hj
  have hj' : j < n := by omega
  simp [madeCells, hj', Nat.mod_one]
 ·
  rw [hrep i s h1]
  have : r.2 = [] := by
   have := List.mem_of_getElem? h2
   simp [nestInt64S] at this
   simp [this]
  rw [this]
  exact OwnI.nil _ _ _ _
 ·
  rw [hrep i s h1] at h3; exact (hft k h3).elim
 rw [hrep i s h1] at h3; exact (hft k h3).elim
theorem OwnNs.made1 (w : World) (o : Obj) (e e1 : TypeId) (n : Nat) (hn : n ≤ 40) : OwnNs (w.heap.size + 1) e e1 0 ((w.alloc o).alloc (.cells (madeCells #[.slice none 0 0] n) e)) (.slice (some ⟨w.heap.size + 1, 0, none⟩) n n) (nestInt64S (List.replicate n [])) (List.replicate n (.slice none 0 0)) := by
 have := OwnNs.made (w.alloc o) e e1 n hn
 rwa [World.size_alloc] at this
end Go.G8
namespace Go.Proofs.YtlnkggpemdpemaaGreat
open Go.RowKit Go.G8
def IsDisk (B : Nat) (w : World) (v : Value) (d : DDisk) : Prop := ∃ t0 t1 : Value, ∃ ss0 ss1 : List Value, v = .agg #[t0, t1] ∧ OwnNs B 49 2 0 w t0 (nestInt64S d.Kept) ss0 ∧ OwnNs B 117 2 1 w t1 (nestWrite d.Wait) ss1 ∧ (∀ k, k ∈ feet (t0 :: ss0) → k ∈ feet (t1 :: ss1) → False)
theorem newDisk_c (w : World) (n : Int) : Calls Tryz.prog 79 #[.int .i64 n] w (Ret w fun v w' => IsDisk w.heap.size w' v (newDisk n)) := by
 cases hb : inb n 1 40
 ·
  go_enter Tryz.func79, Tryz.ntmps79
  go_wp2_with (first | (go_at_call 62; refine (between_c _ _ _ _).mono ?_; rintro e w1 ⟨rfl, rfl⟩))
  refine bodyPost_ret (by simp [results, Tryz.results79, go_sem, *]; try rfl) rfl ?_
  refine ⟨_, rfl, xT, _, _, [], [], rfl, ?_, ?_, by simp [feet, Value.ownBlock]⟩
  ·
   rw [show newDisk n = ⟨[], []⟩ by simp [newDisk, hb]]; exact OwnNs.nil _ _ _ _ _
  rw [show newDisk n = ⟨[], []⟩ by simp [newDisk, hb]]; exact OwnNs.nil _ _ _ _ _
 obtain ⟨h1, h2⟩ := inb_true.1 hb
 obtain ⟨m, rfl⟩ := Int.eq_ofNat_of_zero_le (show 0 ≤ n by omega)
 obtain ⟨i0, hi, hz0, hz1, hz2⟩ := info_parts info_Int64S
 have hmk := fun W => run_make (P := Tryz.prog) W 30 49 i0 _ Tryz.underlying30 hi hz0 .i64 .i64 m m oM oM (by rw [hz2]; omega) oM
 simp only [Int.toNat_natCast] at hmk
 go_enter Tryz.func79, Tryz.ntmps79
 go_wp2_with (first | (go_at_call 62; refine (between_c _ _ _ _).mono ?_; rintro e w1 ⟨rfl, rfl⟩))
 clear hmk
 refine bodyPost_ret (by simp [results, Tryz.results79, go_sem, *]; try rfl) rfl ?_
 refine ⟨_, rfl, xT, _, _, List.replicate m (.slice none 0 0), [], rfl, ?_, ?_, by simp [feet, Value.ownBlock]⟩
 ·
  rw [show newDisk (m : Int) = ⟨List.replicate m [], []⟩ by simp [newDisk, hb]]
  exact (OwnNs.made1 w _ 49 2 m oM).mono oM
 rw [show newDisk (m : Int) = ⟨List.replicate m [], []⟩ by simp [newDisk, hb]]; exact OwnNs.nil _ _ _ _ _
theorem newShelf_c (w : World) : Calls Tryz.prog 48 #[] w (Ret w fun v w' => IsDisk w.heap.size w' v (newDisk 8)) := by
 go_enter Tryz.func48, Tryz.ntmps48
 go_wp2_with fail
 refine (newDisk_c _ 8).mono ?_
 rintro e w1 ⟨_, rfl, hx1, t0, t1, ss0, ss1, rfl, g0, g1, hd⟩
 obtain ⟨a0, n0, k0, rfl⟩ := g0.nest.shape
 obtain ⟨a1, n1, k1, rfl⟩ := g1.nest.shape
 obtain ⟨hc1, hf1⟩ := hx1.cells
 have hz1 := hx1.size
 simp only [World.size_alloc] at hc1 hf1 hz1 g0 g1
 have hy : w.heap.size < w1.heap.size := by omega
 go_wp2
 refine bodyPost_ret (by simp [results, Tryz.results48, go_sem, *]; try rfl) rfl ?_
 clear hc1 hf1
 refine ⟨_, rfl, xT, _, _, ss0, ss1, rfl, (OwnNs.keep g0 chgT).mono (by simp), (OwnNs.keep g1 chgT).mono (by simp), hd⟩
end Go.Proofs.YtlnkggpemdpemaaGreat
