/- Copies of rows. -/
import Derived.Test.YtankkbjlneeolaaS4
import Derived.Test.YtankkbjlneeolaaNest2
set_option linter.unusedSimpArgs false
set_option linter.unusedVariables false
namespace Go.Proofs.Ytankkbjlneeolaa
open Go.RowKit Go.G8

set_option maxHeartbeats 1600000 in
set_option maxRecDepth 100000 in
theorem l1Copy_c (w : World) (s0_0 : Value) (l0_0 : List Int) (h0_0 : Ints 1 w s0_0 l0_0) (e0 : l0_0.length ≤ 1000000) :
    Calls Try.prog 97 #[s0_0] w (Ret w fun r0 w' => OwnI w.heap.size 2 1 w' r0 l0_0) := by
  obtain ⟨a0, n0, k0, rfl⟩ := h0_0.shape
  obtain ⟨i0, hi, hz0, hz1, hz2⟩ := info_parts info_Int64
  go_enter Try.func97, Try.ntmps97
  go_wp2_with (first | (at_builtin; refine wp_append_fresh rfl (.tmp 3) (.tmp 4) 34 rfl 2 i0 _ 1 8 Try.underlying34 hi hz0 hz1 hz2 rfl (by decide) w.heap.size (by simp) rfl (.slice a0 n0 k0) (l0_0.map (.int .i64)) rfl h0_0 (ints_oneCell _ _) 1000000 (by simp; omega) (by unfold maxLen; omega) (by omega) ?_; rotate_right; intro t5 w1 g5 hx1; obtain ⟨ta5, tn5, tc5, rfl⟩ := g5.sl.shape))
  go_ret
  exact ⟨_, rfl, hx1, g5⟩
set_option maxHeartbeats 1600000 in
set_option maxRecDepth 100000 in
theorem copyRow_c (w : World) (s0_0 : Value) (l0_0 : List Int) (h0_0 : Ints 1 w s0_0 l0_0) (e0 : l0_0.length ≤ 1000000) :
    Calls Try.prog 109 #[s0_0] w (Ret w fun r0 w' => OwnI w.heap.size 2 1 w' r0 l0_0) := by
  obtain ⟨a0, n0, k0, rfl⟩ := h0_0.shape
  obtain ⟨i0, hi, hz0, hz1, hz2⟩ := info_parts info_Int64
  go_enter Try.func109, Try.ntmps109
  go_wp2_with (first | (at_builtin; refine wp_append_fresh rfl (.tmp 3) (.tmp 4) 34 rfl 2 i0 _ 1 8 Try.underlying34 hi hz0 hz1 hz2 rfl (by decide) w.heap.size (by simp) rfl (.slice a0 n0 k0) (l0_0.map (.int .i64)) rfl h0_0 (ints_oneCell _ _) 1000000 (by simp; omega) (by unfold maxLen; omega) (by omega) ?_; rotate_right; intro t5 w1 g5 hx1; obtain ⟨ta5, tn5, tc5, rfl⟩ := g5.sl.shape))
  go_ret
  exact ⟨_, rfl, hx1, g5⟩
end Go.Proofs.Ytankkbjlneeolaa
namespace Go.G8
open Go.RowKit
theorem nestI_snoc (l : List (List Int)) (r : List Int) : nestInt64S (l ++ [r]) = nestInt64S l ++ [([], r)] := by simp [nestInt64S]
theorem nestW_snoc (l : List DWrite) (d : DWrite) : nestWrite (l ++ [d]) = nestWrite l ++ [([d.At], d.Row)] := by simp [nestWrite]
theorem Ext.row {W0 w w' : World} {B n : Nat} {e e1 : TypeId} {v : Value} {rows : List NRow} {ss : List Value} (h : Ext W0 w) (hown : OwnNs B e e1 n w v rows ss) (hB : W0.heap.size ≤ B) (hg : w.grownBy w' v.ownBlock) : Ext W0 w' := Ext.own h hown.2.2.1 hB hg
/-- What 'make([][]T, 0, n)' lays. -/
theorem OwnNs.made0 (w : World) (e e1 : TypeId) (n cap : Nat) (cur : Array Value) (hs : cur.size = cap * (n + 1)) (hm : cap ≤ maxLen) : OwnNs w.heap.size e e1 n (w.alloc (.cells cur e)) (.slice (some ⟨w.heap.size, 0, none⟩) 0 cap) [] [] :=
  ⟨fun r h => by simp at h, rfl, Own.of_blk (Blk.new _ _ _) (Nat.le_refl _) hs (by simp [ncells]) (Nat.zero_le _) hm (by simpa using Pre.zero _ _), ⟨fun i s r h => by simp at h, fun i j s t k _ h => by simp at h, fun i s k h => by simp at h⟩⟩
end Go.G8
namespace Go.Proofs.Ytankkbjlneeolaa
open Go.RowKit Go.G8
set_option maxHeartbeats 4000000 in
set_option maxRecDepth 100000 in
theorem copyRows_c (w : World) (s0_0 : Value) (l0_0 : List (List Int)) (h0_0 : Nest 0 w s0_0 (nestInt64S l0_0)) (e0 : l0_0.length ≤ 1000000) (e1 : ∀ r, r ∈ l0_0 → r.length ≤ 1000000) :
    Calls Try.prog 108 #[s0_0] w (Ret w fun r0 w' => ∃ ss : List Value, OwnNs w.heap.size 34 2 0 w' r0 (nestInt64S l0_0) ss) := by
  obtain ⟨a, cap, rfl, hcap, hm, ha⟩ := Nest.rows h0_0
  have HA := Lib.hid ha
  have HE := Lib.hid e1
  clear ha e1
  unfold maxLen at hm
  obtain ⟨i0, hi, hz0, hz1, hz2⟩ := info_parts info_Int64S
  have hmk := fun W => run_make (P := Try.prog) W 22 34 i0 _ Try.underlying22 hi hz0 .i64 .i64 0 l0_0.length (by omega) (by omega) (by rw [hz2]; omega) (by omega)
  simp only [Int.toNat_natCast, Int.toNat_zero] at hmk
  have hsz : (madeCells (Value.slice none 0 0).cells (l0_0.length * i0.size)).size = l0_0.length * (0 + 1) := by rw [size_madeCells, hz1]
  generalize madeCells (Value.slice none 0 0).cells (l0_0.length * i0.size) = mc at hmk hsz
  have hown0 := OwnNs.made0 w 34 2 0 l0_0.length mc hsz (by unfold maxLen; omega)
  go_enter Try.func108, Try.ntmps108
  go_wp2
  clear hmk
  go_loopw [11, 3] (fun i s wr => ∃ k : Nat, k ≤ l0_0.length ∧ i = .int .i64 k ∧ Ext w wr ∧ ∃ ss : List Value, OwnNs w.heap.size 34 2 0 wr s (nestInt64S (l0_0.take k)) ss) (fun i _ _ => l0_0.length - (intOf i).toNat)
  case atStart => exact ⟨0, Nat.zero_le _, rfl, (Ext.refl _).alloc _, [], by simpa [nestInt64S] using hown0⟩
  case round =>
    obtain ⟨k, hk, rfl, he, ss, hown⟩ := hrel
    obtain ⟨oa, on, oc, rfl⟩ := hown.nest.shape
    have hln : (nestInt64S (l0_0.take k)).length = k := by simp [nestInt64S]; omega
    have HLN := Lib.hid hln
    have hsz1 := he.size
    by_cases hlt : k < l0_0.length
    · obtain ⟨r, b1, o1, sa, sn, sc, hr, rfl, hb1, c0, hin⟩ := HA.out k hlt
      have d0 := he.cell c0
      have HR := Lib.hid hr
      have HO := Lib.hid hown
      have hrl := HE.out r (List.mem_of_getElem? hr)
      clear hr c0 hown hln
      go_wp2_with (first | (go_at_call 109; refine (copyRow_c _ _ _ (hin.ext he) hrl).mono ?_; rintro e w1 ⟨_, rfl, hx1, g1⟩; obtain ⟨ta, tn, tc, rfl⟩ := g1.shape; have hsz2 := hx1.size) | (at_builtin; refine wp_append_row (n := 0) (r := ([], r)) rfl _ _ 22 rfl i0 _ 24 Try.underlying22 hi hz0 hz1 hz2 rfl rfl ((HO.out.ext hx1).ext ((Ext.refl _).alloc _)) w1.heap.size rfl _ (Blk.new _ _ _) rfl rfl (g1.ext ((Ext.refl _).alloc _)) (by omega) (fun k hk => (HO.out.foot k hk).2) 1000001 (by have := HLN.out; omega) (by unfold maxLen; omega) (by omega) (by simp; omega) ?_; rotate_right; intro g cp wa hown1 hga hxa _))
      go_roundw
      case rel =>
        refine ⟨k + 1, by omega, by go_num, hxa w ((he.trans hx1).alloc _) (Nat.le_refl _), ss ++ [.slice ta tn tc], ?_⟩
        have h9 := hown1
        rw [take_snoc HR.out, nestI_snoc]
        exact h9
      case measure => simp [intOf]; omega
    · obtain rfl : k = l0_0.length := by omega
      rw [List.take_length] at hown
      have HO := Lib.hid hown
      clear hown hln
      go_wp2
      go_ret
      exact ⟨_, rfl, he, ss, HO.out⟩

end Go.Proofs.Ytankkbjlneeolaa
