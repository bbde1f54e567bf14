/- Contracts and plain laws: HelpH Q9 S5 KS P7 Q10 Q8 Rw. -/
import Derived.Test.YthihnangjghloaaSa
import Derived.Test.YthihnangjghloaaSb
import Derived.Test.YthihnangjghloaaSi
import Derived.Test.YthihnangjghloaaSu
import Derived.Test.YthihnangjghloaaSe
import Derived.Test.YthihnangjghloaaSv
import Derived.Test.YthihnangjghloaaSw
import Derived.Test.YthihnangjghloaaSh
set_option linter.unusedSimpArgs false
set_option linter.unusedVariables false
-- HelpH: contracts of the statements' helper functions on stores.
set_option linter.unusedSimpArgs false
set_option linter.unusedVariables false
namespace Go.Proofs.Ythihnangjghloaa
open Go.RowKit Go.G8



end Go.Proofs.Ythihnangjghloaa

-- Disks that fall.
set_option linter.unusedSimpArgs false
set_option linter.unusedVariables false
namespace Go.Proofs.Ythihnangjghloaa
open Go.RowKit Go.G8


end Go.Proofs.Ythihnangjghloaa

-- New stores.
namespace Go.Proofs.Ythihnangjghloaa
open Go.RowKit Go.G8

set_option maxHeartbeats 1600000 in
set_option maxRecDepth 100000 in
theorem sNewStore_c (w : World) : Calls Try.prog 12 #[] w (Ret w fun v w' => ∃ t0 t1 : Value, ∃ ss0 ss1 : List Value, v = .agg #[t0, t1, .int .i64 0, .int .i64 0, .slice none 0 0, .slice none 0 0, .int .i64 0, .int .i64 0, .int .i64 0, .int .i64 0, .int .i64 0, .int .i64 0] ∧ OwnNs w.heap.size 86 2 0 w' t0 (nestInt64S (newDisk 8).Kept) ss0 ∧ OwnNs w.heap.size 202 2 1 w' t1 (nestWrite (newDisk 8).Wait) ss1 ∧ (∀ k, k ∈ feet (t0 :: ss0) → k ∈ feet (t1 :: ss1) → False)) := by
 go_enter Try.func12, Try.ntmps12
 go_wp2_with fail
 refine (sNewShelf_c _).mono ?_
 rintro e w1 ⟨_, rfl, hx1, t0, t1, ss0, ss1, rfl, g0, g1, hd⟩
 obtain ⟨a0, n0, k0, rfl⟩ := g0.nest.shape
 obtain ⟨a1, n1, k1, rfl⟩ := g1.nest.shape
 obtain ⟨hc1, hf1⟩ := hx1.cells
 have hz1 := hx1.size
 simp only [World.size_alloc] at hc1 hf1 hz1 g0 g1
 have hy : w.heap.size < w1.heap.size := by omega
 go_wp2
 refine bodyPost_ret (by simp [results, Try.results12, go_sem, *]; try rfl) rfl ?_
 clear hc1 hf1
 refine ⟨_, rfl, by (first | exact extT | omega), _, _, ss0, ss1, rfl, (OwnNs.keep g0 (by repeat' (first | (with_reducible exact Chg.refl _ _) | (with_reducible refine Chg.drewN ?_ _) | (with_reducible refine Chg.drew ?_) | (with_reducible refine Chg.alloc ?_ _) | (with_reducible refine Chg.setLow ?_ (by omega) _) | (with_reducible refine Chg.setNew ?_ (by omega) _) | (with_reducible refine Chg.setRow ?_ (by omega) _) | (with_reducible refine Chg.ext ?_ (by assumption)) | omega))).mono (by omega), (OwnNs.keep g1 (by repeat' (first | (with_reducible exact Chg.refl _ _) | (with_reducible refine Chg.drewN ?_ _) | (with_reducible refine Chg.drew ?_) | (with_reducible refine Chg.alloc ?_ _) | (with_reducible refine Chg.setLow ?_ (by omega) _) | (with_reducible refine Chg.setNew ?_ (by omega) _) | (with_reducible refine Chg.setRow ?_ (by omega) _) | (with_reducible refine Chg.ext ?_ (by assumption)) | omega))).mono (by omega), hd⟩

end Go.Proofs.Ythihnangjghloaa

-- Stores as one thing: read, owned, marked.
set_option linter.unusedSimpArgs false
set_option linter.unusedVariables false
namespace Go.Proofs.Ythihnangjghloaa
open Go.RowKit Go.G8

def RdStore (w : World) (v : Value) (s : DStore) : Prop := ∃ t0 t1 t4 t5 : Value, v = .agg #[t0, t1, .int .i64 s.State.Index, .int .i64 s.State.Time, t4, t5, .int .i64 s.State.Lease.Holder, .int .i64 s.State.Lease.Epoch, .int .i64 s.State.Lease.Until, .int .i64 s.Num, .int .i64 s.Last, .int .i64 s.Busy] ∧ Nest 0 w t0 (nestInt64S s.Disk.Kept) ∧ Nest 1 w t1 (nestWrite s.Disk.Wait) ∧ Ints 2 w t4 (flPair s.State.Pairs) ∧ Ints 5 w t5 (flJob s.State.Jobs)
def OwStore (B : Nat) (w : World) (v : Value) (s : DStore) (F : List Nat) : Prop := ∃ t0 t1 t4 t5 : Value, ∃ ss0 ss1 : List Value, v = .agg #[t0, t1, .int .i64 s.State.Index, .int .i64 s.State.Time, t4, t5, .int .i64 s.State.Lease.Holder, .int .i64 s.State.Lease.Epoch, .int .i64 s.State.Lease.Until, .int .i64 s.Num, .int .i64 s.Last, .int .i64 s.Busy] ∧ OwnNs B 86 2 0 w t0 (nestInt64S s.Disk.Kept) ss0 ∧ OwnNs B 202 2 1 w t1 (nestWrite s.Disk.Wait) ss1 ∧ OwnI B 182 2 w t4 (flPair s.State.Pairs) ∧ OwnI B 142 5 w t5 (flJob s.State.Jobs) ∧ (∀ k, k ∈ feet (t0 :: ss0) → k ∈ feet (t1 :: ss1) → False) ∧ F = (feet (t0 :: ss0) ++ feet (t1 :: ss1)) ++ (feet [t4] ++ feet [t5])
def MkStore (B : Nat) (w : World) (v : Value) (s : DStore) (F : List Nat) (q : Int) : Prop := ∃ t0 t1 t4 t5 : Value, ∃ ss0 ss1 : List Value, v = .agg #[t0, t1, .int .i64 s.State.Index, .int .i64 s.State.Time, t4, t5, .int .i64 s.State.Lease.Holder, .int .i64 s.State.Lease.Epoch, .int .i64 s.State.Lease.Until, .int .i64 s.Num, .int .i64 s.Last, .int .i64 s.Busy] ∧ OwnNs B 86 2 0 w t0 (marks 0 q (nestInt64S s.Disk.Kept)) ss0 ∧ OwnNs B 202 2 1 w t1 (marks 1 (q + (tot 0 (nestInt64S s.Disk.Kept) : Nat)) (nestWrite s.Disk.Wait)) ss1 ∧ OwnI B 182 2 w t4 (run (q + (tot 0 (nestInt64S s.Disk.Kept) : Nat) + (tot 1 (nestWrite s.Disk.Wait) : Nat)) (s.State.Pairs.length * 2)) ∧ OwnI B 142 5 w t5 (run (q + (tot 0 (nestInt64S s.Disk.Kept) : Nat) + (tot 1 (nestWrite s.Disk.Wait) : Nat) + (s.State.Pairs.length * 2 : Nat)) (s.State.Jobs.length * 5))
section
variable {B B' : Nat} {w w' : World} {v : Value} {s s' : DStore} {F : List Nat} {q : Int}
theorem RdStore.shape (h : RdStore w v s) : ∃ a0 n0 k0 a1 n1 k1 a4 n4 k4 a5 n5 k5, v = .agg #[.slice a0 n0 k0, .slice a1 n1 k1, .int .i64 s.State.Index, .int .i64 s.State.Time, .slice a4 n4 k4, .slice a5 n5 k5, .int .i64 s.State.Lease.Holder, .int .i64 s.State.Lease.Epoch, .int .i64 s.State.Lease.Until, .int .i64 s.Num, .int .i64 s.Last, .int .i64 s.Busy] := by
 obtain ⟨t0, t1, t4, t5, rfl, h0, h1, h4, h5⟩ := h
 obtain ⟨a0, n0, k0, rfl⟩ := h0.shape
 obtain ⟨a1, n1, k1, rfl⟩ := h1.shape
 obtain ⟨a4, n4, k4, rfl⟩ := h4.shape
 obtain ⟨a5, n5, k5, rfl⟩ := h5.shape
 exact ⟨a0, n0, k0, a1, n1, k1, a4, n4, k4, a5, n5, k5, rfl⟩
theorem RdStore.ext (h : RdStore w v s) (x : Ext w w') : RdStore w' v s := let ⟨t0, t1, t4, t5, e, h0, h1, h4, h5⟩ := h; ⟨t0, t1, t4, t5, e, h0.ext x, h1.ext x, h4.ext x, h5.ext x⟩
theorem OwStore.rd (h : OwStore B w v s F) : RdStore w v s := let ⟨t0, t1, t4, t5, _, _, e, h0, h1, h4, h5, _, _⟩ := h; ⟨t0, t1, t4, t5, e, h0.nest, h1.nest, h4.ints, h5.ints⟩
theorem OwStore.ext (h : OwStore B w v s F) (x : Ext w w') : OwStore B w' v s F := let ⟨t0, t1, t4, t5, s0, s1, e, h0, h1, h4, h5, hd, hF⟩ := h; ⟨t0, t1, t4, t5, s0, s1, e, h0.ext x, h1.ext x, Own.ext h4 x, Own.ext h5 x, hd, hF⟩
theorem OwStore.keep (h : OwStore B w v s F) (x : Chg B w w') : OwStore B w' v s F := let ⟨t0, t1, t4, t5, s0, s1, e, h0, h1, h4, h5, hd, hF⟩ := h; ⟨t0, t1, t4, t5, s0, s1, e, h0.keep x, h1.keep x, h4.keep x, h5.keep x, hd, hF⟩
theorem OwStore.mono (h : OwStore B w v s F) (x : B' ≤ B) : OwStore B' w v s F := let ⟨t0, t1, t4, t5, s0, s1, e, h0, h1, h4, h5, hd, hF⟩ := h; ⟨t0, t1, t4, t5, s0, s1, e, h0.mono x, h1.mono x, h4.mono x, h5.mono x, hd, hF⟩
theorem OwStore.cast (h : OwStore B w v s F) (e : s = s') : OwStore B w v s' F := e ▸ h
theorem OwStore.upd (h : OwStore B w v s F) {fs : List Nat} (x : Upd w w' fs) (hn : ∀ k, k ∈ F → k ∈ fs → False) : OwStore B w' v s F := by
 obtain ⟨t0, t1, t4, t5, s0, s1, e, h0, h1, h4, h5, hd, rfl⟩ := h
 exact ⟨t0, t1, t4, t5, s0, s1, e, h0.upd x (fun k h => hn k (List.mem_append_left _ (List.mem_append_left _ h))), h1.upd x (fun k h => hn k (List.mem_append_left _ (List.mem_append_right _ h))), OwnI.upd' h4 x (fun k h => hn k (List.mem_append_right _ (List.mem_append_left _ h))), OwnI.upd' h5 x (fun k h => hn k (List.mem_append_right _ (List.mem_append_right _ h))), hd, rfl⟩
theorem OwStore.low (h : OwStore B w v s F) : ∀ k, k ∈ F → B ≤ k ∧ k < w.heap.size := by
 obtain ⟨t0, t1, t4, t5, s0, s1, e, h0, h1, h4, h5, hd, rfl⟩ := h
 intro k hk
 rcases List.mem_append.1 hk with h | h
 ·
  rcases List.mem_append.1 h with h | h
  ·
   exact h0.foot k h
  ·
   exact h1.foot k h
 ·
  rcases List.mem_append.1 h with h | h
  ·
   exact h4.foot k h
  ·
   exact h5.foot k h
theorem MkStore.ext (h : MkStore B w v s F q) (x : Ext w w') : MkStore B w' v s F q := let ⟨t0, t1, t4, t5, s0, s1, e, h0, h1, h4, h5⟩ := h; ⟨t0, t1, t4, t5, s0, s1, e, h0.ext x, h1.ext x, Own.ext h4 x, Own.ext h5 x⟩
end

end Go.Proofs.Ythihnangjghloaa

-- Stores: right or not.
set_option linter.unusedSimpArgs false
set_option linter.unusedVariables false
namespace Go.Proofs.Ythihnangjghloaa
open Go.RowKit Go.G8

end Go.Proofs.Ythihnangjghloaa
namespace Go.G8
noncomputable def storeOk (s : DStore) : Bool := shelfOk s.Disk && (stateOk s.State && (inb s.Num 0 1000000000 && (inb s.Last 0 s.State.Index && ((decide (s.Num = 0) == decide (s.Last = 0)) && (decide (s.Busy = 0) || (decide (s.Num < 1000000000) && (decide (s.Last < s.Busy) && decide (s.Busy ≤ s.State.Index))))))))
theorem stateOk_index {s : DState} (h : stateOk s = true) : 0 ≤ s.Index ∧ s.Index ≤ 2000 := by
 simp only [stateOk, Bool.and_eq_true] at h
 exact inb_true.1 h.1
end Go.G8
namespace Go.Proofs.Ythihnangjghloaa
open Go.RowKit Go.G8
set_option maxHeartbeats 1600000 in
set_option maxRecDepth 100000 in
theorem sStoreOk_c (w : World) (s0_0 : Value) (l0_0 : List (List Int)) (s0_1 : Value) (l0_1 : List DWrite) (c0_2 : Int) (c0_3 : Int) (s0_4 : Value) (l0_4 : List DPair) (s0_5 : Value) (l0_5 : List DJob) (c0_6 : Int) (c0_7 : Int) (c0_8 : Int) (c0_9 : Int) (c0_10 : Int) (c0_11 : Int) (h0_0 : Nest 0 w s0_0 (nestInt64S l0_0)) (h0_1 : Nest 1 w s0_1 (nestWrite l0_1)) (h0_4 : Ints 2 w s0_4 (flPair l0_4)) (h0_5 : Ints 5 w s0_5 (flJob l0_5)) :
  Calls Try.prog 46 #[.agg #[s0_0, s0_1, .int .i64 c0_2, .int .i64 c0_3, s0_4, s0_5, .int .i64 c0_6, .int .i64 c0_7, .int .i64 c0_8, .int .i64 c0_9, .int .i64 c0_10, .int .i64 c0_11]] w (RetV w (.bool (storeOk (⟨⟨l0_0, l0_1⟩, ⟨c0_2, c0_3, l0_4, l0_5, ⟨c0_6, c0_7, c0_8⟩⟩, c0_9, c0_10, c0_11⟩ : DStore)))) := by
 obtain ⟨a0_0, n0_0, k0_0, rfl⟩ := h0_0.shape
 obtain ⟨a0_1, n0_1, k0_1, rfl⟩ := h0_1.shape
 obtain ⟨a0_4, n0_4, k0_4, rfl⟩ := h0_4.shape
 obtain ⟨a0_5, n0_5, k0_5, rfl⟩ := h0_5.shape
 by_cases hl : 0 ≤ c0_10 ∧ c0_10 ≤ 2000
 obtain ⟨hl1, hl2⟩ := hl
 rotate_left
 have hno : stateOk (⟨c0_2, c0_3, l0_4, l0_5, ⟨c0_6, c0_7, c0_8⟩⟩ : DState) = true → inb c0_10 0 c0_2 = false := fun h => by
  have := stateOk_index h
  simp only [] at this
  by_cases h1 : inb c0_10 0 c0_2 = true
  ·
   have h2 := inb_true.1 h1
   exact (hl ⟨by omega, by omega⟩).elim
  ·
   simpa using h1
 clear hl
 all_goals
   have rsize_setRow := @size_setRow
   have rcell_setRow_lt := @cell_setRow_lt
   have rcell_setRow_gt := @cell_setRow_gt
   have rfrozen_setRow_lt := @frozen_setRow_lt
   have rfrozen_setRow_gt := @frozen_setRow_gt
   go_enter Try.func46, Try.ntmps46
   go_wp2_with (first | (go_at_call 95; refine (sShelfOk_c _ _ _ _ _ (by first | (with_reducible exact Nest.ext (by assumption) (by (first | exact extT | omega))) | (with_reducible exact Nest.ext (OwnNest.nest (by assumption)) (by (first | exact extT | omega)))) (by first | (with_reducible exact Nest.ext (by assumption) (by (first | exact extT | omega))) | (with_reducible exact Nest.ext (OwnNest.nest (by assumption)) (by (first | exact extT | omega)))) ).mono ?_; rintro e wa ⟨rfl, hxa⟩; have hza := hxa.size; (repeat (first | simp only [World.size_alloc] at hza | simp only [World.size_setCell] at hza | simp only [size_setRow] at hza)); (try have hya_b_0 : wb.heap.size < wa.heap.size := (by omega)); (try have hya_b_1 : wb.heap.size + 1 < wa.heap.size := (by omega)); (try have hya_b_2 : wb.heap.size + 1 + 1 < wa.heap.size := (by omega)); (try have hya_c_0 : wc.heap.size < wa.heap.size := (by omega)); (try have hya_c_1 : wc.heap.size + 1 < wa.heap.size := (by omega)); (try have hya_c_2 : wc.heap.size + 1 + 1 < wa.heap.size := (by omega)); have Ka0 : Blk wa (w.heap.size) 47 _ := Blk.ext (by exact blkT) hxa; (try simp only [List.setIfInBounds_toArray, List.set_cons_zero, List.set_cons_succ] at Ka0); have CKa0 := Ka0.cell; have FKa0 := Ka0.frozen; have hya__0 : w.heap.size < wa.heap.size := (by omega); (try (have Ka_b0 : Blk wa (wb.heap.size) _ _ := Blk.ext (by exact blkT) hxa; (try simp only [List.setIfInBounds_toArray, List.set_cons_zero, List.set_cons_succ] at Ka_b0); have CKa_b0 := Ka_b0.cell; have FKa_b0 := Ka_b0.frozen)); (try (have Ka_b1 : Blk wa (wb.heap.size + 1) _ _ := Blk.ext (by exact blkT) hxa; (try simp only [List.setIfInBounds_toArray, List.set_cons_zero, List.set_cons_succ] at Ka_b1); have CKa_b1 := Ka_b1.cell; have FKa_b1 := Ka_b1.frozen)); (try (have Ka_b2 : Blk wa (wb.heap.size + 1 + 1) _ _ := Blk.ext (by exact blkT) hxa; (try simp only [List.setIfInBounds_toArray, List.set_cons_zero, List.set_cons_succ] at Ka_b2); have CKa_b2 := Ka_b2.cell; have FKa_b2 := Ka_b2.frozen)); (try (have Ka_c0 : Blk wa (wc.heap.size) _ _ := Blk.ext (by exact blkT) hxa; (try simp only [List.setIfInBounds_toArray, List.set_cons_zero, List.set_cons_succ] at Ka_c0); have CKa_c0 := Ka_c0.cell; have FKa_c0 := Ka_c0.frozen)); (try (have Ka_c1 : Blk wa (wc.heap.size + 1) _ _ := Blk.ext (by exact blkT) hxa; (try simp only [List.setIfInBounds_toArray, List.set_cons_zero, List.set_cons_succ] at Ka_c1); have CKa_c1 := Ka_c1.cell; have FKa_c1 := Ka_c1.frozen)); (try (have Ka_c2 : Blk wa (wc.heap.size + 1 + 1) _ _ := Blk.ext (by exact blkT) hxa; (try simp only [List.setIfInBounds_toArray, List.set_cons_zero, List.set_cons_succ] at Ka_c2); have CKa_c2 := Ka_c2.cell; have FKa_c2 := Ka_c2.frozen))) | (go_at_call 81; refine (sStateOk_c _ _ _ _ _ _ _ _ _ _ (by first | (with_reducible exact Ints.ext (by assumption) (by (first | exact extT | omega))) | (with_reducible exact Ints.ext (OwnI.ints (by assumption)) (by (first | exact extT | omega))) | with_reducible exact rnil_flPair _ _) (by first | (with_reducible exact Ints.ext (by assumption) (by (first | exact extT | omega))) | (with_reducible exact Ints.ext (OwnI.ints (by assumption)) (by (first | exact extT | omega))) | with_reducible exact rnil_flJob _ _) ).mono ?_; rintro e wb ⟨rfl, hxb⟩; have hzb := hxb.size; (repeat (first | simp only [World.size_alloc] at hzb | simp only [World.size_setCell] at hzb | simp only [size_setRow] at hzb)); (try have hyb_a_0 : wa.heap.size < wb.heap.size := (by omega)); (try have hyb_a_1 : wa.heap.size + 1 < wb.heap.size := (by omega)); (try have hyb_a_2 : wa.heap.size + 1 + 1 < wb.heap.size := (by omega)); (try have hyb_c_0 : wc.heap.size < wb.heap.size := (by omega)); (try have hyb_c_1 : wc.heap.size + 1 < wb.heap.size := (by omega)); (try have hyb_c_2 : wc.heap.size + 1 + 1 < wb.heap.size := (by omega)); have Kb0 : Blk wb (w.heap.size) 47 _ := Blk.ext (by exact blkT) hxb; (try simp only [List.setIfInBounds_toArray, List.set_cons_zero, List.set_cons_succ] at Kb0); have CKb0 := Kb0.cell; have FKb0 := Kb0.frozen; have hyb__0 : w.heap.size < wb.heap.size := (by omega); (try (have Kb_a0 : Blk wb (wa.heap.size) _ _ := Blk.ext (by exact blkT) hxb; (try simp only [List.setIfInBounds_toArray, List.set_cons_zero, List.set_cons_succ] at Kb_a0); have CKb_a0 := Kb_a0.cell; have FKb_a0 := Kb_a0.frozen)); (try (have Kb_a1 : Blk wb (wa.heap.size + 1) _ _ := Blk.ext (by exact blkT) hxb; (try simp only [List.setIfInBounds_toArray, List.set_cons_zero, List.set_cons_succ] at Kb_a1); have CKb_a1 := Kb_a1.cell; have FKb_a1 := Kb_a1.frozen)); (try (have Kb_a2 : Blk wb (wa.heap.size + 1 + 1) _ _ := Blk.ext (by exact blkT) hxb; (try simp only [List.setIfInBounds_toArray, List.set_cons_zero, List.set_cons_succ] at Kb_a2); have CKb_a2 := Kb_a2.cell; have FKb_a2 := Kb_a2.frozen)); (try (have Kb_c0 : Blk wb (wc.heap.size) _ _ := Blk.ext (by exact blkT) hxb; (try simp only [List.setIfInBounds_toArray, List.set_cons_zero, List.set_cons_succ] at Kb_c0); have CKb_c0 := Kb_c0.cell; have FKb_c0 := Kb_c0.frozen)); (try (have Kb_c1 : Blk wb (wc.heap.size + 1) _ _ := Blk.ext (by exact blkT) hxb; (try simp only [List.setIfInBounds_toArray, List.set_cons_zero, List.set_cons_succ] at Kb_c1); have CKb_c1 := Kb_c1.cell; have FKb_c1 := Kb_c1.frozen)); (try (have Kb_c2 : Blk wb (wc.heap.size + 1 + 1) _ _ := Blk.ext (by exact blkT) hxb; (try simp only [List.setIfInBounds_toArray, List.set_cons_zero, List.set_cons_succ] at Kb_c2); have CKb_c2 := Kb_c2.cell; have FKb_c2 := Kb_c2.frozen))) | (go_at_call 96; refine (l1In_c _ _ _ _  ).mono ?_; rintro e wc ⟨rfl, rfl⟩))
   all_goals
    go_ret
    refine ⟨by first | rfl | (simp [storeOk, inb, Int.add_one_le_iff, *]; done) | (simp [storeOk, inb, Int.add_one_le_iff, *]; omega) | (simp_all [storeOk, inb, Int.add_one_le_iff, bq, bn]; done) | (simp_all [storeOk, inb, Int.add_one_le_iff, bq, bn]; omega), ?_⟩
    (first | exact extT | omega)

end Go.Proofs.Ythihnangjghloaa

-- Stores that fall.
set_option linter.unusedSimpArgs false
set_option linter.unusedVariables false
namespace Go.Proofs.Ythihnangjghloaa
open Go.RowKit Go.G8

section
variable {B : Nat} {w : World}
theorem OwStore.nil (B : Nat) (w : World) : OwStore B w (.agg #[.slice none 0 0, .slice none 0 0, .int .i64 0, .int .i64 0, .slice none 0 0, .slice none 0 0, .int .i64 0, .int .i64 0, .int .i64 0, .int .i64 0, .int .i64 0, .int .i64 0]) ⟨⟨[], []⟩, ⟨0, 0, [], [], ⟨0, 0, 0⟩⟩, 0, 0, 0⟩ [] :=
 ⟨_, _, _, _, [], [], rfl, OwnNs.nil _ _ _ _ _, OwnNs.nil _ _ _ _ _, OwnI.nil _ _ _ _, OwnI.nil _ _ _ _, by simp [feet, Value.ownBlock], by simp [feet, Value.ownBlock]⟩
theorem IsDisk.store {a b : Value} {d : DDisk} (h : IsDisk B w (.agg #[a, b]) d) : ∃ F, OwStore B w (.agg #[a, b, .int .i64 0, .int .i64 0, .slice none 0 0, .slice none 0 0, .int .i64 0, .int .i64 0, .int .i64 0, .int .i64 0, .int .i64 0, .int .i64 0]) ⟨d, ⟨0, 0, [], [], ⟨0, 0, 0⟩⟩, 0, 0, 0⟩ F := by
 obtain ⟨t0, t1, ss0, ss1, e, h0, h1, hd⟩ := h
 injection e with e; injection e with e; injection e with e1 e; injection e with e2 _
 subst e1; subst e2
 exact ⟨_, _, _, _, _, ss0, ss1, rfl, h0, h1, OwnI.nil _ _ _ _, OwnI.nil _ _ _ _, hd, rfl⟩
end
theorem sStoreOk_k {w : World} {v : Value} {s : DStore} (h : RdStore w v s) : Calls Try.prog 46 #[v] w (RetV w (.bool (storeOk s))) := by
 obtain ⟨t0, t1, t4, t5, rfl, h0, h1, h4, h5⟩ := h
 exact sStoreOk_c w t0 s.Disk.Kept t1 s.Disk.Wait s.State.Index s.State.Time t4 s.State.Pairs t5 s.State.Jobs s.State.Lease.Holder s.State.Lease.Epoch s.State.Lease.Until s.Num s.Last s.Busy h0 h1 h4 h5
end Go.Proofs.Ythihnangjghloaa

-- WipedSlot.
set_option linter.unusedSimpArgs false
set_option linter.unusedVariables false
namespace Go.Proofs.Ythihnangjghloaa
open Go.RowKit Go.G8

end Go.Proofs.Ythihnangjghloaa
namespace Go.G8
open Go.RowKit
theorem OwnNs.apart {B B' : Nat} {e e1 e2 e3 : TypeId} {n m : Nat} {w : World} {v v1 : Value} {rows rows1 : List NRow} {ss : List Value} (h : OwnNs B e e1 n w v rows ss) (h1 : OwnNs B' e2 e3 m w v1 rows1 []) (n1 : e2 ≠ e) (n2 : e2 ≠ e1) : ∀ k, k ∈ feet (v :: ss) → k ∈ feet [v1] → False := by
 intro k hk hk1
 simp only [feet, List.mem_filterMap] at hk1
 obtain ⟨u, hu, hf⟩ := hk1
 simp at hu; subst hu
 obtain ⟨cur, hb⟩ := Own.typed h1.2.2.1 hf
 exact h.no hb n1 n2 hk
end Go.G8
namespace Go.Proofs.Ythihnangjghloaa
open Go.RowKit Go.G8
end Go.Proofs.Ythihnangjghloaa

-- Functions of stores and disks in the words of the kinds.
set_option linter.unusedSimpArgs false
set_option linter.unusedVariables false
namespace Go.Proofs.Ythihnangjghloaa
open Go.RowKit Go.G8

theorem RdStore.disk {w : World} {s : DStore} {t0 t1 t4 t5 x2 x3 x6 x7 x8 x9 x10 x11 : Value} (h : RdStore w (.agg #[t0, t1, x2, x3, t4, t5, x6, x7, x8, x9, x10, x11]) s) : RdDisk w (.agg #[t0, t1]) s.Disk ∧ RdState w (.agg #[.int .i64 s.State.Index, .int .i64 s.State.Time, t4, t5, .int .i64 s.State.Lease.Holder, .int .i64 s.State.Lease.Epoch, .int .i64 s.State.Lease.Until]) s.State := by
 obtain ⟨u0, u1, u4, u5, e, h0, h1, h4, h5⟩ := h
 injection e with e
 injection e with e
 injection e with e0 e
 injection e with e1 e
 injection e with _ e
 injection e with _ e
 injection e with e4 e
 injection e with e5 e
 subst e0; subst e1; subst e4; subst e5
 exact ⟨⟨_, _, rfl, h0, h1⟩, ⟨_, _, rfl, h4, h5⟩⟩
theorem RdStore.wait {w : World} {v : Value} {s : DStore} (h : RdStore w v s) : ∃ a0 n0 k0 a1 k1 a4 n4 k4 a5 n5 k5, v = .agg #[.slice a0 n0 k0, .slice a1 s.Disk.Wait.length k1, .int .i64 s.State.Index, .int .i64 s.State.Time, .slice a4 n4 k4, .slice a5 n5 k5, .int .i64 s.State.Lease.Holder, .int .i64 s.State.Lease.Epoch, .int .i64 s.State.Lease.Until, .int .i64 s.Num, .int .i64 s.Last, .int .i64 s.Busy] ∧ s.Disk.Wait.length ≤ 9223372036854775807 := by
 obtain ⟨t0, t1, t4, t5, rfl, h0, h1, h4, h5⟩ := h
 obtain ⟨a0, n0, k0, rfl⟩ := h0.shape
 obtain ⟨a1, k1, rfl, hc, hm, _⟩ := Nest.writes h1
 obtain ⟨a4, n4, k4, rfl⟩ := h4.shape
 obtain ⟨a5, n5, k5, rfl⟩ := h5.shape
 unfold maxLen at hm
 exact ⟨a0, n0, k0, a1, k1, a4, n4, k4, a5, n5, k5, rfl, by omega⟩
end Go.Proofs.Ythihnangjghloaa
