/- Contracts and plain laws: KJ JS NS0 VLM NV. -/
import Derived.Test.YthihnangjghloaaSa
import Derived.Test.YthihnangjghloaaSw
import Derived.Test.YthihnangjghloaaSo
import Derived.Test.YthihnangjghloaaSk
import Derived.Test.YthihnangjghloaaSl
import Derived.Test.YthihnangjghloaaTa
import Derived.Test.YthihnangjghloaaSq
import Derived.Test.YthihnangjghloaaTv
set_option linter.unusedSimpArgs false
set_option linter.unusedVariables false
-- Messages of jobs as one thing: read, owned, marked.
set_option linter.unusedSimpArgs false
set_option linter.unusedVariables false
namespace Go.Proofs.Ythihnangjghloaa
open Go.RowKit Go.G8

def RdJobs (w : World) (v : Value) (s : DJobs) : Prop := ∃ t2 : Value, v = .agg #[.int .i64 s.Index, .int .i64 s.Time, .int .i64 s.Holder, .int .i64 s.Epoch, .int .i64 s.Until, t2] ∧ Ints 2 w t2 (dues s.Open)
def OwJobs (B : Nat) (w : World) (v : Value) (s : DJobs) (F : List Nat) : Prop := ∃ t2 : Value, v = .agg #[.int .i64 s.Index, .int .i64 s.Time, .int .i64 s.Holder, .int .i64 s.Epoch, .int .i64 s.Until, t2] ∧ OwnI B 132 2 w t2 (dues s.Open) ∧ F = feet [t2]
def MkJobs (B : Nat) (w : World) (v : Value) (s : DJobs) (F : List Nat) (q : Int) : Prop := ∃ t2 : Value, v = .agg #[.int .i64 s.Index, .int .i64 s.Time, .int .i64 s.Holder, .int .i64 s.Epoch, .int .i64 s.Until, t2] ∧ OwnI B 132 2 w t2 (run q (s.Open.length * 2)) ∧ F = feet [t2]
section
variable {B B' : Nat} {w w' : World} {v : Value} {s s' : DJobs} {F : List Nat} {q : Int}
theorem RdJobs.shape (h : RdJobs w v s) : ∃ a5 n5 k5, v = .agg #[.int .i64 s.Index, .int .i64 s.Time, .int .i64 s.Holder, .int .i64 s.Epoch, .int .i64 s.Until, .slice a5 n5 k5] := by
 obtain ⟨t2, rfl, h2⟩ := h
 obtain ⟨a2, n2, k2, rfl⟩ := h2.shape
 exact ⟨a2, n2, k2, rfl⟩
theorem RdJobs.ext (h : RdJobs w v s) (x : Ext w w') : RdJobs w' v s := let ⟨t2, e, h2⟩ := h; ⟨t2, e, h2.ext x⟩
theorem OwJobs.rd (h : OwJobs B w v s F) : RdJobs w v s := let ⟨t2, e, h2, _⟩ := h; ⟨t2, e, h2.ints⟩
theorem OwJobs.ext (h : OwJobs B w v s F) (x : Ext w w') : OwJobs B w' v s F := let ⟨t2, e, h2, hF⟩ := h; ⟨t2, e, Own.ext h2 x, hF⟩
theorem OwJobs.keep (h : OwJobs B w v s F) (x : Chg B w w') : OwJobs B w' v s F := let ⟨t2, e, h2, hF⟩ := h; ⟨t2, e, h2.keep x, hF⟩
theorem OwJobs.mono (h : OwJobs B w v s F) (x : B' ≤ B) : OwJobs B' w v s F := let ⟨t2, e, h2, hF⟩ := h; ⟨t2, e, h2.mono x, hF⟩
theorem OwJobs.upd (h : OwJobs B w v s F) {fs : List Nat} (x : Upd w w' fs) (hn : ∀ k, k ∈ F → k ∈ fs → False) : OwJobs B w' v s F := by
 obtain ⟨t2, e, h2, rfl⟩ := h
 exact ⟨t2, e, OwnI.upd' h2 x hn, rfl⟩
theorem OwJobs.box (h : OwJobs B w v s F) {X : Nat} {a : Array Value} (hX : Blk w X 32 a) (i : Nat) (u : Value) : OwJobs B (w.setCell ⟨X, i, none⟩ u) v s F := let ⟨t2, e, h2, hF⟩ := h; ⟨t2, e, h2.boxI hX (by decide) i u, hF⟩
theorem OwJobs.low (h : OwJobs B w v s F) : ∀ k, k ∈ F → B ≤ k ∧ k < w.heap.size := by
 obtain ⟨t2, e, h2, rfl⟩ := h
 exact fun k hk => h2.foot k hk
theorem MkJobs.ext (h : MkJobs B w v s F q) (x : Ext w w') : MkJobs B w' v s F q := let ⟨t2, e, h2, hF⟩ := h; ⟨t2, e, Own.ext h2 x, hF⟩
theorem MkJobs.upd (h : MkJobs B w v s F q) {fs : List Nat} (x : Upd w w' fs) (hn : ∀ k, k ∈ F → k ∈ fs → False) : MkJobs B w' v s F q := by
 obtain ⟨t2, e, h2, rfl⟩ := h
 exact ⟨t2, e, OwnI.upd' h2 x hn, rfl⟩
end

end Go.Proofs.Ythihnangjghloaa

-- JobsOf of the reference.
set_option linter.unusedSimpArgs false
set_option linter.unusedVariables false
namespace Go.Proofs.Ythihnangjghloaa
open Go.RowKit Go.G8

end Go.Proofs.Ythihnangjghloaa
namespace Go.G8
open Go.RowKit
open Go.Proofs.Ythihnangjghloaa
noncomputable def joD (s : DStore) : DJobs := if storeOk s then ⟨s.State.Index, s.State.Time, s.State.Lease.Holder, s.State.Lease.Epoch, s.State.Lease.Until, openD s.State.Jobs⟩ else ⟨0, 0, 0, 0, 0, []⟩
end Go.G8
namespace Go.Proofs.Ythihnangjghloaa
open Go.RowKit Go.G8
set_option maxHeartbeats 4000000 in
set_option maxRecDepth 100000 in
theorem sJobsOf_k {w : World} {v : Value} {s : DStore} (h : RdStore w v s) : Calls Try.prog 15 #[v] w (Ret w fun r w' => ∃ F, OwJobs w.heap.size w' r (joD s) F) := by
 have HS := Lib.hid h
 obtain ⟨ax0, nx0, kx0, ax1, nx1, kx1, ax4, nx4, kx4, ax5, nx5, kx5, rfl⟩ := h.shape
 obtain ⟨_, _, t4, t5, ev, _, _, h4, h5⟩ := h
 injection ev with ev; simp only [Array.mk.injEq, List.cons.injEq, and_true, true_and] at ev; obtain ⟨-, -, -, rfl⟩ := ev
 have H5 := Lib.hid h5; clear h4 h5
 have E0 : Ext w w := Ext.refl _
 go_enter Try.func15, Try.ntmps15
 go_wp2_with fail
 refine (sStoreOk_k (HS.out.ext (by exact extT))).mono ?_
 rintro e w1 ⟨rfl, hx1⟩
 have X1 : Ext w w1 := Ext.trans (by exact extT) hx1
 have hz1 := X1.size
 have hy1 := hx1.size; (try simp only [szA] at hy1)
 have KS1 : Blk w1 w.heap.size 47 #[.slice ax0 nx0 kx0, .slice ax1 nx1 kx1, .int .i64 s.State.Index, .int .i64 s.State.Time, .slice ax4 nx4 kx4, .slice ax5 nx5 kx5, .int .i64 s.State.Lease.Holder, .int .i64 s.State.Lease.Epoch, .int .i64 s.State.Lease.Until, .int .i64 s.Num, .int .i64 s.Last, .int .i64 s.Busy] := Blk.ext (Blk.cast (by exact blkT) setsT) hx1
 have KR1 : Blk w1 (w.heap.size + 1) 32 #[.int .i64 0, .int .i64 0, .int .i64 0, .int .i64 0, .int .i64 0, .slice none 0 0] := Blk.ext (Blk.cast (by exact blkT) setsT) hx1
 have E1 : Ext w w1 := E0.trans X1
 clear hx1 X1
 have CS1 := KS1.cell; have FS1 := KS1.frozen; have LS1 := KS1.lt
 have CR1 := KR1.cell; have FR1 := KR1.frozen; have LR1 := KR1.lt
 have ls9 := KS1.lt; have lr9 := KR1.lt
 cases hb : storeOk s
 ·
  skip
  go_wp2_with fail
  refine bodyPost_ret (by simp [results, Try.results15, go_sem, CS1, FS1, LS1, CR1, FR1, LR1]; try rfl) rfl ?_
  exact ⟨_, rfl, by exact extT, [], .slice none 0 0, by simp [joD, hb], by (simp only [joD, hb]; exact OwnI.nil _ _ _ _), rfl⟩
 ·
  skip
  have eo : joD s = ⟨s.State.Index, s.State.Time, s.State.Lease.Holder, s.State.Lease.Epoch, s.State.Lease.Until, openD s.State.Jobs⟩ := by simp [joD, hb]
  have HE := Lib.hid eo; clear eo
  go_wp2_with fail
  refine wp_region_held_drew (S := (fun w' => Ext w w' ∧ Blk w' w.heap.size 47 #[.slice ax0 nx0 kx0, .slice ax1 nx1 kx1, .int .i64 s.State.Index, .int .i64 s.State.Time, .slice ax4 nx4 kx4, .slice ax5 nx5 kx5, .int .i64 s.State.Lease.Holder, .int .i64 s.State.Lease.Epoch, .int .i64 s.State.Lease.Until, .int .i64 s.Num, .int .i64 s.Last, .int .i64 s.Busy] ∧ Blk w' w1.heap.size 43 #[.int .i64 s.State.Lease.Holder, .int .i64 s.State.Lease.Epoch, .int .i64 s.State.Lease.Until])) (by kernel_rfl) (by (try dsimp only); exact ⟨by exact extT, Blk.cast (by exact blkT) setsT, Blk.cast (by exact blkT) setsT⟩) (fun hHeld => ?_)
  refine wpAnyH_take (i := 0) (v := ?_) rfl (by kernel_rfl) (by kernel_rfl) (by kernel_rfl) (fun _ _ _ h => h) (Or.inl ⟨by rfl, ?_⟩) (by assumption) ?_
  rotate_left
  focus (intro w hSw; (try dsimp only at hSw); go_simp <;> with_reducible rfl)
  (try simp only [redA, Act.put])
  refine wpAnyH_take (i := 1) (v := ?_) rfl (by kernel_rfl) (by kernel_rfl) (by kernel_rfl) (fun _ _ _ h => h) (Or.inl ⟨by rfl, ?_⟩) (by assumption) ?_
  rotate_left
  focus (intro w hSw; (try dsimp only at hSw); go_simp <;> with_reducible rfl)
  (try simp only [redA, Act.put])
  refine wpAnyH_take (i := 2) (v := ?_) rfl (by kernel_rfl) (by kernel_rfl) (by kernel_rfl) (fun _ _ _ h => h) (Or.inl ⟨by rfl, ?_⟩) (by assumption) ?_
  rotate_left
  focus (intro w hSw; (try dsimp only at hSw); have hq := hSw.2.1.cell; have hq2 := hSw.2.1.lt; go_simp <;> with_reducible rfl)
  (try simp only [redA, Act.put])
  refine wpAnyH_take (i := 3) (v := ?_) rfl (by kernel_rfl) (by kernel_rfl) (by kernel_rfl) (fun _ _ _ h => h) (Or.inl ⟨by rfl, ?_⟩) (by assumption) ?_
  rotate_left
  focus (intro w hSw; (try dsimp only at hSw); go_simp <;> with_reducible rfl)
  (try simp only [redA, Act.put])
  refine wpAnyH_take (i := 4) (v := ?_) rfl (by kernel_rfl) (by kernel_rfl) (by kernel_rfl) (fun _ _ _ h => h) (Or.inl ⟨by rfl, ?_⟩) (by assumption) ?_
  rotate_left
  focus (intro w hSw; (try dsimp only at hSw); go_simp <;> with_reducible rfl)
  (try simp only [redA, Act.put])
  refine wpAnyH_take (i := 5) (v := ?_) rfl (by kernel_rfl) (by kernel_rfl) (by kernel_rfl) (fun _ _ _ h => h) (Or.inl ⟨by rfl, ?_⟩) (by assumption) ?_
  rotate_left
  focus (intro w hSw; (try dsimp only at hSw); have hq := hSw.2.1.cell; have hq2 := hSw.2.1.lt; go_simp <;> with_reducible rfl)
  (try simp only [redA, Act.put])
  refine wpAnyH_take (i := 6) (v := ?_) rfl (by kernel_rfl) (by kernel_rfl) (by kernel_rfl) (fun _ _ _ h => h) (Or.inl ⟨by rfl, ?_⟩) (by assumption) ?_
  rotate_left
  focus (intro w hSw; (try dsimp only at hSw); go_simp <;> with_reducible rfl)
  (try simp only [redA, Act.put])
  refine wpAnyH_take (i := 7) (v := ?_) rfl (by kernel_rfl) (by kernel_rfl) (by kernel_rfl) (fun _ _ _ h => h) (Or.inl ⟨by rfl, ?_⟩) (by assumption) ?_
  rotate_left
  focus (intro w hSw; (try dsimp only at hSw); have hq := hSw.2.2.cell; have hq2 := hSw.2.2.lt; go_simp <;> with_reducible rfl)
  (try simp only [redA, Act.put])
  refine wpAnyH_take (i := 8) (v := ?_) rfl (by kernel_rfl) (by kernel_rfl) (by kernel_rfl) (fun _ _ _ h => h) (Or.inl ⟨by rfl, ?_⟩) (by assumption) ?_
  rotate_left
  focus (intro w hSw; (try dsimp only at hSw); go_simp <;> with_reducible rfl)
  (try simp only [redA, Act.put])
  refine wpAnyH_take (i := 9) (v := ?_) rfl (by kernel_rfl) (by kernel_rfl) (by kernel_rfl) (fun _ _ _ h => h) (Or.inl ⟨by rfl, ?_⟩) (by assumption) ?_
  rotate_left
  focus (intro w hSw; (try dsimp only at hSw); have hq := hSw.2.2.cell; have hq2 := hSw.2.2.lt; go_simp <;> with_reducible rfl)
  (try simp only [redA, Act.put])
  refine wpAnyH_take (i := 10) (v := ?_) rfl (by kernel_rfl) (by kernel_rfl) (by kernel_rfl) (fun _ _ _ h => h) (Or.inl ⟨by rfl, ?_⟩) (by assumption) ?_
  rotate_left
  focus (intro w hSw; (try dsimp only at hSw); go_simp <;> with_reducible rfl)
  (try simp only [redA, Act.put])
  refine wpAnyH_take (i := 11) (v := ?_) rfl (by kernel_rfl) (by kernel_rfl) (by kernel_rfl) (fun _ _ _ h => h) (Or.inl ⟨by rfl, ?_⟩) (by assumption) ?_
  rotate_left
  focus (intro w hSw; (try dsimp only at hSw); have hq := hSw.2.2.cell; have hq2 := hSw.2.2.lt; go_simp <;> with_reducible rfl)
  (try simp only [redA, Act.put])
  refine wpAnyH_take (i := 12) (v := ?_) rfl (by kernel_rfl) (by kernel_rfl) (by kernel_rfl) (fun _ _ _ h => h) (Or.inl ⟨by rfl, ?_⟩) (by assumption) ?_
  rotate_left
  focus (intro w hSw; (try dsimp only at hSw); go_simp <;> with_reducible rfl)
  (try simp only [redA, Act.put])
  refine wpAnyH_take (i := 13) (v := ?_) rfl (by kernel_rfl) (by kernel_rfl) (by kernel_rfl) (fun _ _ _ h => h) (Or.inl ⟨by rfl, ?_⟩) (by assumption) ?_
  rotate_left
  focus (intro w hSw; (try dsimp only at hSw); go_simp <;> with_reducible rfl)
  (try simp only [redA, Act.put])
  refine wpAnyH_take (i := 14) (v := ?_) rfl (by kernel_rfl) (by kernel_rfl) (by kernel_rfl) (fun _ _ _ h => h) (Or.inl ⟨by rfl, ?_⟩) (by assumption) ?_
  rotate_left
  focus (intro w hSw; (try dsimp only at hSw); have hq := hSw.2.1.cell; have hq2 := hSw.2.1.lt; go_simp <;> with_reducible rfl)
  (try simp only [redA, Act.put])
  refine wpAnyH_ready (rs := [15]) (by kernel_rfl) (by simp) ?_
  refine AllReadyH.cons rfl (fun Kz hKz => ?_) AllReadyH.nil
  (try simp only [redA])
  go_simp
  go_at_call 47
  refine (sOpenJobs_k _ _ _ (H5.out.ext (by exact extT))).mono ?_
  rintro e w2 ⟨_, rfl, hx2, Og⟩
  have KL2 : Blk w2 w1.heap.size 43 #[.int .i64 s.State.Lease.Holder, .int .i64 s.State.Lease.Epoch, .int .i64 s.State.Lease.Until] := Blk.ext (Blk.cast (by exact blkT) setsT) hx2
  have X2 : Ext w1 w2 := Ext.trans (by exact extT) hx2; have hz2 := hx2.size; (try simp only [szA] at hz2)
  have KR2 := KR1.ext X2; have KS2 := KS1.ext X2
  clear hx2 CS1 FS1 LS1 CR1 FR1 LR1
  have CR2 := KR2.cell; have FR2 := KR2.frozen; have LR2 := KR2.lt
  replace Og := OwnI.mono (B' := w.heap.size + 2) Og (by first | omega | (simp only [szA]; omega))
  obtain ⟨ag, ng, kg, rfl⟩ := Og.shape
  refine hKz.out _ _ (by (try dsimp only); exact ⟨by exact extT, Blk.cast (by exact blkT) setsT, Blk.cast (by exact blkT) setsT⟩) (fun hHeld => ?_)
  clear hKz Kz
  (try simp only [redA, Act.put])
  refine wpAnyH_take (i := 16) (v := ?_) rfl (by kernel_rfl) (by kernel_rfl) (by kernel_rfl) (fun _ _ _ h => h) (Or.inl ⟨by rfl, ?_⟩) (by assumption) ?_
  rotate_left
  focus (intro w hSw; (try dsimp only at hSw); go_simp <;> with_reducible rfl)
  (try simp only [redA, Act.put])
  refine wpAnyH_ready (rs := [17]) (by kernel_rfl) (by simp) ?_
  refine AllReadyH.cons rfl (fun Kz hKz => ?_) AllReadyH.nil
  (try simp only [redA])
  go_simp
  refine hKz.out _ _ (by (try dsimp only); exact ⟨by exact extT, Blk.cast (by exact blkT) setsT, Blk.cast (by exact blkT) setsT⟩) (fun hHeld => ?_)
  clear hKz Kz
  (try simp only [redA, Act.put])
  refine wpAnyH_done (by kernel_rfl) ?_ _
  go_wp2_with fail
  refine bodyPost_ret (by simp [results, Try.results15, go_sem, CR2, FR2, LR2]; try rfl) rfl ?_
  rw [HE.out]
  exact ⟨_, rfl, by exact extT, _, _, rfl, (OwnI.mono (Own.keep Og (by repeat' (first | (with_reducible exact Chg.refl _ _) | (with_reducible refine Chg.drewN ?_ _) | (with_reducible refine Chg.drew ?_) | (with_reducible refine Chg.alloc ?_ _) | (with_reducible refine Chg.setLow ?_ (by omega) _) | (with_reducible refine Chg.setNew ?_ (by omega) _) | (with_reducible refine Chg.setRow ?_ (by omega) _) | (with_reducible refine Chg.ext ?_ (by assumption)) | omega))) (by omega)), rfl⟩

end Go.Proofs.Ythihnangjghloaa

-- A new store.
set_option linter.unusedSimpArgs false
set_option linter.unusedVariables false
namespace Go.Proofs.Ythihnangjghloaa
open Go.RowKit Go.G8

theorem sNewStore_n (w : World) : Calls Try.prog 12 #[] w (Ret w fun v w' => ∃ t0 t1, v = .agg #[t0, t1, .int .i64 0, .int .i64 0, .slice none 0 0, .slice none 0 0, .int .i64 0, .int .i64 0, .int .i64 0, .int .i64 0, .int .i64 0, .int .i64 0] ∧ IsDisk w.heap.size w' (.agg #[t0, t1]) (newDisk 8)) := by
 refine (sNewStore_c w).mono ?_
 rintro e w' ⟨v, rfl, hx, t0, t1, s0, s1, rfl, h0, h1, hd⟩
 exact ⟨_, rfl, hx, t0, t1, rfl, t0, t1, s0, s1, rfl, h0, h1, hd⟩

end Go.Proofs.Ythihnangjghloaa

-- Views of messages, without the program.
set_option linter.unusedSimpArgs false
set_option linter.unusedVariables false
namespace Go.Proofs.Ythihnangjghloaa
open Go.RowKit Go.G8

end Go.Proofs.Ythihnangjghloaa
namespace Go.G8
open Go.RowKit
open Go.Proofs.Ythihnangjghloaa
theorem openOk_openD {l : List DJob} (h : jobsOk l = true) : openOk (openD l) = true := by
 obtain ⟨hs, hp⟩ := openD_sorted h
 have hj := jobsOk_iff.1 h
 have hmem : ∀ d, d ∈ openD l → ∃ j, j ∈ l ∧ d = ⟨j.Id, j.Due⟩ := by
  intro d hd
  have := hp.mem_iff.1 hd
  simp only [opens, List.mem_map, List.mem_filter] at this
  obtain ⟨j, ⟨h1, -⟩, rfl⟩ := this
  exact ⟨j, h1, rfl⟩
 have hne : (openD l).Pairwise (fun a b => a.Id ≠ b.Id) := by
  refine (hp.pairwise_iff (fun {a b} (hab : a.Id ≠ b.Id) => hab.symm)).2 ?_
  exact (opens_srt h).imp (fun {a b} hab => by omega)
 refine openOk_iff.2 ⟨openD_len l, fun i hi d hd => ?_⟩
 obtain ⟨j, hjm, rfl⟩ := hmem d (List.mem_of_getElem? hd)
 obtain ⟨q, hq⟩ := List.mem_iff_getElem?.1 hjm
 have hql : q < l.length := (List.getElem?_eq_some_iff.1 hq).1
 have hok := (hj.2 q hql j hq).1
 simp only [jobOk, Bool.and_eq_true] at hok
 refine ⟨hok.1, hok.2.1, fun e h0 he => hs.get (by omega) he hd, fun k e hk he => ?_⟩
 obtain ⟨hk1, hk2⟩ := List.getElem?_eq_some_iff.1 he
 obtain ⟨hi1, hi2⟩ := List.getElem?_eq_some_iff.1 hd
 have := List.pairwise_iff_getElem.1 hne k i hk1 hi1 hk
 rw [hk2, hi2] at this
 exact this
/-- The message of a new store with state s. -/
noncomputable def jN (s : DState) : DJobs := joD ⟨newDisk 8, s, 0, 0, 0⟩
theorem storeN_ok {s : DState} (h : stateOk s = true) : storeOk ⟨newDisk 8, s, 0, 0, 0⟩ = true := by
 have hi := stateOk_index h
 have hd : shelfOk (newDisk 8) = true := by decide
 have hi2 : inb 0 0 s.Index = true := inb_of (by omega) (by omega)
 have h3 : inb 0 0 1000000000 = true := by decide
 unfold storeOk
 simp [hd, h, h3, hi2]
theorem jN_eq {s : DState} (h : stateOk s = true) : jN s = ⟨s.Index, s.Time, s.Lease.Holder, s.Lease.Epoch, s.Lease.Until, openD s.Jobs⟩ := by
 unfold jN joD
 rw [if_pos (storeN_ok h)]
theorem jN_ok {s : DState} (h : stateOk s = true) : jobsOk2 (jN s) = true := by
 rw [jN_eq h]
 have hi := stateOk_index h
 have hp := stateOk_parts h
 have ho : openOk (openD s.Jobs) = true := openOk_openD hp.2.2.2.2.1
 simp only [jobsOk2, Bool.and_eq_true]
 obtain ⟨-, -, h3, -, -, h6, -⟩ := hp
 simp only [leaseOk, leaseZ, Bool.or_eq_true, Bool.and_eq_true, decide_eq_true_eq] at h6
 rcases h6 with ⟨e1, e2, e3⟩ | ⟨e1, e2, e3⟩
 ·
  rw [e1, e2, e3]
  exact ⟨inb_of hi.1 hi.2, h3, by decide, by decide, by decide, ho⟩
 ·
  have e2 := inb_true.1 e2; have e3 := inb_true.1 e3
  exact ⟨inb_of hi.1 hi.2, h3, by rw [e1]; simp, inb_of (by omega) e2.2, inb_of (by omega) e3.2, ho⟩
theorem jN_index {s : DState} (h : stateOk s = true) : (jN s).Index = s.Index := by rw [jN_eq h]
theorem jN_zero : jN (⟨0, 0, [], [], ⟨0, 0, 0⟩⟩ : DState) = ⟨0, 0, 0, 0, 0, []⟩ := by
 have h0 : stateOk (⟨0, 0, [], [], ⟨0, 0, 0⟩⟩ : DState) = true := z0_ok
 rw [jN_eq h0]
 have : openD [] = [] := List.eq_nil_of_length_eq_zero (by
  unfold openD opens
  split <;> rfl)
 simp only [this]
theorem heard_keep {s t : DState} (hs : stateOk s = true) (ht : stateOk t = true) (h : t.Index < s.Index) : heardJobs (jN s) (jN t) = jN s := by
 unfold heardJobs
 rw [if_pos (jN_ok hs), jN_ok ht, jN_index hs, jN_index ht]
 simp [h]
theorem heard_take {s t : DState} (hs : stateOk s = true) (ht : stateOk t = true) (h : s.Index ≤ t.Index) : heardJobs (jN s) (jN t) = jN t := by
 unfold heardJobs
 rw [if_pos (jN_ok hs), jN_ok ht, jN_index hs, jN_index ht]
 have : ¬ t.Index < s.Index := by omega
 simp [this]
end Go.G8
namespace Go.Proofs.Ythihnangjghloaa
open Go.RowKit Go.G8

end Go.Proofs.Ythihnangjghloaa

-- NewView; views of lists of entries.
set_option linter.unusedSimpArgs false
set_option linter.unusedVariables false
namespace Go.Proofs.Ythihnangjghloaa
open Go.RowKit Go.G8

set_option maxHeartbeats 4000000 in
set_option maxRecDepth 100000 in
theorem newView_k (w : World) : Calls Try.prog 11 #[] w (RetV w (.agg #[.int .i64 0, .int .i64 0, .int .i64 0, .int .i64 0, .int .i64 0, .slice none 0 0])) := by
 go_enter Try.func11, Try.ntmps11
 go_wp2_with fail
 refine bodyPost_ret (by simp [results, Try.results11, go_sem]; try rfl) rfl ?_
 exact ⟨rfl, by exact extT⟩
noncomputable def jV (l : List DEntry) (k : Nat) : DJobs := jN (fldD (⟨0, 0, [], [], ⟨0, 0, 0⟩⟩ : DState) (l.take k))
theorem jV_zero (l : List DEntry) : jV l 0 = ⟨0, 0, 0, 0, 0, []⟩ := by
 have h : fldD (⟨0, 0, [], [], ⟨0, 0, 0⟩⟩ : DState) (l.take 0) = (⟨0, 0, [], [], ⟨0, 0, 0⟩⟩ : DState) := by
  rw [List.take_zero]
  exact (fld_yes (b := true) z0_ok (by simp) (by simp [foldS])).2
 unfold jV; rw [h]; exact jN_zero
section
variable {l : List DEntry} {m : DState} (h : foldS (⟨0, 0, [], [], ⟨0, 0, 0⟩⟩ : DState) l = (m, true)) (hl : l.length ≤ 2000)
include h hl
theorem jV_ok {k : Nat} (hk : k ≤ l.length) : jobsOk2 (jV l k) = true := jN_ok (fld_take h hl hk).1
theorem jV_index {k : Nat} (hk : k ≤ l.length) : (jV l k).Index = (k : Int) := by
 obtain ⟨h1, h2⟩ := fld_take h hl hk
 unfold jV; rw [jN_index h1, h2]
theorem jV_keep {k K : Nat} (hk : k ≤ l.length) (hK : K ≤ l.length) (hlt : K < k) : heardJobs (jV l k) (jV l K) = jV l k := by
 obtain ⟨h1, h2⟩ := fld_take h hl hk; obtain ⟨h3, h4⟩ := fld_take h hl hK
 exact heard_keep h1 h3 (by rw [h2, h4]; omega)
theorem jV_take {k K : Nat} (hk : k ≤ l.length) (hK : K ≤ l.length) (hle : k ≤ K) : heardJobs (jV l k) (jV l K) = jV l K := by
 obtain ⟨h1, h2⟩ := fld_take h hl hk; obtain ⟨h3, h4⟩ := fld_take h hl hK
 exact heard_take h1 h3 (by rw [h2, h4]; omega)
theorem jV_fresh {k : Nat} (hk : k ≤ l.length) : staleIn ⟨jV l k⟩ (k : Int) = false ∧ staleIn ⟨jV l k⟩ ((k : Int) + 1) = true := by
 have h1 := jV_ok h hl hk; have h2 := jV_index h hl hk
 unfold staleIn
 simp only [h1, h2]
 constructor
 ·
  simp
 ·
  simp; omega
end

end Go.Proofs.Ythihnangjghloaa
