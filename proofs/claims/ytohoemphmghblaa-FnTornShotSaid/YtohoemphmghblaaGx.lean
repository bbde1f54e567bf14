/- Contracts and plain laws: DI W6 Fo Fo2 W7 W8. -/
import Derived.Test.YtohoemphmghblaaGo
import Derived.Deep.DeepCutAuto
import Derived.Deep.CutBlock
import Derived.Test.YtohoemphmghblaaGp
import Derived.Test.YtohoemphmghblaaGk
import Derived.Test.YtohoemphmghblaaGq
import Derived.Test.YtohoemphmghblaaGu
-- The dice of the laws.
set_option linter.unusedSimpArgs false
set_option linter.unusedVariables false
namespace Go.Proofs.Ytohoemphmghblaa
open Go.RowKit Go.G8

end Go.Proofs.Ytohoemphmghblaa
namespace Go.G8
open Go.RowKit
theorem bits_24 (x : Int) : 0 ≤ bits .and .u64 x 16777215 ∧ bits .and .u64 x 16777215 ≤ 16777215 := by
  have h : (BitVec.ofInt 64 x &&& BitVec.ofInt 64 16777215).toNat ≤ 16777215 := by
    rw [BitVec.toNat_and]
    exact Nat.and_le_right
  have e : bits .and .u64 x 16777215 = IntKind.u64.wrap ((BitVec.ofInt 64 x &&& BitVec.ofInt 64 16777215).toNat : Int) := rfl
  rw [e, IntKind.wrap_u64] <;> omega
theorem tmod24 (x y m : Int) (hm : 0 < m) (h0 : 0 ≤ y) (h1 : y ≤ 255) : 0 ≤ (RowKit.wrap64 (RowKit.wrap64 (bits .and .u64 x 16777215) + y)).tmod m ∧ (RowKit.wrap64 (RowKit.wrap64 (bits .and .u64 x 16777215) + y)).tmod m < m := by
  obtain ⟨b0, b1⟩ := bits_24 x
  rw [IntWalk.wrap64_in (bits .and .u64 x 16777215) (by omega), IntWalk.wrap64_in _ (by omega)]
  exact ⟨Int.tmod_nonneg _ (by omega), Int.tmod_lt_of_pos _ hm⟩
theorem tmod24' (x m : Int) (hm : 0 < m) : 0 ≤ (RowKit.wrap64 (bits .and .u64 x 16777215)).tmod m ∧ (RowKit.wrap64 (bits .and .u64 x 16777215)).tmod m < m := by
  obtain ⟨b0, b1⟩ := bits_24 x
  rw [IntWalk.wrap64_in (bits .and .u64 x 16777215) (by omega)]
  exact ⟨Int.tmod_nonneg _ (by omega), Int.tmod_lt_of_pos _ hm⟩
end Go.G8
namespace Go.Proofs.Ytohoemphmghblaa
open Go.RowKit Go.G8
/-- The dice of a law lies at block g; its bytes below block B. -/
def Die (B : Nat) (w : World) (g : Nat) : Prop := ∃ (a : Option Addr) (n k i : Nat) (h : Int), Blk w g 53 #[.slice a n k, .int .i64 i, .int .u64 h] ∧ B ≤ g ∧ i ≤ n ∧ n ≤ k ∧ k ≤ maxLen ∧
  ∀ j, j < n → ∃ b off x, a = some ⟨b, off, none⟩ ∧ b < B ∧ 0 ≤ x ∧ x ≤ 255 ∧ w.cell? ⟨b, off + j, none⟩ = some (.int .u8 x)
theorem Die.lt {B : Nat} {w : World} {g : Nat} (h : Die B w g) : B ≤ g ∧ g < w.heap.size := let ⟨_, _, _, _, _, hk, hB, _⟩ := h; ⟨hB, hk.lt⟩
theorem Die.upd {B : Nat} {w w' : World} {g : Nat} {fs : List Nat} (h : Die B w g) (x : Upd w w' fs) (hg : g ∉ fs) (hB : ∀ k, k ∈ fs → B ≤ k) : Die B w' g := by
  obtain ⟨a, n, k, i, e, hk, h0, h1, h2, h3, h4⟩ := h
  refine ⟨a, n, k, i, e, hk.upd x hg, h0, h1, h2, h3, fun j hj => ?_⟩
  obtain ⟨b, off, y, h5, h6, h7, h8, h9⟩ := h4 j hj
  have := hk.lt
  exact ⟨b, off, y, h5, h6, h7, h8, (x.cell (by omega) (fun hm => by have := hB b hm; omega)).trans h9⟩
theorem Die.ext {B : Nat} {w w' : World} {g : Nat} (h : Die B w g) (x : Ext w w') : Die B w' g := h.upd (x.upd []) (by simp) (by simp)
theorem Die.set_ {B : Nat} {w : World} {g : Nat} (h : Die B w g) {X : Nat} (hX : g < X) (o : Nat) (u : Value) : Die B (w.setCell ⟨X, o, none⟩ u) g :=
  h.upd ((Upd.refl w [X]).setOne o u) (by simp; omega) (fun k hk => by have := h.lt; simp at hk; omega)
theorem Die.row {B : Nat} {w : World} {g : Nat} (h : Die B w g) {X : Nat} (hX : g < X) (cs : Array Value) : Die B (w.setRow X cs) g :=
  h.upd (fs := [X]) ⟨rfl, rfl, rfl, by rw [size_setRow]; exact Nat.le_refl _, fun k _ hn => heap_setRow_ne w cs (fun e => hn (by simp [e]))⟩ (by simp; omega) (fun k hk => by have := h.lt; simp at hk; omega)
theorem Die.of {B : Nat} {w w' : World} {g n k i' : Nat} {a : Option Addr} {h' : Int} (X : Upd w w' [g]) (hg : g < w.heap.size) (K : Blk w' g 53 #[.slice a n k, .int .i64 i', .int .u64 h']) (h0 : B ≤ g) (h1 : i' ≤ n) (h2 : n ≤ k) (h3 : k ≤ 9223372036854775807)
    (h4 : ∀ j, j < n → ∃ b off x, a = some ⟨b, off, none⟩ ∧ b < B ∧ 0 ≤ x ∧ x ≤ 255 ∧ w.cell? ⟨b, off + j, none⟩ = some (.int .u8 x)) : Die B w' g := by
  refine ⟨a, n, k, i', h', K, h0, h1, h2, by unfold maxLen; omega, fun j hj => ?_⟩
  obtain ⟨b, off, y, h5, h6, h7, h8, h9⟩ := h4 j hj
  exact ⟨b, off, y, h5, h6, h7, h8, (X.cell (by omega) (by simp; omega)).trans h9⟩
theorem dieT {B : Nat} {w : World} {g : Nat} (h : Die B w g := by ((repeat' (first | (with_reducible assumption) | (with_reducible refine Die.set_ ?_ ?_ _ _) | (with_reducible refine Die.row ?_ ?_ _) | (with_reducible refine Die.ext ?_ (Ext.drewN (Ext.refl _) _)) | (with_reducible refine Die.ext ?_ (Ext.drew (Ext.refl _))) | (with_reducible refine Die.ext ?_ (Ext.alloc (Ext.refl _) _)) | omega)); first | done | fail)) : Die B w g := h
/-- A draw: it hands back a value of which Q holds; the cursor's block and new ones are written. -/
def Dd (B : Nat) (w : World) (g : Nat) (Q : Value → World → Prop) (e : Ending) (w' : World) : Prop := ∃ v, e = .returned v ∧ Upd w w' [g] ∧ Die B w' g ∧ Q v w'
section
variable {B : Nat} {w : World} {g : Nat}
theorem Die.app {B0 B g n : Nat} {e : TypeId} {w w' : World} {v : Value} {cs : List Value} (h : Die B0 w g) (ho : Own B e n w v cs) (hB : g < B) (hg : w.grownBy w' v.ownBlock) : Die B0 w' g :=
  h.upd (Upd.app (Upd.refl w _) ho (fs := feet [v]) (.inl fun _ h => h) hg) (fun hm => by have := ho.footB hm; omega) (fun k hk => by have := ho.footB hk; have := h.lt; omega)
set_option maxHeartbeats 4000000 in
set_option maxRecDepth 100000 in
theorem below_c (h : Die B w g) (m : Int) (hm : 0 < m) : Calls Try.prog 7 #[.pointer (some ⟨g, 0, none⟩), .int .i64 m] w (Dd B w g fun v _ => ∃ x : Int, v = .int .i64 x ∧ 0 ≤ x ∧ x < m) := by
  have hm0 : m ≠ 0 := by omega
  have hmz : (m == 0) = false := by simp [hm0]
  have HC := Lib.hid h
  obtain ⟨a, n, k, i, e, hk, h0, h1, h2, h3, h4⟩ := h
  unfold maxLen at h3
  have CK := hk.cell; have FK := hk.frozen; have LK := hk.lt
  have HK := Lib.hid hk
  clear hk
  by_cases hi : i < n
  · obtain ⟨b, off, y, rfl, hb, y0, y1, hy⟩ := h4 i hi
    have H4 := Lib.hid h4
    clear h4
    have hbg : b ≠ g := by omega
    have hbl : b < w.heap.size := by omega
    have hyb : decide ((i : Int) < (n : Int)) = true := by simp; omega
    go_enter Try.func7, Try.ntmps7
    go_wp2_with fail
    go_quiet (fail)
    go_wp2_with fail
    go_quiet (fail)
    go_wp2_with fail
    go_ret
    refine ⟨_, rfl, ?_, ?_, _, rfl, ?_, ?_⟩
    · exact updT
    · refine Die.of (w := w) (i' := i + 1) ?_ LK (by refine Blk.cast (by repeat' (first | (with_reducible exact HK.out) | (with_reducible apply Blk.drewN) | (with_reducible apply Blk.set_))) (by simp; rfl)) h0 (by omega) h2 (by omega) H4.out
      exact updT
    · exact (tmod24 _ _ _ hm y0 y1).1
    · exact (tmod24 _ _ _ hm y0 y1).2
  · have hyb : decide ((i : Int) < (n : Int)) = false := by simp; omega
    go_enter Try.func7, Try.ntmps7
    go_wp2_with fail
    go_quiet (fail)
    go_wp2_with fail
    go_ret
    refine ⟨_, rfl, ?_, ?_, _, rfl, ?_, ?_⟩
    · exact updT
    · refine Die.of (w := w) (i' := i) ?_ LK (by refine Blk.cast (by repeat' (first | (with_reducible exact HK.out) | (with_reducible apply Blk.drewN) | (with_reducible apply Blk.set_))) (by simp; rfl)) h0 (by omega) h2 (by omega) h4
      exact updT
    · exact (tmod24' _ _ hm).1
    · exact (tmod24' _ _ hm).2
end

end Go.Proofs.Ytohoemphmghblaa

-- Entries drawn by dice.
set_option linter.unusedSimpArgs false
set_option linter.unusedVariables false
namespace Go.Proofs.Ytohoemphmghblaa
open Go.RowKit Go.G8

set_option maxHeartbeats 4000000 in
set_option maxRecDepth 100000 in
theorem w6Next_c {B : Nat} {w : World} {g : Nat} (h : Die B w g) {M : Nat} (hM : g < M) {t : Value} {s : DState} (hs : IsState M w t s) (hok : stateOk s = true) : Calls Try.prog 16 #[.pointer (some ⟨g, 0, none⟩), t] w (Dd B w g fun v w' => ∃ ei et ec es ok oa ob oc od : Int, v = .agg #[.int .i64 ei, .int .i64 et, .int .i64 ec, .int .i64 es, .int .i64 ok, .int .i64 oa, .int .i64 ob, .int .i64 oc, .int .i64 od] ∧ 0 ≤ ec ∧ ec < 6) := by
  obtain ⟨t2, t3, rfl, h2, h3⟩ := hs
  obtain ⟨a2, n2, k2, rfl⟩ := h2.shape
  obtain ⟨a3, n3, k3, rfl⟩ := h3.shape
  have Op0 := h2; have Oj0 := h3; clear h2 h3
  have hHo : 0 ≤ s.Lease.Holder ∧ s.Lease.Holder ≤ 3 := by
    have hl := (stateOk_parts hok).2.2.2.2.2.1
    simp only [leaseOk, leaseZ, schedOk, Bool.or_eq_true, Bool.and_eq_true, decide_eq_true_eq, beq_iff_eq, inb_true] at hl
    omega
  clear hok
  have hc0 := h; have E0 : Upd w w [g] := Upd.refl _ _
  have hg0 := h.lt
  go_enter Try.func16, Try.ntmps16
  go_wp2_with fail
  refine (below_c (show Die B _ g from by exact dieT) 4 (by omega)).mono ?_
  rintro e w1 ⟨_, rfl, X1, hc1, x0, rfl, px0, qx0⟩
  have hz1 := X1.size; (try simp only [World.size_alloc, World.size_setCell, size_setRow, size_drew] at hz1)
  have E1 : Upd w w1 [g] := Upd.trans (by exact updT) X1
  have KS1 : Blk w1 w.heap.size 35 #[.int .i64 s.Index, .int .i64 s.Time, .slice a2 n2 k2, .slice a3 n3 k3, .int .i64 s.Lease.Holder, .int .i64 s.Lease.Epoch, .int .i64 s.Lease.Until] := Blk.upd1 (Blk.cast (by exact blkT) (by first | rfl | simp)) X1 (by omega)
  have KR1 : Blk w1 (w.heap.size + 1) 58 #[.int .i64 0, .int .i64 0, .int .i64 0, .int .i64 0, .int .i64 0, .int .i64 0, .int .i64 0, .int .i64 0, .int .i64 0] := Blk.upd1 (Blk.cast (by exact blkT) (by first | rfl | simp)) X1 (by omega)
  have Op1 : OwnI M 111 2 w1 (.slice a2 n2 k2) (flPair s.Pairs) := OwnI.drawn (by exact ownT) X1 (by omega)
  have Oj1 : OwnI M 92 5 w1 (.slice a3 n3 k3) (flJob s.Jobs) := OwnI.drawn (by exact ownT) X1 (by omega)
  clear X1
  have CS1 := KS1.cell; have FS1 := KS1.frozen; have LS1 := KS1.lt
  have CR1 := KR1.cell; have FR1 := KR1.frozen; have LR1 := KR1.lt
  go_upto_region 2 with (fail)
  go_cut [6] (fun cx0 wx => ∃ gg : Nat, ∃ x1 : Int, cx0 = .pointer (some ⟨gg, 0, none⟩) ∧ w1.heap.size ≤ gg ∧ Blk wx gg 56 #[.int .i64 4, .int .i64 x1, .int .i64 s.Lease.Epoch, .int .i64 0, .int .i64 0] ∧ Upd w wx [g] ∧ Die B wx g ∧ Blk wx w.heap.size 35 #[.int .i64 s.Index, .int .i64 s.Time, .slice a2 n2 k2, .slice a3 n3 k3, .int .i64 s.Lease.Holder, .int .i64 s.Lease.Epoch, .int .i64 s.Lease.Until] ∧ Blk wx (w.heap.size + 1) 58 #[.int .i64 0, .int .i64 0, .int .i64 0, .int .i64 0, .int .i64 0, .int .i64 0, .int .i64 0, .int .i64 0, .int .i64 0] ∧ OwnI M 111 2 wx (.slice a2 n2 k2) (flPair s.Pairs) ∧ OwnI M 92 5 wx (.slice a3 n3 k3) (flJob s.Jobs))
  case first =>
    refine wp_region_held_drew (S := fun w' => Upd w w' [g] ∧ Die B w' g ∧ Blk w' w.heap.size 35 #[.int .i64 s.Index, .int .i64 s.Time, .slice a2 n2 k2, .slice a3 n3 k3, .int .i64 s.Lease.Holder, .int .i64 s.Lease.Epoch, .int .i64 s.Lease.Until]) (by kernel_rfl) (by (try dsimp only); exact ⟨(by exact updT), (by exact dieT), (Blk.cast (by exact blkT) setsT)⟩) (fun hHeld => ?_)
    refine wpAnyH_take (i := 0) (v := ?_) rfl (by kernel_rfl) (by kernel_rfl) (by kernel_rfl) (fun _ _ _ h => h) (Or.inl ⟨by rfl, ?_⟩) (by assumption) ?_
    rotate_left
    focus (intro w hSw; (try dsimp only at hSw); go_simp <;> with_reducible rfl)
    (try simp only [List.getElem_toArray, List.getElem_cons_zero, List.getElem_cons_succ, Act.put, List.setIfInBounds_toArray, List.set_cons_zero, List.set_cons_succ])
    refine wpAnyH_take (i := 3) (v := ?_) rfl (by kernel_rfl) (by kernel_rfl) (by kernel_rfl) (fun _ _ _ h => h) (Or.inl ⟨by rfl, ?_⟩) (by assumption) ?_
    rotate_left
    focus (intro w hSw; (try dsimp only at hSw); go_simp <;> with_reducible rfl)
    (try simp only [List.getElem_toArray, List.getElem_cons_zero, List.getElem_cons_succ, Act.put, List.setIfInBounds_toArray, List.set_cons_zero, List.set_cons_succ])
    refine wpAnyH_take (i := 4) (v := ?_) rfl (by kernel_rfl) (by kernel_rfl) (by kernel_rfl) (fun _ _ _ h => h) (Or.inl ⟨by rfl, ?_⟩) (by assumption) ?_
    rotate_left
    focus (intro w hSw; (try dsimp only at hSw); go_simp <;> with_reducible rfl)
    (try simp only [List.getElem_toArray, List.getElem_cons_zero, List.getElem_cons_succ, Act.put, List.setIfInBounds_toArray, List.set_cons_zero, List.set_cons_succ])
    refine wpAnyH_take (i := 5) (v := ?_) rfl (by kernel_rfl) (by kernel_rfl) (by kernel_rfl) (fun _ _ _ h => h) (Or.inl ⟨by rfl, ?_⟩) (by assumption) ?_
    rotate_left
    focus (intro w hSw; (try dsimp only at hSw); have hq := hSw.2.2.cell; go_simp <;> with_reducible rfl)
    (try simp only [List.getElem_toArray, List.getElem_cons_zero, List.getElem_cons_succ, Act.put, List.setIfInBounds_toArray, List.set_cons_zero, List.set_cons_succ])
    refine wpAnyH_ready (rs := [1, 7]) (by kernel_rfl) (by simp) ?_
    refine AllReadyH.cons rfl (fun Kz hKz => ?_) (AllReadyH.cons rfl (fun Kz hKz => ?_) AllReadyH.nil)
    · skip
      (try simp only [List.getElem_toArray, List.getElem_cons_zero, List.getElem_cons_succ])
      go_simp
      go_at_call 7
      refine (below_c (show Die B _ g from by exact dieT) 9 (by omega)).mono ?_
      rintro e w2 ⟨_, rfl, X2, hc2, x1, rfl, px1, qx1⟩
      have hz2 := X2.size; (try simp only [World.size_alloc, World.size_setCell, size_setRow, size_drew] at hz2)
      have E2 : Upd w w2 [g] := Upd.trans (by exact updT) X2
      have KS2 : Blk w2 w.heap.size 35 #[.int .i64 s.Index, .int .i64 s.Time, .slice a2 n2 k2, .slice a3 n3 k3, .int .i64 s.Lease.Holder, .int .i64 s.Lease.Epoch, .int .i64 s.Lease.Until] := Blk.upd1 (Blk.cast (by exact blkT) (by first | rfl | simp)) X2 (by omega)
      have KR2 : Blk w2 (w.heap.size + 1) 58 #[.int .i64 0, .int .i64 0, .int .i64 0, .int .i64 0, .int .i64 0, .int .i64 0, .int .i64 0, .int .i64 0, .int .i64 0] := Blk.upd1 (Blk.cast (by exact blkT) (by first | rfl | simp)) X2 (by omega)
      have Op2 : OwnI M 111 2 w2 (.slice a2 n2 k2) (flPair s.Pairs) := OwnI.drawn (by first | (with_reducible exact Op1) | (exact ownT)) X2 (by omega)
      have Oj2 : OwnI M 92 5 w2 (.slice a3 n3 k3) (flJob s.Jobs) := OwnI.drawn (by first | (with_reducible exact Oj1) | (exact ownT)) X2 (by omega)
      clear X2
      clear CS1 FS1 LS1 CR1 FR1 LR1
      have CS2 := KS2.cell; have FS2 := KS2.frozen; have LS2 := KS2.lt
      have CR2 := KR2.cell; have FR2 := KR2.frozen; have LR2 := KR2.lt
      refine hKz.out _ _ (by (try dsimp only); exact ⟨(by exact updT), (by exact dieT), (Blk.cast (by exact blkT) setsT)⟩) (fun hHeld => ?_)
      clear hKz Kz
      (try simp only [List.getElem_toArray, List.getElem_cons_zero, List.getElem_cons_succ, Act.put, List.setIfInBounds_toArray, List.set_cons_zero, List.set_cons_succ])
      refine wpAnyH_take (i := 2) (v := ?_) rfl (by kernel_rfl) (by kernel_rfl) (by kernel_rfl) (fun _ _ _ h => h) (Or.inl ⟨by rfl, ?_⟩) (by assumption) ?_
      rotate_left
      focus (intro w hSw; (try dsimp only at hSw); go_simp <;> with_reducible rfl)
      (try simp only [List.getElem_toArray, List.getElem_cons_zero, List.getElem_cons_succ, Act.put, List.setIfInBounds_toArray, List.set_cons_zero, List.set_cons_succ])
      refine wpAnyH_take (i := 6) (v := ?_) rfl (by kernel_rfl) (by kernel_rfl) (by kernel_rfl) (fun _ _ _ h => h) (Or.inl ⟨by rfl, ?_⟩) (by assumption) ?_
      rotate_left
      focus (intro w hSw; (try dsimp only at hSw); go_simp <;> with_reducible rfl)
      (try simp only [List.getElem_toArray, List.getElem_cons_zero, List.getElem_cons_succ, Act.put, List.setIfInBounds_toArray, List.set_cons_zero, List.set_cons_succ])
      refine wpAnyH_ready (rs := [7]) (by kernel_rfl) (by simp) ?_
      refine AllReadyH.cons rfl (fun Kz hKz => ?_) AllReadyH.nil
      (try simp only [List.getElem_toArray, List.getElem_cons_zero, List.getElem_cons_succ])
      go_simp
      refine hKz.out _ _ (by (try dsimp only); exact ⟨(by exact updT), (by exact dieT), (Blk.cast (by exact blkT) setsT)⟩) (fun hHeld => ?_)
      clear hKz Kz
      (try simp only [List.getElem_toArray, List.getElem_cons_zero, List.getElem_cons_succ, Act.put, List.setIfInBounds_toArray, List.set_cons_zero, List.set_cons_succ])
      refine wpAnyH_ready (rs := [8]) (by kernel_rfl) (by simp) ?_
      refine AllReadyH.cons rfl (fun Kz hKz => ?_) AllReadyH.nil
      (try simp only [List.getElem_toArray, List.getElem_cons_zero, List.getElem_cons_succ])
      go_simp
      refine hKz.out _ _ (by (try dsimp only); exact ⟨(by exact updT), (by exact dieT), (Blk.cast (by exact blkT) setsT)⟩) (fun hHeld => ?_)
      clear hKz Kz
      (try simp only [List.getElem_toArray, List.getElem_cons_zero, List.getElem_cons_succ, Act.put, List.setIfInBounds_toArray, List.set_cons_zero, List.set_cons_succ])
      refine wpAnyH_done (by kernel_rfl) ?_ _
      go_wp2_with fail
      go_meet
      case rel => exact ⟨_, _, (by first | rfl | trivial), (by first | omega | (simp only [World.size_alloc, size_drew]; omega)), (Blk.cast (by exact blkT) setsT), (by exact updT), (by exact dieT), (Blk.cast (by exact blkT) setsT), (Blk.cast (by exact blkT) setsT), (by first | (with_reducible exact Op2) | (refine OwnI.drawn Op2 ?_ (by omega); (exact updT); done)), (by first | (with_reducible exact Oj2) | (refine OwnI.drawn Oj2 ?_ (by omega); (exact updT); done))⟩
    · skip
      (try simp only [List.getElem_toArray, List.getElem_cons_zero, List.getElem_cons_succ])
      go_simp
      refine hKz.out _ _ (by (try dsimp only); exact ⟨(by exact updT), (by exact dieT), (Blk.cast (by exact blkT) setsT)⟩) (fun hHeld => ?_)
      clear hKz Kz
      (try simp only [List.getElem_toArray, List.getElem_cons_zero, List.getElem_cons_succ, Act.put, List.setIfInBounds_toArray, List.set_cons_zero, List.set_cons_succ])
      refine wpAnyH_ready (rs := [1]) (by kernel_rfl) (by simp) ?_
      refine AllReadyH.cons rfl (fun Kz hKz => ?_) AllReadyH.nil
      (try simp only [List.getElem_toArray, List.getElem_cons_zero, List.getElem_cons_succ])
      go_simp
      go_at_call 7
      refine (below_c (show Die B _ g from by exact dieT) 9 (by omega)).mono ?_
      rintro e w2 ⟨_, rfl, X2, hc2, x1, rfl, px1, qx1⟩
      have hz2 := X2.size; (try simp only [World.size_alloc, World.size_setCell, size_setRow, size_drew] at hz2)
      have E2 : Upd w w2 [g] := Upd.trans (by exact updT) X2
      have KS2 : Blk w2 w.heap.size 35 #[.int .i64 s.Index, .int .i64 s.Time, .slice a2 n2 k2, .slice a3 n3 k3, .int .i64 s.Lease.Holder, .int .i64 s.Lease.Epoch, .int .i64 s.Lease.Until] := Blk.upd1 (Blk.cast (by exact blkT) (by first | rfl | simp)) X2 (by omega)
      have KR2 : Blk w2 (w.heap.size + 1) 58 #[.int .i64 0, .int .i64 0, .int .i64 0, .int .i64 0, .int .i64 0, .int .i64 0, .int .i64 0, .int .i64 0, .int .i64 0] := Blk.upd1 (Blk.cast (by exact blkT) (by first | rfl | simp)) X2 (by omega)
      have KL2 : Blk w2 w1.heap.size 56 #[.int .i64 0, .int .i64 0, .int .i64 0, .int .i64 0, .int .i64 0] := Blk.upd1 (Blk.cast (by exact blkT) (by first | rfl | simp)) X2 (by omega)
      have Op2 : OwnI M 111 2 w2 (.slice a2 n2 k2) (flPair s.Pairs) := OwnI.drawn (by first | (with_reducible exact Op1) | (refine OwnI.updX Op1 KL1 (by decide) ?_; (exact updT); done) | (exact ownT)) X2 (by omega)
      have Oj2 : OwnI M 92 5 w2 (.slice a3 n3 k3) (flJob s.Jobs) := OwnI.drawn (by first | (with_reducible exact Oj1) | (refine OwnI.updX Oj1 KL1 (by decide) ?_; (exact updT); done) | (exact ownT)) X2 (by omega)
      clear X2
      clear CS1 FS1 LS1 CR1 FR1 LR1
      have CS2 := KS2.cell; have FS2 := KS2.frozen; have LS2 := KS2.lt
      have CR2 := KR2.cell; have FR2 := KR2.frozen; have LR2 := KR2.lt
      have CL2 := KL2.cell; have FL2 := KL2.frozen; have LL2 := KL2.lt
      refine hKz.out _ _ (by (try dsimp only); exact ⟨(by exact updT), (by exact dieT), (Blk.cast (by exact blkT) setsT)⟩) (fun hHeld => ?_)
      clear hKz Kz
      (try simp only [List.getElem_toArray, List.getElem_cons_zero, List.getElem_cons_succ, Act.put, List.setIfInBounds_toArray, List.set_cons_zero, List.set_cons_succ])
      refine wpAnyH_take (i := 2) (v := ?_) rfl (by kernel_rfl) (by kernel_rfl) (by kernel_rfl) (fun _ _ _ h => h) (Or.inl ⟨by rfl, ?_⟩) (by assumption) ?_
      rotate_left
      focus (intro w hSw; (try dsimp only at hSw); go_simp <;> with_reducible rfl)
      (try simp only [List.getElem_toArray, List.getElem_cons_zero, List.getElem_cons_succ, Act.put, List.setIfInBounds_toArray, List.set_cons_zero, List.set_cons_succ])
      refine wpAnyH_take (i := 6) (v := ?_) rfl (by kernel_rfl) (by kernel_rfl) (by kernel_rfl) (fun _ _ _ h => h) (Or.inl ⟨by rfl, ?_⟩) (by assumption) ?_
      rotate_left
      focus (intro w hSw; (try dsimp only at hSw); go_simp <;> with_reducible rfl)
      (try simp only [List.getElem_toArray, List.getElem_cons_zero, List.getElem_cons_succ, Act.put, List.setIfInBounds_toArray, List.set_cons_zero, List.set_cons_succ])
      refine wpAnyH_ready (rs := [8]) (by kernel_rfl) (by simp) ?_
      refine AllReadyH.cons rfl (fun Kz hKz => ?_) AllReadyH.nil
      (try simp only [List.getElem_toArray, List.getElem_cons_zero, List.getElem_cons_succ])
      go_simp
      refine hKz.out _ _ (by (try dsimp only); exact ⟨(by exact updT), (by exact dieT), (Blk.cast (by exact blkT) setsT)⟩) (fun hHeld => ?_)
      clear hKz Kz
      (try simp only [List.getElem_toArray, List.getElem_cons_zero, List.getElem_cons_succ, Act.put, List.setIfInBounds_toArray, List.set_cons_zero, List.set_cons_succ])
      refine wpAnyH_done (by kernel_rfl) ?_ _
      go_wp2_with fail
      go_meet
      case rel => exact ⟨_, _, (by first | rfl | trivial), (by first | omega | (simp only [World.size_alloc, size_drew]; omega)), (Blk.cast (by exact blkT) setsT), (by exact updT), (by exact dieT), (Blk.cast (by exact blkT) setsT), (Blk.cast (by exact blkT) setsT), (by first | (with_reducible exact Op2) | (refine OwnI.drawn Op2 ?_ (by omega); (exact updT); done) | (refine OwnI.updX Op2 KL2 (by decide) ?_; (exact updT); done)), (by first | (with_reducible exact Oj2) | (refine OwnI.drawn Oj2 ?_ (by omega); (exact updT); done) | (refine OwnI.updX Oj2 KL2 (by decide) ?_; (exact updT); done))⟩
  case rest =>
    revert wc; intro w2 hcut
    obtain ⟨gg, x1, rfl, hgg, KL2, E2, hc2, KS2, KR2, Op2, Oj2⟩ := hcut
    have hz2 := E2.size
    clear CS1 FS1 LS1 CR1 FR1 LR1
    have CS2 := KS2.cell; have FS2 := KS2.frozen; have LS2 := KS2.lt
    have CR2 := KR2.cell; have FR2 := KR2.frozen; have LR2 := KR2.lt
    have CL2 := KL2.cell; have FL2 := KL2.frozen; have LL2 := KL2.lt
    go_wp2_with fail
    refine (below_c (show Die B _ g from by exact dieT) 10 (by omega)).mono ?_
    rintro e w3 ⟨_, rfl, X3, hc3, m, rfl, pm, qm⟩
    have hz3 := X3.size; (try simp only [World.size_alloc, World.size_setCell, size_setRow, size_drew] at hz3)
    have E3 : Upd w w3 [g] := Upd.trans (by exact updT) X3
    have KS3 : Blk w3 w.heap.size 35 #[.int .i64 s.Index, .int .i64 s.Time, .slice a2 n2 k2, .slice a3 n3 k3, .int .i64 s.Lease.Holder, .int .i64 s.Lease.Epoch, .int .i64 s.Lease.Until] := Blk.upd1 (Blk.cast (by exact blkT) (by first | rfl | simp)) X3 (by omega)
    have KR3 : Blk w3 (w.heap.size + 1) 58 #[.int .i64 0, .int .i64 0, .int .i64 0, .int .i64 0, .int .i64 0, .int .i64 0, .int .i64 0, .int .i64 0, .int .i64 0] := Blk.upd1 (Blk.cast (by exact blkT) (by first | rfl | simp)) X3 (by omega)
    have KL3 : Blk w3 gg 56 #[.int .i64 4, .int .i64 x1, .int .i64 s.Lease.Epoch, .int .i64 0, .int .i64 0] := Blk.upd1 (Blk.cast (by exact blkT) (by first | rfl | simp)) X3 (by omega)
    have Op3 : OwnI M 111 2 w3 (.slice a2 n2 k2) (flPair s.Pairs) := OwnI.drawn (by first | (with_reducible exact Op2) | (refine OwnI.updX Op2 KL2 (by decide) ?_; (exact updT); done) | (exact ownT)) X3 (by omega)
    have Oj3 : OwnI M 92 5 w3 (.slice a3 n3 k3) (flJob s.Jobs) := OwnI.drawn (by first | (with_reducible exact Oj2) | (refine OwnI.updX Oj2 KL2 (by decide) ?_; (exact updT); done) | (exact ownT)) X3 (by omega)
    clear X3
    clear CS2 FS2 LS2 CR2 FR2 LR2 CL2 FL2 LL2
    have CS3 := KS3.cell; have FS3 := KS3.frozen; have LS3 := KS3.lt
    have CR3 := KR3.cell; have FR3 := KR3.frozen; have LR3 := KR3.lt
    have CL3 := KL3.cell; have FL3 := KL3.frozen; have LL3 := KL3.lt
    go_upto_block 0 with (fail)
    go_cut [5] (fun cx0 wx => ∃ cl : Int, ∃ y0 : Int, ∃ y1 : Int, ∃ y2 : Int, ∃ y3 : Int, ∃ y4 : Int, cx0 = .int .i64 cl ∧ (0 ≤ cl ∧ cl < 6) ∧ Blk wx gg 56 #[.int .i64 y0, .int .i64 y1, .int .i64 y2, .int .i64 y3, .int .i64 y4] ∧ Upd w wx [g] ∧ Die B wx g ∧ Blk wx w.heap.size 35 #[.int .i64 s.Index, .int .i64 s.Time, .slice a2 n2 k2, .slice a3 n3 k3, .int .i64 s.Lease.Holder, .int .i64 s.Lease.Epoch, .int .i64 s.Lease.Until] ∧ Blk wx (w.heap.size + 1) 58 #[.int .i64 0, .int .i64 0, .int .i64 0, .int .i64 0, .int .i64 0, .int .i64 0, .int .i64 0, .int .i64 0, .int .i64 0] ∧ OwnI M 111 2 wx (.slice a2 n2 k2) (flPair s.Pairs) ∧ OwnI M 92 5 wx (.slice a3 n3 k3) (flJob s.Jobs))
    case first =>
      obtain hway | hway | hway | hway | hway : (m = 0 ∨ m = 1) ∨ (m = 2) ∨ (m = 3 ∨ m = 4 ∨ m = 5) ∨ (m = 6 ∨ m = 7) ∨ m ≥ 8 := by omega
      · skip
        obtain rfl | rfl := hway
        all_goals
          go_wp2_with fail
          refine (below_c (show Die B _ g from by exact dieT) 5 (by omega)).mono ?_
          rintro e w4 ⟨_, rfl, X4, hc4, x2, rfl, px2, qx2⟩
          have hz4 := X4.size; (try simp only [World.size_alloc, World.size_setCell, size_setRow, size_drew] at hz4)
          have E4 : Upd w w4 [g] := Upd.trans (by exact updT) X4
          have KS4 : Blk w4 w.heap.size 35 #[.int .i64 s.Index, .int .i64 s.Time, .slice a2 n2 k2, .slice a3 n3 k3, .int .i64 s.Lease.Holder, .int .i64 s.Lease.Epoch, .int .i64 s.Lease.Until] := Blk.upd1 (Blk.cast (by exact blkT) (by first | rfl | simp)) X4 (by omega)
          have KR4 : Blk w4 (w.heap.size + 1) 58 #[.int .i64 0, .int .i64 0, .int .i64 0, .int .i64 0, .int .i64 0, .int .i64 0, .int .i64 0, .int .i64 0, .int .i64 0] := Blk.upd1 (Blk.cast (by exact blkT) (by first | rfl | simp)) X4 (by omega)
          have KL4 : Blk w4 gg 56 #[.int .i64 4, .int .i64 x1, .int .i64 s.Lease.Epoch, .int .i64 0, .int .i64 0] := Blk.upd1 (Blk.cast (by exact blkT) (by first | rfl | simp)) X4 (by omega)
          have Op4 : OwnI M 111 2 w4 (.slice a2 n2 k2) (flPair s.Pairs) := OwnI.drawn (by first | (with_reducible exact Op3) | (refine OwnI.updX Op3 KL3 (by decide) ?_; (exact updT); done) | (exact ownT)) X4 (by omega)
          have Oj4 : OwnI M 92 5 w4 (.slice a3 n3 k3) (flJob s.Jobs) := OwnI.drawn (by first | (with_reducible exact Oj3) | (refine OwnI.updX Oj3 KL3 (by decide) ?_; (exact updT); done) | (exact ownT)) X4 (by omega)
          clear X4
          clear CS3 FS3 LS3 CR3 FR3 LR3 CL3 FL3 LL3
          have CS4 := KS4.cell; have FS4 := KS4.frozen; have LS4 := KS4.lt
          have CR4 := KR4.cell; have FR4 := KR4.frozen; have LR4 := KR4.lt
          have CL4 := KL4.cell; have FL4 := KL4.frozen; have LL4 := KL4.lt
          go_wp2_with fail
          refine (below_c (show Die B _ g from by exact dieT) 9 (by omega)).mono ?_
          rintro e w5 ⟨_, rfl, X5, hc5, x3, rfl, px3, qx3⟩
          have hz5 := X5.size; (try simp only [World.size_alloc, World.size_setCell, size_setRow, size_drew] at hz5)
          have E5 : Upd w w5 [g] := Upd.trans (by exact updT) X5
          have KS5 : Blk w5 w.heap.size 35 #[.int .i64 s.Index, .int .i64 s.Time, .slice a2 n2 k2, .slice a3 n3 k3, .int .i64 s.Lease.Holder, .int .i64 s.Lease.Epoch, .int .i64 s.Lease.Until] := Blk.upd1 (Blk.cast (by exact blkT) (by first | rfl | simp)) X5 (by omega)
          have KR5 : Blk w5 (w.heap.size + 1) 58 #[.int .i64 0, .int .i64 0, .int .i64 0, .int .i64 0, .int .i64 0, .int .i64 0, .int .i64 0, .int .i64 0, .int .i64 0] := Blk.upd1 (Blk.cast (by exact blkT) (by first | rfl | simp)) X5 (by omega)
          have KL5 : Blk w5 gg 56 #[.int .i64 4, .int .i64 x1, .int .i64 s.Lease.Epoch, .int .i64 0, .int .i64 0] := Blk.upd1 (Blk.cast (by exact blkT) (by first | rfl | simp)) X5 (by omega)
          have Op5 : OwnI M 111 2 w5 (.slice a2 n2 k2) (flPair s.Pairs) := OwnI.drawn (by first | (with_reducible exact Op4) | (refine OwnI.updX Op4 KL4 (by decide) ?_; (exact updT); done) | (exact ownT)) X5 (by omega)
          have Oj5 : OwnI M 92 5 w5 (.slice a3 n3 k3) (flJob s.Jobs) := OwnI.drawn (by first | (with_reducible exact Oj4) | (refine OwnI.updX Oj4 KL4 (by decide) ?_; (exact updT); done) | (exact ownT)) X5 (by omega)
          clear X5
          clear CS4 FS4 LS4 CR4 FR4 LR4 CL4 FL4 LL4
          have CS5 := KS5.cell; have FS5 := KS5.frozen; have LS5 := KS5.lt
          have CR5 := KR5.cell; have FR5 := KR5.frozen; have LR5 := KR5.lt
          have CL5 := KL5.cell; have FL5 := KL5.frozen; have LL5 := KL5.lt
          go_wp2_with fail
          go_meet
          case rel => exact ⟨_, _, _, _, _, _, (by first | rfl | trivial), (by omega), (Blk.cast (by exact blkT) setsT), (by exact updT), (by exact dieT), (Blk.cast (by exact blkT) setsT), (Blk.cast (by exact blkT) setsT), (by first | (with_reducible exact Op5) | (refine OwnI.drawn Op5 ?_ (by omega); (exact updT); done) | (refine OwnI.updX Op5 KL5 (by decide) ?_; (exact updT); done)), (by first | (with_reducible exact Oj5) | (refine OwnI.drawn Oj5 ?_ (by omega); (exact updT); done) | (refine OwnI.updX Oj5 KL5 (by decide) ?_; (exact updT); done))⟩
      · skip
        obtain rfl := hway
        go_wp2_with fail
        refine (below_c (show Die B _ g from by exact dieT) 5 (by omega)).mono ?_
        rintro e w4 ⟨_, rfl, X4, hc4, x2, rfl, px2, qx2⟩
        have hz4 := X4.size; (try simp only [World.size_alloc, World.size_setCell, size_setRow, size_drew] at hz4)
        have E4 : Upd w w4 [g] := Upd.trans (by exact updT) X4
        have KS4 : Blk w4 w.heap.size 35 #[.int .i64 s.Index, .int .i64 s.Time, .slice a2 n2 k2, .slice a3 n3 k3, .int .i64 s.Lease.Holder, .int .i64 s.Lease.Epoch, .int .i64 s.Lease.Until] := Blk.upd1 (Blk.cast (by exact blkT) (by first | rfl | simp)) X4 (by omega)
        have KR4 : Blk w4 (w.heap.size + 1) 58 #[.int .i64 0, .int .i64 0, .int .i64 0, .int .i64 0, .int .i64 0, .int .i64 0, .int .i64 0, .int .i64 0, .int .i64 0] := Blk.upd1 (Blk.cast (by exact blkT) (by first | rfl | simp)) X4 (by omega)
        have KL4 : Blk w4 gg 56 #[.int .i64 4, .int .i64 x1, .int .i64 s.Lease.Epoch, .int .i64 0, .int .i64 0] := Blk.upd1 (Blk.cast (by exact blkT) (by first | rfl | simp)) X4 (by omega)
        have Op4 : OwnI M 111 2 w4 (.slice a2 n2 k2) (flPair s.Pairs) := OwnI.drawn (by first | (with_reducible exact Op3) | (refine OwnI.updX Op3 KL3 (by decide) ?_; (exact updT); done) | (exact ownT)) X4 (by omega)
        have Oj4 : OwnI M 92 5 w4 (.slice a3 n3 k3) (flJob s.Jobs) := OwnI.drawn (by first | (with_reducible exact Oj3) | (refine OwnI.updX Oj3 KL3 (by decide) ?_; (exact updT); done) | (exact ownT)) X4 (by omega)
        clear X4
        clear CS3 FS3 LS3 CR3 FR3 LR3 CL3 FL3 LL3
        have CS4 := KS4.cell; have FS4 := KS4.frozen; have LS4 := KS4.lt
        have CR4 := KR4.cell; have FR4 := KR4.frozen; have LR4 := KR4.lt
        have CL4 := KL4.cell; have FL4 := KL4.frozen; have LL4 := KL4.lt
        go_wp2_with fail
        go_meet
        case rel => exact ⟨_, _, _, _, _, _, (by first | rfl | trivial), (by omega), (Blk.cast (by exact blkT) setsT), (by exact updT), (by exact dieT), (Blk.cast (by exact blkT) setsT), (Blk.cast (by exact blkT) setsT), (by first | (with_reducible exact Op4) | (refine OwnI.drawn Op4 ?_ (by omega); (exact updT); done) | (refine OwnI.updX Op4 KL4 (by decide) ?_; (exact updT); done)), (by first | (with_reducible exact Oj4) | (refine OwnI.drawn Oj4 ?_ (by omega); (exact updT); done) | (refine OwnI.updX Oj4 KL4 (by decide) ?_; (exact updT); done))⟩
      · skip
        obtain rfl | rfl | rfl := hway
        all_goals
          go_wp2_with fail
          refine wp_region_held_drew (S := fun w' => Upd w w' [g] ∧ Die B w' g ∧ Blk w' w.heap.size 35 #[.int .i64 s.Index, .int .i64 s.Time, .slice a2 n2 k2, .slice a3 n3 k3, .int .i64 s.Lease.Holder, .int .i64 s.Lease.Epoch, .int .i64 s.Lease.Until]) (by kernel_rfl) (by (try dsimp only); exact ⟨(by exact updT), (by exact dieT), (Blk.cast (by exact blkT) setsT)⟩) (fun hHeld => ?_)
          refine wpAnyH_take (i := 0) (v := ?_) rfl (by kernel_rfl) (by kernel_rfl) (by kernel_rfl) (fun _ _ _ h => h) (Or.inl ⟨by rfl, ?_⟩) (by assumption) ?_
          rotate_left
          focus (intro w hSw; (try dsimp only at hSw); go_simp <;> with_reducible rfl)
          (try simp only [List.getElem_toArray, List.getElem_cons_zero, List.getElem_cons_succ, Act.put, List.setIfInBounds_toArray, List.set_cons_zero, List.set_cons_succ])
          refine wpAnyH_take (i := 3) (v := ?_) rfl (by kernel_rfl) (by kernel_rfl) (by kernel_rfl) (fun _ _ _ h => h) (Or.inl ⟨by rfl, ?_⟩) (by assumption) ?_
          rotate_left
          focus (intro w hSw; (try dsimp only at hSw); go_simp <;> with_reducible rfl)
          (try simp only [List.getElem_toArray, List.getElem_cons_zero, List.getElem_cons_succ, Act.put, List.setIfInBounds_toArray, List.set_cons_zero, List.set_cons_succ])
          refine wpAnyH_take (i := 4) (v := ?_) rfl (by kernel_rfl) (by kernel_rfl) (by kernel_rfl) (fun _ _ _ h => h) (Or.inl ⟨by rfl, ?_⟩) (by assumption) ?_
          rotate_left
          focus (intro w hSw; (try dsimp only at hSw); have hq := hSw.2.2.cell; go_simp <;> with_reducible rfl)
          (try simp only [List.getElem_toArray, List.getElem_cons_zero, List.getElem_cons_succ, Act.put, List.setIfInBounds_toArray, List.set_cons_zero, List.set_cons_succ])
          refine wpAnyH_take (i := 5) (v := ?_) rfl (by kernel_rfl) (by kernel_rfl) (by kernel_rfl) (fun _ _ _ h => h) (Or.inl ⟨by rfl, ?_⟩) (by assumption) ?_
          rotate_left
          focus (intro w hSw; (try dsimp only at hSw); go_simp <;> with_reducible rfl)
          (try simp only [List.getElem_toArray, List.getElem_cons_zero, List.getElem_cons_succ, Act.put, List.setIfInBounds_toArray, List.set_cons_zero, List.set_cons_succ])
          refine wpAnyH_take (i := 8) (v := ?_) rfl (by kernel_rfl) (by kernel_rfl) (by kernel_rfl) (fun _ _ _ h => h) (Or.inl ⟨by rfl, ?_⟩) (by assumption) ?_
          rotate_left
          focus (intro w hSw; (try dsimp only at hSw); go_simp <;> with_reducible rfl)
          (try simp only [List.getElem_toArray, List.getElem_cons_zero, List.getElem_cons_succ, Act.put, List.setIfInBounds_toArray, List.set_cons_zero, List.set_cons_succ])
          refine wpAnyH_take (i := 10) (v := ?_) rfl (by kernel_rfl) (by kernel_rfl) (by kernel_rfl) (fun _ _ _ h => h) (Or.inl ⟨by rfl, ?_⟩) (by assumption) ?_
          rotate_left
          focus (intro w hSw; (try dsimp only at hSw); go_simp <;> with_reducible rfl)
          (try simp only [List.getElem_toArray, List.getElem_cons_zero, List.getElem_cons_succ, Act.put, List.setIfInBounds_toArray, List.set_cons_zero, List.set_cons_succ])
          refine wpAnyH_ready (rs := [1]) (by kernel_rfl) (by simp) ?_
          refine AllReadyH.cons rfl (fun Kz hKz => ?_) AllReadyH.nil
          (try simp only [List.getElem_toArray, List.getElem_cons_zero, List.getElem_cons_succ])
          go_simp
          go_at_call 7
          refine (below_c (show Die B _ g from by exact dieT) 9 (by omega)).mono ?_
          rintro e w4 ⟨_, rfl, X4, hc4, x2, rfl, px2, qx2⟩
          have hz4 := X4.size; (try simp only [World.size_alloc, World.size_setCell, size_setRow, size_drew] at hz4)
          have E4 : Upd w w4 [g] := Upd.trans (by exact updT) X4
          have KS4 : Blk w4 w.heap.size 35 #[.int .i64 s.Index, .int .i64 s.Time, .slice a2 n2 k2, .slice a3 n3 k3, .int .i64 s.Lease.Holder, .int .i64 s.Lease.Epoch, .int .i64 s.Lease.Until] := Blk.upd1 (Blk.cast (by exact blkT) (by first | rfl | simp)) X4 (by omega)
          have KR4 : Blk w4 (w.heap.size + 1) 58 #[.int .i64 0, .int .i64 0, .int .i64 0, .int .i64 0, .int .i64 0, .int .i64 0, .int .i64 0, .int .i64 0, .int .i64 0] := Blk.upd1 (Blk.cast (by exact blkT) (by first | rfl | simp)) X4 (by omega)
          have KL4 : Blk w4 gg 56 #[.int .i64 4, .int .i64 x1, .int .i64 s.Lease.Epoch, .int .i64 0, .int .i64 0] := Blk.upd1 (Blk.cast (by exact blkT) (by first | rfl | simp)) X4 (by omega)
          have Op4 : OwnI M 111 2 w4 (.slice a2 n2 k2) (flPair s.Pairs) := OwnI.drawn (by first | (with_reducible exact Op3) | (refine OwnI.updX Op3 KL3 (by decide) ?_; (exact updT); done) | (exact ownT)) X4 (by omega)
          have Oj4 : OwnI M 92 5 w4 (.slice a3 n3 k3) (flJob s.Jobs) := OwnI.drawn (by first | (with_reducible exact Oj3) | (refine OwnI.updX Oj3 KL3 (by decide) ?_; (exact updT); done) | (exact ownT)) X4 (by omega)
          clear X4
          clear CS3 FS3 LS3 CR3 FR3 LR3 CL3 FL3 LL3
          have CS4 := KS4.cell; have FS4 := KS4.frozen; have LS4 := KS4.lt
          have CR4 := KR4.cell; have FR4 := KR4.frozen; have LR4 := KR4.lt
          have CL4 := KL4.cell; have FL4 := KL4.frozen; have LL4 := KL4.lt
          refine hKz.out _ _ (by (try dsimp only); exact ⟨(by exact updT), (by exact dieT), (Blk.cast (by exact blkT) setsT)⟩) (fun hHeld => ?_)
          clear hKz Kz
          (try simp only [List.getElem_toArray, List.getElem_cons_zero, List.getElem_cons_succ, Act.put, List.setIfInBounds_toArray, List.set_cons_zero, List.set_cons_succ])
          refine wpAnyH_take (i := 2) (v := ?_) rfl (by kernel_rfl) (by kernel_rfl) (by kernel_rfl) (fun _ _ _ h => h) (Or.inl ⟨by rfl, ?_⟩) (by assumption) ?_
          rotate_left
          focus (intro w hSw; (try dsimp only at hSw); go_simp <;> with_reducible rfl)
          (try simp only [List.getElem_toArray, List.getElem_cons_zero, List.getElem_cons_succ, Act.put, List.setIfInBounds_toArray, List.set_cons_zero, List.set_cons_succ])
          refine wpAnyH_ready (rs := [6]) (by kernel_rfl) (by simp) ?_
          refine AllReadyH.cons rfl (fun Kz hKz => ?_) AllReadyH.nil
          (try simp only [List.getElem_toArray, List.getElem_cons_zero, List.getElem_cons_succ])
          go_simp
          go_at_call 7
          refine (below_c (show Die B _ g from by exact dieT) 12 (by omega)).mono ?_
          rintro e w5 ⟨_, rfl, X5, hc5, x3, rfl, px3, qx3⟩
          have hz5 := X5.size; (try simp only [World.size_alloc, World.size_setCell, size_setRow, size_drew] at hz5)
          have E5 : Upd w w5 [g] := Upd.trans (by exact updT) X5
          have KS5 : Blk w5 w.heap.size 35 #[.int .i64 s.Index, .int .i64 s.Time, .slice a2 n2 k2, .slice a3 n3 k3, .int .i64 s.Lease.Holder, .int .i64 s.Lease.Epoch, .int .i64 s.Lease.Until] := Blk.upd1 (Blk.cast (by exact blkT) (by first | rfl | simp)) X5 (by omega)
          have KR5 : Blk w5 (w.heap.size + 1) 58 #[.int .i64 0, .int .i64 0, .int .i64 0, .int .i64 0, .int .i64 0, .int .i64 0, .int .i64 0, .int .i64 0, .int .i64 0] := Blk.upd1 (Blk.cast (by exact blkT) (by first | rfl | simp)) X5 (by omega)
          have KL5 : Blk w5 gg 56 #[.int .i64 4, .int .i64 x1, .int .i64 s.Lease.Epoch, .int .i64 0, .int .i64 0] := Blk.upd1 (Blk.cast (by exact blkT) (by first | rfl | simp)) X5 (by omega)
          have Op5 : OwnI M 111 2 w5 (.slice a2 n2 k2) (flPair s.Pairs) := OwnI.drawn (by first | (with_reducible exact Op4) | (refine OwnI.updX Op4 KL4 (by decide) ?_; (exact updT); done) | (exact ownT)) X5 (by omega)
          have Oj5 : OwnI M 92 5 w5 (.slice a3 n3 k3) (flJob s.Jobs) := OwnI.drawn (by first | (with_reducible exact Oj4) | (refine OwnI.updX Oj4 KL4 (by decide) ?_; (exact updT); done) | (exact ownT)) X5 (by omega)
          clear X5
          clear CS4 FS4 LS4 CR4 FR4 LR4 CL4 FL4 LL4
          have CS5 := KS5.cell; have FS5 := KS5.frozen; have LS5 := KS5.lt
          have CR5 := KR5.cell; have FR5 := KR5.frozen; have LR5 := KR5.lt
          have CL5 := KL5.cell; have FL5 := KL5.frozen; have LL5 := KL5.lt
          refine hKz.out _ _ (by (try dsimp only); exact ⟨(by exact updT), (by exact dieT), (Blk.cast (by exact blkT) setsT)⟩) (fun hHeld => ?_)
          clear hKz Kz
          (try simp only [List.getElem_toArray, List.getElem_cons_zero, List.getElem_cons_succ, Act.put, List.setIfInBounds_toArray, List.set_cons_zero, List.set_cons_succ])
          refine wpAnyH_take (i := 7) (v := ?_) rfl (by kernel_rfl) (by kernel_rfl) (by kernel_rfl) (fun _ _ _ h => h) (Or.inl ⟨by rfl, ?_⟩) (by assumption) ?_
          rotate_left
          focus (intro w hSw; (try dsimp only at hSw); go_simp <;> with_reducible rfl)
          (try simp only [List.getElem_toArray, List.getElem_cons_zero, List.getElem_cons_succ, Act.put, List.setIfInBounds_toArray, List.set_cons_zero, List.set_cons_succ])
          refine wpAnyH_ready (rs := [9]) (by kernel_rfl) (by simp) ?_
          refine AllReadyH.cons rfl (fun Kz hKz => ?_) AllReadyH.nil
          (try simp only [List.getElem_toArray, List.getElem_cons_zero, List.getElem_cons_succ])
          go_simp
          go_at_call 7
          refine (below_c (show Die B _ g from by exact dieT) 5 (by omega)).mono ?_
          rintro e w6 ⟨_, rfl, X6, hc6, x4, rfl, px4, qx4⟩
          have hz6 := X6.size; (try simp only [World.size_alloc, World.size_setCell, size_setRow, size_drew] at hz6)
          have E6 : Upd w w6 [g] := Upd.trans (by exact updT) X6
          have KS6 : Blk w6 w.heap.size 35 #[.int .i64 s.Index, .int .i64 s.Time, .slice a2 n2 k2, .slice a3 n3 k3, .int .i64 s.Lease.Holder, .int .i64 s.Lease.Epoch, .int .i64 s.Lease.Until] := Blk.upd1 (Blk.cast (by exact blkT) (by first | rfl | simp)) X6 (by omega)
          have KR6 : Blk w6 (w.heap.size + 1) 58 #[.int .i64 0, .int .i64 0, .int .i64 0, .int .i64 0, .int .i64 0, .int .i64 0, .int .i64 0, .int .i64 0, .int .i64 0] := Blk.upd1 (Blk.cast (by exact blkT) (by first | rfl | simp)) X6 (by omega)
          have KL6 : Blk w6 gg 56 #[.int .i64 4, .int .i64 x1, .int .i64 s.Lease.Epoch, .int .i64 0, .int .i64 0] := Blk.upd1 (Blk.cast (by exact blkT) (by first | rfl | simp)) X6 (by omega)
          have Op6 : OwnI M 111 2 w6 (.slice a2 n2 k2) (flPair s.Pairs) := OwnI.drawn (by first | (with_reducible exact Op5) | (refine OwnI.updX Op5 KL5 (by decide) ?_; (exact updT); done) | (exact ownT)) X6 (by omega)
          have Oj6 : OwnI M 92 5 w6 (.slice a3 n3 k3) (flJob s.Jobs) := OwnI.drawn (by first | (with_reducible exact Oj5) | (refine OwnI.updX Oj5 KL5 (by decide) ?_; (exact updT); done) | (exact ownT)) X6 (by omega)
          clear X6
          clear CS5 FS5 LS5 CR5 FR5 LR5 CL5 FL5 LL5
          have CS6 := KS6.cell; have FS6 := KS6.frozen; have LS6 := KS6.lt
          have CR6 := KR6.cell; have FR6 := KR6.frozen; have LR6 := KR6.lt
          have CL6 := KL6.cell; have FL6 := KL6.frozen; have LL6 := KL6.lt
          refine hKz.out _ _ (by (try dsimp only); exact ⟨(by exact updT), (by exact dieT), (Blk.cast (by exact blkT) setsT)⟩) (fun hHeld => ?_)
          clear hKz Kz
          (try simp only [List.getElem_toArray, List.getElem_cons_zero, List.getElem_cons_succ, Act.put, List.setIfInBounds_toArray, List.set_cons_zero, List.set_cons_succ])
          refine wpAnyH_ready (rs := [11]) (by kernel_rfl) (by simp) ?_
          refine AllReadyH.cons rfl (fun Kz hKz => ?_) AllReadyH.nil
          (try simp only [List.getElem_toArray, List.getElem_cons_zero, List.getElem_cons_succ])
          go_simp
          go_at_call 7
          refine (below_c (show Die B _ g from by exact dieT) 9 (by omega)).mono ?_
          rintro e w7 ⟨_, rfl, X7, hc7, x5, rfl, px5, qx5⟩
          have hz7 := X7.size; (try simp only [World.size_alloc, World.size_setCell, size_setRow, size_drew] at hz7)
          have E7 : Upd w w7 [g] := Upd.trans (by exact updT) X7
          have KS7 : Blk w7 w.heap.size 35 #[.int .i64 s.Index, .int .i64 s.Time, .slice a2 n2 k2, .slice a3 n3 k3, .int .i64 s.Lease.Holder, .int .i64 s.Lease.Epoch, .int .i64 s.Lease.Until] := Blk.upd1 (Blk.cast (by exact blkT) (by first | rfl | simp)) X7 (by omega)
          have KR7 : Blk w7 (w.heap.size + 1) 58 #[.int .i64 0, .int .i64 0, .int .i64 0, .int .i64 0, .int .i64 0, .int .i64 0, .int .i64 0, .int .i64 0, .int .i64 0] := Blk.upd1 (Blk.cast (by exact blkT) (by first | rfl | simp)) X7 (by omega)
          have KL7 : Blk w7 gg 56 #[.int .i64 4, .int .i64 x1, .int .i64 s.Lease.Epoch, .int .i64 0, .int .i64 0] := Blk.upd1 (Blk.cast (by exact blkT) (by first | rfl | simp)) X7 (by omega)
          have Op7 : OwnI M 111 2 w7 (.slice a2 n2 k2) (flPair s.Pairs) := OwnI.drawn (by first | (with_reducible exact Op6) | (refine OwnI.updX Op6 KL6 (by decide) ?_; (exact updT); done) | (exact ownT)) X7 (by omega)
          have Oj7 : OwnI M 92 5 w7 (.slice a3 n3 k3) (flJob s.Jobs) := OwnI.drawn (by first | (with_reducible exact Oj6) | (refine OwnI.updX Oj6 KL6 (by decide) ?_; (exact updT); done) | (exact ownT)) X7 (by omega)
          clear X7
          clear CS6 FS6 LS6 CR6 FR6 LR6 CL6 FL6 LL6
          have CS7 := KS7.cell; have FS7 := KS7.frozen; have LS7 := KS7.lt
          have CR7 := KR7.cell; have FR7 := KR7.frozen; have LR7 := KR7.lt
          have CL7 := KL7.cell; have FL7 := KL7.frozen; have LL7 := KL7.lt
          refine hKz.out _ _ (by (try dsimp only); exact ⟨(by exact updT), (by exact dieT), (Blk.cast (by exact blkT) setsT)⟩) (fun hHeld => ?_)
          clear hKz Kz
          (try simp only [List.getElem_toArray, List.getElem_cons_zero, List.getElem_cons_succ, Act.put, List.setIfInBounds_toArray, List.set_cons_zero, List.set_cons_succ])
          refine wpAnyH_take (i := 12) (v := ?_) rfl (by kernel_rfl) (by kernel_rfl) (by kernel_rfl) (fun _ _ _ h => h) (Or.inl ⟨by rfl, ?_⟩) (by assumption) ?_
          rotate_left
          focus (intro w hSw; (try dsimp only at hSw); go_simp <;> with_reducible rfl)
          (try simp only [List.getElem_toArray, List.getElem_cons_zero, List.getElem_cons_succ, Act.put, List.setIfInBounds_toArray, List.set_cons_zero, List.set_cons_succ])
          refine wpAnyH_take (i := 13) (v := ?_) rfl (by kernel_rfl) (by kernel_rfl) (by kernel_rfl) (fun _ _ _ h => h) (Or.inl ⟨by rfl, ?_⟩) (by assumption) ?_
          rotate_left
          focus (intro w hSw; (try dsimp only at hSw); go_simp <;> with_reducible rfl)
          (try simp only [List.getElem_toArray, List.getElem_cons_zero, List.getElem_cons_succ, Act.put, List.setIfInBounds_toArray, List.set_cons_zero, List.set_cons_succ])
          refine wpAnyH_ready (rs := [14]) (by kernel_rfl) (by simp) ?_
          refine AllReadyH.cons rfl (fun Kz hKz => ?_) AllReadyH.nil
          (try simp only [List.getElem_toArray, List.getElem_cons_zero, List.getElem_cons_succ])
          go_simp
          refine hKz.out _ _ (by (try dsimp only); exact ⟨(by exact updT), (by exact dieT), (Blk.cast (by exact blkT) setsT)⟩) (fun hHeld => ?_)
          clear hKz Kz
          (try simp only [List.getElem_toArray, List.getElem_cons_zero, List.getElem_cons_succ, Act.put, List.setIfInBounds_toArray, List.set_cons_zero, List.set_cons_succ])
          refine wpAnyH_done (by kernel_rfl) ?_ _
          go_wp2_with fail
          go_meet
          case rel => exact ⟨_, _, _, _, _, _, (by first | rfl | trivial), (by omega), (Blk.cast (by exact blkT) setsT), (by exact updT), (by exact dieT), (Blk.cast (by exact blkT) setsT), (Blk.cast (by exact blkT) setsT), (by first | (with_reducible exact Op7) | (refine OwnI.drawn Op7 ?_ (by omega); (exact updT); done) | (refine OwnI.updX Op7 KL7 (by decide) ?_; (exact updT); done)), (by first | (with_reducible exact Oj7) | (refine OwnI.drawn Oj7 ?_ (by omega); (exact updT); done) | (refine OwnI.updX Oj7 KL7 (by decide) ?_; (exact updT); done))⟩
      · skip
        obtain rfl | rfl := hway
        all_goals
          go_wp2_with fail
          refine (below_c (show Die B _ g from by exact dieT) 25 (by omega)).mono ?_
          rintro e w4 ⟨_, rfl, X4, hc4, x2, rfl, px2, qx2⟩
          have hz4 := X4.size; (try simp only [World.size_alloc, World.size_setCell, size_setRow, size_drew] at hz4)
          have E4 : Upd w w4 [g] := Upd.trans (by exact updT) X4
          have KS4 : Blk w4 w.heap.size 35 #[.int .i64 s.Index, .int .i64 s.Time, .slice a2 n2 k2, .slice a3 n3 k3, .int .i64 s.Lease.Holder, .int .i64 s.Lease.Epoch, .int .i64 s.Lease.Until] := Blk.upd1 (Blk.cast (by exact blkT) (by first | rfl | simp)) X4 (by omega)
          have KR4 : Blk w4 (w.heap.size + 1) 58 #[.int .i64 0, .int .i64 0, .int .i64 0, .int .i64 0, .int .i64 0, .int .i64 0, .int .i64 0, .int .i64 0, .int .i64 0] := Blk.upd1 (Blk.cast (by exact blkT) (by first | rfl | simp)) X4 (by omega)
          have KL4 : Blk w4 gg 56 #[.int .i64 4, .int .i64 x1, .int .i64 s.Lease.Epoch, .int .i64 0, .int .i64 0] := Blk.upd1 (Blk.cast (by exact blkT) (by first | rfl | simp)) X4 (by omega)
          have Op4 : OwnI M 111 2 w4 (.slice a2 n2 k2) (flPair s.Pairs) := OwnI.drawn (by first | (with_reducible exact Op3) | (refine OwnI.updX Op3 KL3 (by decide) ?_; (exact updT); done) | (exact ownT)) X4 (by omega)
          have Oj4 : OwnI M 92 5 w4 (.slice a3 n3 k3) (flJob s.Jobs) := OwnI.drawn (by first | (with_reducible exact Oj3) | (refine OwnI.updX Oj3 KL3 (by decide) ?_; (exact updT); done) | (exact ownT)) X4 (by omega)
          clear X4
          clear CS3 FS3 LS3 CR3 FR3 LR3 CL3 FL3 LL3
          have CS4 := KS4.cell; have FS4 := KS4.frozen; have LS4 := KS4.lt
          have CR4 := KR4.cell; have FR4 := KR4.frozen; have LR4 := KR4.lt
          have CL4 := KL4.cell; have FL4 := KL4.frozen; have LL4 := KL4.lt
          go_upto_region 21 with (fail)
          go_wp2_with fail
          refine (below_c (show Die B _ g from by exact dieT) 2 (by omega)).mono ?_
          rintro e w5 ⟨_, rfl, X5, hc5, x3, rfl, px3, qx3⟩
          have hz5 := X5.size; (try simp only [World.size_alloc, World.size_setCell, size_setRow, size_drew] at hz5)
          have E5 : Upd w w5 [g] := Upd.trans (by exact updT) X5
          have KS5 : Blk w5 w.heap.size 35 #[.int .i64 s.Index, .int .i64 s.Time, .slice a2 n2 k2, .slice a3 n3 k3, .int .i64 s.Lease.Holder, .int .i64 s.Lease.Epoch, .int .i64 s.Lease.Until] := Blk.upd1 (Blk.cast (by exact blkT) (by first | rfl | simp)) X5 (by omega)
          have KR5 : Blk w5 (w.heap.size + 1) 58 #[.int .i64 0, .int .i64 0, .int .i64 0, .int .i64 0, .int .i64 0, .int .i64 0, .int .i64 0, .int .i64 0, .int .i64 0] := Blk.upd1 (Blk.cast (by exact blkT) (by first | rfl | simp)) X5 (by omega)
          have KL5 : Blk w5 gg 56 #[.int .i64 5, .int .i64 (1 + x2), .int .i64 0, .int .i64 0, .int .i64 0] := Blk.upd1 (Blk.cast (by exact blkT) (by first | rfl | simp)) X5 (by omega)
          have Op5 : OwnI M 111 2 w5 (.slice a2 n2 k2) (flPair s.Pairs) := OwnI.drawn (by first | (with_reducible exact Op4) | (refine OwnI.updX Op4 KL4 (by decide) ?_; (exact updT); done) | (exact ownT)) X5 (by omega)
          have Oj5 : OwnI M 92 5 w5 (.slice a3 n3 k3) (flJob s.Jobs) := OwnI.drawn (by first | (with_reducible exact Oj4) | (refine OwnI.updX Oj4 KL4 (by decide) ?_; (exact updT); done) | (exact ownT)) X5 (by omega)
          clear X5
          clear CS4 FS4 LS4 CR4 FR4 LR4 CL4 FL4 LL4
          have CS5 := KS5.cell; have FS5 := KS5.frozen; have LS5 := KS5.lt
          have CR5 := KR5.cell; have FR5 := KR5.frozen; have LR5 := KR5.lt
          have CL5 := KL5.cell; have FL5 := KL5.frozen; have LL5 := KL5.lt
          go_wp2_with fail
          go_meet
          case rel => exact ⟨_, _, _, _, _, _, (by first | rfl | trivial), (by omega), (Blk.cast (by exact blkT) setsT), (by exact updT), (by exact dieT), (Blk.cast (by exact blkT) setsT), (Blk.cast (by exact blkT) setsT), (by first | (with_reducible exact Op5) | (refine OwnI.drawn Op5 ?_ (by omega); (exact updT); done) | (refine OwnI.updX Op5 KL5 (by decide) ?_; (exact updT); done)), (by first | (with_reducible exact Oj5) | (refine OwnI.drawn Oj5 ?_ (by omega); (exact updT); done) | (refine OwnI.updX Oj5 KL5 (by decide) ?_; (exact updT); done))⟩
      · skip
        have hb0 : (m == 0) = false := by simp; omega
        have hb1 : (m == 1) = false := by simp; omega
        have hb2 : (m == 2) = false := by simp; omega
        have hb3 : (m == 3) = false := by simp; omega
        have hb4 : (m == 4) = false := by simp; omega
        have hb5 : (m == 5) = false := by simp; omega
        have hb6 : (m == 6) = false := by simp; omega
        have hb7 : (m == 7) = false := by simp; omega
        go_wp2_with fail
        refine (sOpenJobs_k _ _ s.Jobs (OwnI.ints (show OwnI M 92 5 _ _ (flJob s.Jobs) from by exact ownT))).mono ?_
        rintro e w4 ⟨_, rfl, hx4, Od4⟩
        have hz4 := hx4.size; (try simp only [World.size_alloc, World.size_setCell, size_setRow, size_drew] at hz4)
        have E4 : Upd w w4 [g] := Upd.ext (by exact updT) hx4
        have hc4 : Die B w4 g := Die.ext (by exact dieT) hx4
        have KS4 : Blk w4 w.heap.size 35 #[.int .i64 s.Index, .int .i64 s.Time, .slice a2 n2 k2, .slice a3 n3 k3, .int .i64 s.Lease.Holder, .int .i64 s.Lease.Epoch, .int .i64 s.Lease.Until] := Blk.ext (Blk.cast (by exact blkT) (by first | rfl | simp)) hx4
        have KR4 : Blk w4 (w.heap.size + 1) 58 #[.int .i64 0, .int .i64 0, .int .i64 0, .int .i64 0, .int .i64 0, .int .i64 0, .int .i64 0, .int .i64 0, .int .i64 0] := Blk.ext (Blk.cast (by exact blkT) (by first | rfl | simp)) hx4
        have KL4 : Blk w4 gg 56 #[.int .i64 4, .int .i64 x1, .int .i64 s.Lease.Epoch, .int .i64 0, .int .i64 0] := Blk.ext (Blk.cast (by exact blkT) (by first | rfl | simp)) hx4
        have Op4 : OwnI M 111 2 w4 (.slice a2 n2 k2) (flPair s.Pairs) := OwnI.ext1 (by first | (with_reducible exact Op3) | (refine OwnI.updX Op3 KL3 (by decide) ?_; (exact updT); done) | (exact ownT)) hx4
        have Oj4 : OwnI M 92 5 w4 (.slice a3 n3 k3) (flJob s.Jobs) := OwnI.ext1 (by first | (with_reducible exact Oj3) | (refine OwnI.updX Oj3 KL3 (by decide) ?_; (exact updT); done) | (exact ownT)) hx4
        clear hx4
        clear CS3 FS3 LS3 CR3 FR3 LR3 CL3 FL3 LL3
        have CS4 := KS4.cell; have FS4 := KS4.frozen; have LS4 := KS4.lt
        have CR4 := KR4.cell; have FR4 := KR4.frozen; have LR4 := KR4.lt
        have CL4 := KL4.cell; have FL4 := KL4.frozen; have LL4 := KL4.lt
        obtain ⟨q, hq⟩ : ∃ q, q = openD s.Jobs := ⟨_, rfl⟩
        rw [← hq] at Od4; clear hq
        obtain ⟨ta, tn, tc, rfl, hl0, hcc, hm0, hor⟩ := Own.open_ Od4
        have htn : tn = q.length := by simp only [List.length_map, length_dues] at hl0; omega
        subst htn; clear hl0
        rcases Nat.eq_zero_or_pos q.length with h00 | h00
        · skip
          obtain rfl := List.length_eq_zero_iff.1 h00
          by_cases hh : 0 < s.Lease.Holder
          · skip
            go_wp2_with fail
            refine (below_c (show Die B _ g from by exact dieT) 4 (by omega)).mono ?_
            rintro e w5 ⟨_, rfl, X5, hc5, x9, rfl, px9, qx9⟩
            have hz5 := X5.size; (try simp only [World.size_alloc, World.size_setCell, size_setRow, size_drew] at hz5)
            have E5 : Upd w w5 [g] := Upd.trans (by exact updT) X5
            have KS5 : Blk w5 w.heap.size 35 #[.int .i64 s.Index, .int .i64 s.Time, .slice a2 n2 k2, .slice a3 n3 k3, .int .i64 s.Lease.Holder, .int .i64 s.Lease.Epoch, .int .i64 s.Lease.Until] := Blk.upd1 (Blk.cast (by exact blkT) (by first | rfl | simp)) X5 (by omega)
            have KR5 : Blk w5 (w.heap.size + 1) 58 #[.int .i64 0, .int .i64 0, .int .i64 0, .int .i64 0, .int .i64 0, .int .i64 0, .int .i64 0, .int .i64 0, .int .i64 0] := Blk.upd1 (Blk.cast (by exact blkT) (by first | rfl | simp)) X5 (by omega)
            have KL5 : Blk w5 gg 56 #[.int .i64 4, .int .i64 x1, .int .i64 s.Lease.Epoch, .int .i64 0, .int .i64 0] := Blk.upd1 (Blk.cast (by exact blkT) (by first | rfl | simp)) X5 (by omega)
            have Op5 : OwnI M 111 2 w5 (.slice a2 n2 k2) (flPair s.Pairs) := OwnI.drawn (by first | (with_reducible exact Op4) | (refine OwnI.updX Op4 KL4 (by decide) ?_; (exact updT); done) | (exact ownT)) X5 (by omega)
            have Oj5 : OwnI M 92 5 w5 (.slice a3 n3 k3) (flJob s.Jobs) := OwnI.drawn (by first | (with_reducible exact Oj4) | (refine OwnI.updX Oj4 KL4 (by decide) ?_; (exact updT); done) | (exact ownT)) X5 (by omega)
            clear X5
            clear CS4 FS4 LS4 CR4 FR4 LR4 CL4 FL4 LL4
            have CS5 := KS5.cell; have FS5 := KS5.frozen; have LS5 := KS5.lt
            have CR5 := KR5.cell; have FR5 := KR5.frozen; have LR5 := KR5.lt
            have CL5 := KL5.cell; have FL5 := KL5.frozen; have LL5 := KL5.lt
            by_cases hx9 : 0 < x9
            · skip
              go_wp2_with fail
              go_meet
              case rel => exact ⟨_, _, _, _, _, _, (by first | rfl | trivial), (by omega), (Blk.cast (by exact blkT) setsT), (by exact updT), (by exact dieT), (Blk.cast (by exact blkT) setsT), (Blk.cast (by exact blkT) setsT), (by first | (with_reducible exact Op5) | (refine OwnI.drawn Op5 ?_ (by omega); (exact updT); done) | (refine OwnI.updX Op5 KL5 (by decide) ?_; (exact updT); done)), (by first | (with_reducible exact Oj5) | (refine OwnI.drawn Oj5 ?_ (by omega); (exact updT); done) | (refine OwnI.updX Oj5 KL5 (by decide) ?_; (exact updT); done))⟩
            · skip
              go_wp2_with fail
              go_meet
              case rel => exact ⟨_, _, _, _, _, _, (by first | rfl | trivial), (by omega), (Blk.cast (by exact blkT) setsT), (by exact updT), (by exact dieT), (Blk.cast (by exact blkT) setsT), (Blk.cast (by exact blkT) setsT), (by first | (with_reducible exact Op5) | (refine OwnI.drawn Op5 ?_ (by omega); (exact updT); done) | (refine OwnI.updX Op5 KL5 (by decide) ?_; (exact updT); done)), (by first | (with_reducible exact Oj5) | (refine OwnI.drawn Oj5 ?_ (by omega); (exact updT); done) | (refine OwnI.updX Oj5 KL5 (by decide) ?_; (exact updT); done))⟩
          · skip
            go_wp2_with fail
            go_meet
            case rel => exact ⟨_, _, _, _, _, _, (by first | rfl | trivial), (by omega), (Blk.cast (by exact blkT) setsT), (by exact updT), (by exact dieT), (Blk.cast (by exact blkT) setsT), (Blk.cast (by exact blkT) setsT), (by first | (with_reducible exact Op4) | (refine OwnI.drawn Op4 ?_ (by omega); (exact updT); done) | (refine OwnI.updX Op4 KL4 (by decide) ?_; (exact updT); done)), (by first | (with_reducible exact Oj4) | (refine OwnI.drawn Oj4 ?_ (by omega); (exact updT); done) | (refine OwnI.updX Oj4 KL4 (by decide) ?_; (exact updT); done))⟩
        rcases hor with h01 | ⟨X, cur, rfl, hXB, hX, hXs, hXp⟩
        · omega
        have hd : decide (0 < (q.length : Int)) = true := by simp; omega
        obtain ⟨curd4, KXd4⟩ := Own.typed' Od4 (X := X) rfl
        have FXd4 := KXd4.frozen; have LXd4 := KXd4.lt
        obtain ⟨_, _, hsld, _, _, hrec⟩ := Od4.ints.recs (f := DDue.ints) (fun _ => rfl) (by decide)
        obtain ⟨ddd, bbd, ood, hddd, hbad, _, hccd⟩ := hrec 0 (by omega)
        injection hsld with hs1 hs2 hs3
        rw [← hs1] at hbad; injection hbad with hbad; injection hbad with hb1 hb2; subst hb1; subst hb2; clear hs1 hs2 hs3 hrec
        have hced0 := hccd 0 _ (by decide) rfl; (try simp only [Nat.zero_mul, Nat.zero_add, Nat.add_zero] at hced0)
        clear hccd
        go_upto_region 7 with (fail)
        by_cases hh : 0 < s.Lease.Holder
        · skip
          go_wp2_with fail
          refine (below_c (show Die B _ g from by exact dieT) 4 (by omega)).mono ?_
          rintro e w5 ⟨_, rfl, X5, hc5, x9, rfl, px9, qx9⟩
          have hz5 := X5.size; (try simp only [World.size_alloc, World.size_setCell, size_setRow, size_drew] at hz5)
          have E5 : Upd w w5 [g] := Upd.trans (by exact updT) X5
          have KS5 : Blk w5 w.heap.size 35 #[.int .i64 s.Index, .int .i64 s.Time, .slice a2 n2 k2, .slice a3 n3 k3, .int .i64 s.Lease.Holder, .int .i64 s.Lease.Epoch, .int .i64 s.Lease.Until] := Blk.upd1 (Blk.cast (by exact blkT) (by first | rfl | simp)) X5 (by omega)
          have KR5 : Blk w5 (w.heap.size + 1) 58 #[.int .i64 0, .int .i64 0, .int .i64 0, .int .i64 0, .int .i64 0, .int .i64 0, .int .i64 0, .int .i64 0, .int .i64 0] := Blk.upd1 (Blk.cast (by exact blkT) (by first | rfl | simp)) X5 (by omega)
          have KL5 : Blk w5 gg 56 #[.int .i64 4, .int .i64 ddd.Id, .int .i64 s.Lease.Epoch, .int .i64 0, .int .i64 0] := Blk.upd1 (Blk.cast (by exact blkT) (by first | rfl | simp)) X5 (by omega)
          have Op5 : OwnI M 111 2 w5 (.slice a2 n2 k2) (flPair s.Pairs) := OwnI.drawn (by first | (with_reducible exact Op4) | (refine OwnI.updX Op4 KL4 (by decide) ?_; (exact updT); done) | (exact ownT)) X5 (by omega)
          have Oj5 : OwnI M 92 5 w5 (.slice a3 n3 k3) (flJob s.Jobs) := OwnI.drawn (by first | (with_reducible exact Oj4) | (refine OwnI.updX Oj4 KL4 (by decide) ?_; (exact updT); done) | (exact ownT)) X5 (by omega)
          have Od5 : OwnI w3.heap.size 83 2 w5 (.slice (some ⟨X, 0, none⟩) q.length tc) (dues q) := OwnI.drawn (by first | (with_reducible exact Od4) | (refine OwnI.updX Od4 KL4 (by decide) ?_; (exact updT); done) | (exact ownT)) X5 (by omega)
          clear X5
          clear CS4 FS4 LS4 CR4 FR4 LR4 CL4 FL4 LL4 FXd4 LXd4 hced0
          have CS5 := KS5.cell; have FS5 := KS5.frozen; have LS5 := KS5.lt
          have CR5 := KR5.cell; have FR5 := KR5.frozen; have LR5 := KR5.lt
          have CL5 := KL5.cell; have FL5 := KL5.frozen; have LL5 := KL5.lt
          by_cases hx9 : 0 < x9
          · skip
            go_wp2_with fail
            go_meet
            case rel => exact ⟨_, _, _, _, _, _, (by first | rfl | trivial), (by omega), (Blk.cast (by exact blkT) setsT), (by exact updT), (by exact dieT), (Blk.cast (by exact blkT) setsT), (Blk.cast (by exact blkT) setsT), (by first | (with_reducible exact Op5) | (refine OwnI.drawn Op5 ?_ (by omega); (exact updT); done) | (refine OwnI.updX Op5 KL5 (by decide) ?_; (exact updT); done)), (by first | (with_reducible exact Oj5) | (refine OwnI.drawn Oj5 ?_ (by omega); (exact updT); done) | (refine OwnI.updX Oj5 KL5 (by decide) ?_; (exact updT); done))⟩
          · skip
            go_wp2_with fail
            go_meet
            case rel => exact ⟨_, _, _, _, _, _, (by first | rfl | trivial), (by omega), (Blk.cast (by exact blkT) setsT), (by exact updT), (by exact dieT), (Blk.cast (by exact blkT) setsT), (Blk.cast (by exact blkT) setsT), (by first | (with_reducible exact Op5) | (refine OwnI.drawn Op5 ?_ (by omega); (exact updT); done) | (refine OwnI.updX Op5 KL5 (by decide) ?_; (exact updT); done)), (by first | (with_reducible exact Oj5) | (refine OwnI.drawn Oj5 ?_ (by omega); (exact updT); done) | (refine OwnI.updX Oj5 KL5 (by decide) ?_; (exact updT); done))⟩
        · skip
          go_wp2_with fail
          go_meet
          case rel => exact ⟨_, _, _, _, _, _, (by first | rfl | trivial), (by omega), (Blk.cast (by exact blkT) setsT), (by exact updT), (by exact dieT), (Blk.cast (by exact blkT) setsT), (Blk.cast (by exact blkT) setsT), (by first | (with_reducible exact Op4) | (refine OwnI.drawn Op4 ?_ (by omega); (exact updT); done) | (refine OwnI.updX Op4 KL4 (by decide) ?_; (exact updT); done)), (by first | (with_reducible exact Oj4) | (refine OwnI.drawn Oj4 ?_ (by omega); (exact updT); done) | (refine OwnI.updX Oj4 KL4 (by decide) ?_; (exact updT); done))⟩
    case rest =>
      revert wc; intro w4 hcut
      obtain ⟨cl, y0, y1, y2, y3, y4, rfl, hcl, KL4, E4, hc4, KS4, KR4, Op4, Oj4⟩ := hcut
      have hz4 := E4.size
      clear CS3 FS3 LS3 CR3 FR3 LR3 CL3 FL3 LL3
      have CS4 := KS4.cell; have FS4 := KS4.frozen; have LS4 := KS4.lt
      have CR4 := KR4.cell; have FR4 := KR4.frozen; have LR4 := KR4.lt
      have CL4 := KL4.cell; have FL4 := KL4.frozen; have LL4 := KL4.lt
      go_upto_region 22 with (fail)
      refine wp_region_held_drew (S := fun w' => Upd w w' [g] ∧ Die B w' g ∧ Blk w' w.heap.size 35 #[.int .i64 s.Index, .int .i64 s.Time, .slice a2 n2 k2, .slice a3 n3 k3, .int .i64 s.Lease.Holder, .int .i64 s.Lease.Epoch, .int .i64 s.Lease.Until] ∧ Blk w' gg 56 #[.int .i64 y0, .int .i64 y1, .int .i64 y2, .int .i64 y3, .int .i64 y4]) (by kernel_rfl) (by (try dsimp only); exact ⟨(by exact updT), (by exact dieT), (Blk.cast (by exact blkT) setsT), (Blk.cast (by exact blkT) setsT)⟩) (fun hHeld => ?_)
      refine wpAnyH_take (i := 0) (v := ?_) rfl (by kernel_rfl) (by kernel_rfl) (by kernel_rfl) (fun _ _ _ h => h) (Or.inl ⟨by rfl, ?_⟩) (by assumption) ?_
      rotate_left
      focus (intro w hSw; (try dsimp only at hSw); go_simp <;> with_reducible rfl)
      (try simp only [List.getElem_toArray, List.getElem_cons_zero, List.getElem_cons_succ, Act.put, List.setIfInBounds_toArray, List.set_cons_zero, List.set_cons_succ])
      refine wpAnyH_take (i := 1) (v := ?_) rfl (by kernel_rfl) (by kernel_rfl) (by kernel_rfl) (fun _ _ _ h => h) (Or.inl ⟨by rfl, ?_⟩) (by assumption) ?_
      rotate_left
      focus (intro w hSw; (try dsimp only at hSw); have hq := hSw.2.2.1.cell; go_simp <;> with_reducible rfl)
      (try simp only [List.getElem_toArray, List.getElem_cons_zero, List.getElem_cons_succ, Act.put, List.setIfInBounds_toArray, List.set_cons_zero, List.set_cons_succ])
      refine wpAnyH_take (i := 2) (v := ?_) rfl (by kernel_rfl) (by kernel_rfl) (by kernel_rfl) (fun _ _ _ h => h) (Or.inl ⟨by rfl, ?_⟩) (by assumption) ?_
      rotate_left
      focus (intro w hSw; (try dsimp only at hSw); go_simp <;> with_reducible rfl)
      (try simp only [List.getElem_toArray, List.getElem_cons_zero, List.getElem_cons_succ, Act.put, List.setIfInBounds_toArray, List.set_cons_zero, List.set_cons_succ])
      refine wpAnyH_take (i := 3) (v := ?_) rfl (by kernel_rfl) (by kernel_rfl) (by kernel_rfl) (fun _ _ _ h => h) (Or.inl ⟨by rfl, ?_⟩) (by assumption) ?_
      rotate_left
      focus (intro w hSw; (try dsimp only at hSw); go_simp <;> with_reducible rfl)
      (try simp only [List.getElem_toArray, List.getElem_cons_zero, List.getElem_cons_succ, Act.put, List.setIfInBounds_toArray, List.set_cons_zero, List.set_cons_succ])
      refine wpAnyH_take (i := 4) (v := ?_) rfl (by kernel_rfl) (by kernel_rfl) (by kernel_rfl) (fun _ _ _ h => h) (Or.inl ⟨by rfl, ?_⟩) (by assumption) ?_
      rotate_left
      focus (intro w hSw; (try dsimp only at hSw); have hq := hSw.2.2.1.cell; go_simp <;> with_reducible rfl)
      (try simp only [List.getElem_toArray, List.getElem_cons_zero, List.getElem_cons_succ, Act.put, List.setIfInBounds_toArray, List.set_cons_zero, List.set_cons_succ])
      refine wpAnyH_take (i := 5) (v := ?_) rfl (by kernel_rfl) (by kernel_rfl) (by kernel_rfl) (fun _ _ _ h => h) (Or.inl ⟨by rfl, ?_⟩) (by assumption) ?_
      rotate_left
      focus (intro w hSw; (try dsimp only at hSw); go_simp <;> with_reducible rfl)
      (try simp only [List.getElem_toArray, List.getElem_cons_zero, List.getElem_cons_succ, Act.put, List.setIfInBounds_toArray, List.set_cons_zero, List.set_cons_succ])
      refine wpAnyH_take (i := 8) (v := ?_) rfl (by kernel_rfl) (by kernel_rfl) (by kernel_rfl) (fun _ _ _ h => h) (Or.inl ⟨by rfl, ?_⟩) (by assumption) ?_
      rotate_left
      focus (intro w hSw; (try dsimp only at hSw); go_simp <;> with_reducible rfl)
      (try simp only [List.getElem_toArray, List.getElem_cons_zero, List.getElem_cons_succ, Act.put, List.setIfInBounds_toArray, List.set_cons_zero, List.set_cons_succ])
      refine wpAnyH_take (i := 9) (v := ?_) rfl (by kernel_rfl) (by kernel_rfl) (by kernel_rfl) (fun _ _ _ h => h) (Or.inl ⟨by rfl, ?_⟩) (by assumption) ?_
      rotate_left
      focus (intro w hSw; (try dsimp only at hSw); have hq := hSw.2.2.2.cell; go_simp <;> with_reducible rfl)
      (try simp only [List.getElem_toArray, List.getElem_cons_zero, List.getElem_cons_succ, Act.put, List.setIfInBounds_toArray, List.set_cons_zero, List.set_cons_succ])
      refine wpAnyH_ready (rs := [6]) (by kernel_rfl) (by simp) ?_
      refine AllReadyH.cons rfl (fun Kz hKz => ?_) AllReadyH.nil
      (try simp only [List.getElem_toArray, List.getElem_cons_zero, List.getElem_cons_succ])
      go_simp
      go_at_call 7
      refine (below_c (show Die B _ g from by exact dieT) 6 (by omega)).mono ?_
      rintro e w5 ⟨_, rfl, X5, hc5, z, rfl, pz, qz⟩
      have hz5 := X5.size; (try simp only [World.size_alloc, World.size_setCell, size_setRow, size_drew] at hz5)
      have E5 : Upd w w5 [g] := Upd.trans (by exact updT) X5
      have KS5 : Blk w5 w.heap.size 35 #[.int .i64 s.Index, .int .i64 s.Time, .slice a2 n2 k2, .slice a3 n3 k3, .int .i64 s.Lease.Holder, .int .i64 s.Lease.Epoch, .int .i64 s.Lease.Until] := Blk.upd1 (Blk.cast (by exact blkT) (by first | rfl | simp)) X5 (by omega)
      have KR5 : Blk w5 (w.heap.size + 1) 58 #[.int .i64 0, .int .i64 0, .int .i64 0, .int .i64 0, .int .i64 0, .int .i64 0, .int .i64 0, .int .i64 0, .int .i64 0] := Blk.upd1 (Blk.cast (by exact blkT) (by first | rfl | simp)) X5 (by omega)
      have KL5 : Blk w5 gg 56 #[.int .i64 y0, .int .i64 y1, .int .i64 y2, .int .i64 y3, .int .i64 y4] := Blk.upd1 (Blk.cast (by exact blkT) (by first | rfl | simp)) X5 (by omega)
      have Op5 : OwnI M 111 2 w5 (.slice a2 n2 k2) (flPair s.Pairs) := OwnI.drawn (by first | (with_reducible exact Op4) | (refine OwnI.updX Op4 KL4 (by decide) ?_; (exact updT); done) | (exact ownT)) X5 (by omega)
      have Oj5 : OwnI M 92 5 w5 (.slice a3 n3 k3) (flJob s.Jobs) := OwnI.drawn (by first | (with_reducible exact Oj4) | (refine OwnI.updX Oj4 KL4 (by decide) ?_; (exact updT); done) | (exact ownT)) X5 (by omega)
      clear X5
      clear CS4 FS4 LS4 CR4 FR4 LR4 CL4 FL4 LL4
      have CS5 := KS5.cell; have FS5 := KS5.frozen; have LS5 := KS5.lt
      have CR5 := KR5.cell; have FR5 := KR5.frozen; have LR5 := KR5.lt
      have CL5 := KL5.cell; have FL5 := KL5.frozen; have LL5 := KL5.lt
      refine hKz.out _ _ (by (try dsimp only); exact ⟨(by exact updT), (by exact dieT), (Blk.cast (by exact blkT) setsT), (Blk.cast (by exact blkT) setsT)⟩) (fun hHeld => ?_)
      clear hKz Kz
      (try simp only [List.getElem_toArray, List.getElem_cons_zero, List.getElem_cons_succ, Act.put, List.setIfInBounds_toArray, List.set_cons_zero, List.set_cons_succ])
      refine wpAnyH_take (i := 7) (v := ?_) rfl (by kernel_rfl) (by kernel_rfl) (by kernel_rfl) (fun _ _ _ h => h) (Or.inl ⟨by rfl, ?_⟩) (by assumption) ?_
      rotate_left
      focus (intro w hSw; (try dsimp only at hSw); go_simp <;> with_reducible rfl)
      (try simp only [List.getElem_toArray, List.getElem_cons_zero, List.getElem_cons_succ, Act.put, List.setIfInBounds_toArray, List.set_cons_zero, List.set_cons_succ])
      refine wpAnyH_take (i := 10) (v := ?_) rfl (by kernel_rfl) (by kernel_rfl) (by kernel_rfl) (fun _ _ _ h => h) (Or.inl ⟨by rfl, ?_⟩) (by assumption) ?_
      rotate_left
      focus (intro w hSw; (try dsimp only at hSw); go_simp <;> with_reducible rfl)
      (try simp only [List.getElem_toArray, List.getElem_cons_zero, List.getElem_cons_succ, Act.put, List.setIfInBounds_toArray, List.set_cons_zero, List.set_cons_succ])
      refine wpAnyH_ready (rs := [11]) (by kernel_rfl) (by simp) ?_
      refine AllReadyH.cons rfl (fun Kz hKz => ?_) AllReadyH.nil
      (try simp only [List.getElem_toArray, List.getElem_cons_zero, List.getElem_cons_succ])
      go_simp
      refine hKz.out _ _ (by (try dsimp only); exact ⟨(by exact updT), (by exact dieT), (Blk.cast (by exact blkT) setsT), (Blk.cast (by exact blkT) setsT)⟩) (fun hHeld => ?_)
      clear hKz Kz
      (try simp only [List.getElem_toArray, List.getElem_cons_zero, List.getElem_cons_succ, Act.put, List.setIfInBounds_toArray, List.set_cons_zero, List.set_cons_succ])
      refine wpAnyH_done (by kernel_rfl) ?_ _
      go_wp2_with fail
      refine bodyPost_ret (by simp [results, Try.results16, go_sem, CS5, FS5, LS5, CR5, FR5, LR5, CL5, FL5, LL5]; try rfl) rfl ?_
      exact ⟨_, rfl, by exact updT, by exact dieT, _, _, _, _, _, _, _, _, _, rfl, hcl.1, hcl.2⟩

end Go.Proofs.Ytohoemphmghblaa

-- Folded of the program.
set_option linter.unusedSimpArgs false
set_option linter.unusedVariables false
namespace Go.Proofs.Ytohoemphmghblaa
open Go.RowKit Go.G8

end Go.Proofs.Ytohoemphmghblaa
namespace Go.G8
open Go.RowKit
open Go.Proofs.Ytohoemphmghblaa
theorem OwnI.box7 {B : Nat} {e : TypeId} {n : Nat} {w : World} {v : Value} {xs : List Int} (h : OwnI B e n w v xs) {X : Nat} {t : TypeId} {a : Array Value} (hX : Blk w X t a) (h1 : t ≠ e) (u0 u1 u2 u3 u4 u5 u6 : Value) :
    OwnI B e n (((((((w.setCell ⟨X, 0, none⟩ u0).setCell ⟨X, 1, none⟩ u1).setCell ⟨X, 2, none⟩ u2).setCell ⟨X, 3, none⟩ u3).setCell ⟨X, 4, none⟩ u4).setCell ⟨X, 5, none⟩ u5).setCell ⟨X, 6, none⟩ u6) v xs :=
  ((((((h.boxI hX h1 0 u0).boxI (hX.set_ _ _) h1 1 u1).boxI ((hX.set_ _ _).set_ _ _) h1 2 u2).boxI (((hX.set_ _ _).set_ _ _).set_ _ _) h1 3 u3).boxI ((((hX.set_ _ _).set_ _ _).set_ _ _).set_ _ _) h1 4 u4).boxI (((((hX.set_ _ _).set_ _ _).set_ _ _).set_ _ _).set_ _ _) h1 5 u5).boxI ((((((hX.set_ _ _).set_ _ _).set_ _ _).set_ _ _).set_ _ _).set_ _ _) h1 6 u6
theorem Blk.box7 {w : World} {X : Nat} {t : TypeId} {x0 x1 x2 x3 x4 x5 x6 : Value} (hX : Blk w X t #[x0, x1, x2, x3, x4, x5, x6]) (u0 u1 u2 u3 u4 u5 u6 : Value) :
    Blk (((((((w.setCell ⟨X, 0, none⟩ u0).setCell ⟨X, 1, none⟩ u1).setCell ⟨X, 2, none⟩ u2).setCell ⟨X, 3, none⟩ u3).setCell ⟨X, 4, none⟩ u4).setCell ⟨X, 5, none⟩ u5).setCell ⟨X, 6, none⟩ u6) X t #[u0, u1, u2, u3, u4, u5, u6] := by
  have := ((((((hX.set_ 0 u0).set_ 1 u1).set_ 2 u2).set_ 3 u3).set_ 4 u4).set_ 5 u5).set_ 6 u6
  simpa using this
theorem Blk.far7 {w : World} {X g : Nat} {t : TypeId} {cs : Array Value} (h : Blk w g t cs) (hn : g ≠ X) (u0 u1 u2 u3 u4 u5 u6 : Value) :
    Blk (((((((w.setCell ⟨X, 0, none⟩ u0).setCell ⟨X, 1, none⟩ u1).setCell ⟨X, 2, none⟩ u2).setCell ⟨X, 3, none⟩ u3).setCell ⟨X, 4, none⟩ u4).setCell ⟨X, 5, none⟩ u5).setCell ⟨X, 6, none⟩ u6) g t cs :=
  ((((((h.far (p := ⟨X, 0, none⟩) hn u0).far (p := ⟨X, 1, none⟩) hn u1).far (p := ⟨X, 2, none⟩) hn u2).far (p := ⟨X, 3, none⟩) hn u3).far (p := ⟨X, 4, none⟩) hn u4).far (p := ⟨X, 5, none⟩) hn u5).far (p := ⟨X, 6, none⟩) hn u6
theorem foldS_app (a b : List DEntry) : ∀ s : DState, foldS s (a ++ b) = if (foldS s a).2 = true then foldS (foldS s a).1 b else foldS s a := by
  induction a with
  | nil => intro s; simp [foldS]
  | cons e a ih =>
    intro s
    simp only [List.cons_append, foldS]
    split
    · exact ih _
    · rfl
theorem foldS_ok (a : List DEntry) : ∀ s : DState, stateOk s = true → stateOk (foldS s a).1 = true := by
  induction a with
  | nil => intro s h; exact h
  | cons e a ih =>
    intro s h
    simp only [foldS]
    split
    · rename_i hn; exact ih _ (stepS_ok h hn)
    · exact h
theorem foldS_next {s m : DState} {l : List DEntry} {k : Nat} {e : DEntry} (h : foldS s (l.take k) = (m, true)) (he : l[k]? = some e) (hn : nextIn m e = true) : foldS s (l.take (k + 1)) = (stepS m e, true) := by
  rw [List.take_add_one, he, Option.toList_some, foldS_app, h]
  simp [foldS, hn]
theorem foldS_stop {s m : DState} {l : List DEntry} {k : Nat} {e : DEntry} (h : foldS s (l.take k) = (m, true)) (he : l[k]? = some e) (hn : nextIn m e = false) : foldS s l = (m, false) := by
  have hk := (List.getElem?_eq_some_iff.1 he).1
  conv => lhs; rw [← List.take_append_drop k l]
  have hd : l.drop k = e :: l.drop (k + 1) := by
    rw [List.drop_eq_getElem_cons hk, (List.getElem?_eq_some_iff.1 he).2]
  rw [foldS_app, h, hd]
  simp [foldS, hn]
/-- What Folded hands back. -/
noncomputable def fldOk (s : DState) (l : List DEntry) : Bool := stateOk s && (decide (l.length ≤ 2000) && (foldS s l).2)
noncomputable def fldD (s : DState) (l : List DEntry) : DState := if stateOk s && decide (l.length ≤ 2000) then (foldS s l).1 else ⟨0, 0, [], [], ⟨0, 0, 0⟩⟩
theorem fld_no {s : DState} {l : List DEntry} (h : stateOk s = false ∨ ¬ l.length ≤ 2000) : fldOk s l = false ∧ fldD s l = ⟨0, 0, [], [], ⟨0, 0, 0⟩⟩ := by
  rcases h with h | h
  · simp [fldOk, fldD, h]
  · simp [fldOk, fldD, h]
theorem fld_yes {s m : DState} {l : List DEntry} {b : Bool} (h : stateOk s = true) (h1 : l.length ≤ 2000) (h2 : foldS s l = (m, b)) : fldOk s l = b ∧ fldD s l = m := by
  simp [fldOk, fldD, h, h1, h2]
end Go.G8
namespace Go.Proofs.Ytohoemphmghblaa
open Go.RowKit Go.G8

end Go.Proofs.Ytohoemphmghblaa

-- Folded of the reference.
set_option linter.unusedSimpArgs false
set_option linter.unusedVariables false
namespace Go.Proofs.Ytohoemphmghblaa
open Go.RowKit Go.G8

set_option maxHeartbeats 4000000 in
set_option maxRecDepth 100000 in
theorem sFolded_k {w : World} {v u : Value} {s : DState} {l : List DEntry} (h : RdState w v s) (hl : Ints 9 w u (flEntry l)) :
    Calls Try.prog 18 #[v, u] w (Ret w fun r w' => ∃ x, r = .tuple #[x, .bool (fldOk s l)] ∧ IsState w.heap.size w' x (fldD s l)) := by
  have HS := Lib.hid h
  obtain ⟨a2, n2, k2, a3, n3, k3, rfl⟩ := h.shape
  obtain ⟨a, cap, rfl, hcap, hm, ha⟩ := hl.recs (f := DEntry.ints) (fun _ => rfl) (by decide)
  have HA := Lib.hid ha
  clear h hl ha
  unfold maxLen at hm
  obtain ⟨W1, hW1⟩ : ∃ W1, W1 = (w.alloc (.cells #[.int .i64 s.Index, .int .i64 s.Time, .slice a2 n2 k2, .slice a3 n3 k3, .int .i64 s.Lease.Holder, .int .i64 s.Lease.Epoch, .int .i64 s.Lease.Until] 35)).alloc (.cells #[.int .i64 0, .int .i64 0, .slice none 0 0, .slice none 0 0, .int .i64 0, .int .i64 0, .int .i64 0] 35) := ⟨_, rfl⟩
  have E1 : Ext w W1 := by rw [hW1]; exact ((Ext.refl _).alloc _).alloc _
  have KS1 : Blk W1 w.heap.size 35 #[.int .i64 s.Index, .int .i64 s.Time, .slice a2 n2 k2, .slice a3 n3 k3, .int .i64 s.Lease.Holder, .int .i64 s.Lease.Epoch, .int .i64 s.Lease.Until] := by rw [hW1]; exact (Blk.new _ _ _).alloc _
  have KR1 : Blk W1 (w.heap.size + 1) 35 #[.int .i64 0, .int .i64 0, .slice none 0 0, .slice none 0 0, .int .i64 0, .int .i64 0, .int .i64 0] := by rw [hW1]; exact Blk.new2 _ _ _ _
  have hz1' : w.heap.size + 1 < W1.heap.size := by rw [hW1]; simp
  have HW1 := Lib.hid hW1
  clear hW1
  go_enter Try.func18, Try.ntmps18
  go_wp2_with fail
  rw [← HW1.out]
  have CS1 := KS1.cell; have FS1 := KS1.frozen; have LS1 := KS1.lt; have CR1 := KR1.cell; have FR1 := KR1.frozen; have LR1 := KR1.lt
  go_wp2_with fail
  refine (sStateOk_k (HS.out.ext E1)).mono ?_
  rintro e9 w2 ⟨rfl, hx2⟩
  have E2 : Ext w w2 := E1.trans hx2
  have hz2 := hx2.size
  have KS2 := KS1.ext hx2; have KR2 := KR1.ext hx2
  clear CS1 FS1 LS1 CR1 FR1 LR1
  have CS2 := KS2.cell; have FS2 := KS2.frozen; have LS2 := KS2.lt; have CR2 := KR2.cell; have FR2 := KR2.frozen; have LR2 := KR2.lt
  cases hso : stateOk s
  · obtain ⟨e1, e2⟩ := fld_no (l := l) (.inl hso)
    have HA1 := Lib.hid e1; have HA2 := Lib.hid e2
    clear e1 e2
    go_wp2_with fail
    refine bodyPost_ret (by simp [results, Try.results18, go_sem, CR2, FR2, LR2]; try rfl) rfl ?_
    refine ⟨_, rfl, by repeat' (first | (with_reducible exact Ext.refl _) | (with_reducible assumption) | (with_reducible refine Ext.drewN ?_ _) | (with_reducible refine Ext.drew ?_) | (with_reducible refine Ext.alloc ?_ _) | (with_reducible refine Ext.setCell ?_ ?_ _) | (with_reducible refine Ext.setRow ?_ ?_ _) | (with_reducible exact Nat.le_refl _) | (with_reducible refine Ext.trans ?_ (by assumption)) | omega), _, by (rw [HA1.out]; try rfl), ?_⟩
    rw [HA2.out]
    exact ⟨_, _, rfl, OwnI.nil _ _ _ _, OwnI.nil _ _ _ _⟩
  have HSO := Lib.hid hso
  clear hso
  by_cases hln : l.length ≤ 2000
  rotate_left
  · obtain ⟨e1, e2⟩ := fld_no (s := s) (.inr hln)
    have HA1 := Lib.hid e1; have HA2 := Lib.hid e2
    clear e1 e2
    go_wp2_with fail
    refine bodyPost_ret (by simp [results, Try.results18, go_sem, CR2, FR2, LR2]; try rfl) rfl ?_
    refine ⟨_, rfl, by repeat' (first | (with_reducible exact Ext.refl _) | (with_reducible assumption) | (with_reducible refine Ext.drewN ?_ _) | (with_reducible refine Ext.drew ?_) | (with_reducible refine Ext.alloc ?_ _) | (with_reducible refine Ext.setCell ?_ ?_ _) | (with_reducible refine Ext.setRow ?_ ?_ _) | (with_reducible exact Nat.le_refl _) | (with_reducible refine Ext.trans ?_ (by assumption)) | omega), _, by (rw [HA1.out]; try rfl), ?_⟩
    rw [HA2.out]
    exact ⟨_, _, rfl, OwnI.nil _ _ _ _, OwnI.nil _ _ _ _⟩
  go_wp2_with fail
  refine (l17Copy_k (HS.out.ext E2) (stateOk_small2 HSO.out)).mono ?_
  rintro e9 w3 ⟨_, rfl, hx3, p2, p3, rfl, g2, g3⟩
  obtain ⟨c2, m4, j4, rfl⟩ := g2.shape
  obtain ⟨c3, m5, j5, rfl⟩ := g3.shape
  have hz3 := hx3.size
  obtain ⟨w4, hW4⟩ : ∃ w4, w4 = w3.alloc (.cells #[.int .i64 s.Index, .int .i64 s.Time, .slice c2 m4 j4, .slice c3 m5 j5, .int .i64 s.Lease.Holder, .int .i64 s.Lease.Epoch, .int .i64 s.Lease.Until] 35) := ⟨_, rfl⟩
  have X4 : Ext w2 w4 := by rw [hW4]; exact hx3.alloc _
  have KO4 : Blk w4 w3.heap.size 35 #[.int .i64 s.Index, .int .i64 s.Time, .slice c2 m4 j4, .slice c3 m5 j5, .int .i64 s.Lease.Holder, .int .i64 s.Lease.Epoch, .int .i64 s.Lease.Until] := by rw [hW4]; exact Blk.new _ _ _
  have hz4 : w4.heap.size = w3.heap.size + 1 := by rw [hW4]; simp
  have g2 : OwnI w.heap.size 111 2 w4 (.slice c2 m4 j4) (flPair s.Pairs) := by rw [hW4]; exact OwnI.mono (OwnI.keep g2 ((Chg.refl _ _).alloc _)) (by omega)
  have g3 : OwnI w.heap.size 92 5 w4 (.slice c3 m5 j5) (flJob s.Jobs) := by rw [hW4]; exact OwnI.mono (OwnI.keep g3 ((Chg.refl _ _).alloc _)) (by omega)
  have HW4 := Lib.hid hW4
  have E4 : Ext w w4 := E2.trans X4
  have HZ4 := Lib.hid hz4
  clear hW4 hz4 CS2 FS2 LS2 CR2 FR2 LR2
  have hxo : w.heap.size + 1 < w3.heap.size := by omega
  obtain ⟨X, hX⟩ : ∃ X, X = w3.heap.size := ⟨_, rfl⟩
  rw [← hX] at KO4 hxo
  have HX := Lib.hid hX
  clear hX
  have KR4 := KR2.ext X4
  go_wp2_with fail
  rw [← HW4.out, ← HX.out]
  go_loopw [7] (fun ii wr => ∃ (k : Nat) (m : DState) (b2 : Option Addr) (q2 o2 : Nat) (b3 : Option Addr) (q3 o3 : Nat), k ≤ l.length ∧ ii = .int .i64 k ∧ Ext w wr ∧ Blk wr X 35 #[.int .i64 m.Index, .int .i64 m.Time, .slice b2 q2 o2, .slice b3 q3 o3, .int .i64 m.Lease.Holder, .int .i64 m.Lease.Epoch, .int .i64 m.Lease.Until] ∧ Blk wr (w.heap.size + 1) 35 #[.int .i64 0, .int .i64 0, .slice none 0 0, .slice none 0 0, .int .i64 0, .int .i64 0, .int .i64 0] ∧ OwnI w.heap.size 111 2 wr (.slice b2 q2 o2) (flPair m.Pairs) ∧ OwnI w.heap.size 92 5 wr (.slice b3 q3 o3) (flJob m.Jobs) ∧ Hid (foldS s (l.take k) = (m, true)) ∧ Hid (stateOk m = true)) (fun ii _ => l.length - (intOf ii).toNat)
  case atStart => exact ⟨0, s, c2, m4, j4, c3, m5, j5, Nat.zero_le _, rfl, E4, KO4, KR4, g2, g3, Lib.hid rfl, HSO⟩
  case round =>
    obtain ⟨k, m, b2, q2, o2, b3, q3, o3, hk, rfl, he, KX, KR, P0, J0, hf, hmo⟩ := hrel
    have hzr := he.size
    have hRD : RdState wr (.agg #[.int .i64 m.Index, .int .i64 m.Time, .slice b2 q2 o2, .slice b3 q3 o3, .int .i64 m.Lease.Holder, .int .i64 m.Lease.Epoch, .int .i64 m.Lease.Until]) m := ⟨_, _, rfl, P0.ints, J0.ints⟩
    have HRD := Lib.hid hRD
    clear hRD
    have hxl := KX.lt

    by_cases hlt : k < l.length
    · obtain ⟨d, b1, o1, hd, rfl, hb1, c⟩ := HA.out k hlt
      have d0 := he.cell (c 0 _ (by decide) rfl)
      have d1 := he.cell (c 1 _ (by decide) rfl)
      have d2 := he.cell (c 2 _ (by decide) rfl)
      have d3 := he.cell (c 3 _ (by decide) rfl)
      have d4 := he.cell (c 4 _ (by decide) rfl)
      have d5 := he.cell (c 5 _ (by decide) rfl)
      have d6 := he.cell (c 6 _ (by decide) rfl)
      have d7 := he.cell (c 7 _ (by decide) rfl)
      have d8 := he.cell (c 8 _ (by decide) rfl)
      simp only [Nat.add_zero] at d0
      have HD := Lib.hid hd
      clear c hd

      have hdd : (⟨d.Index, d.Time, d.Client, d.Seq, ⟨d.Op.Kind, d.Op.A, d.Op.B, d.Op.C, d.Op.D⟩⟩ : DEntry) = d := rfl
      have HDD := Lib.hid hdd
      clear hdd
      have hkI : (k : Int) < (l.length : Int) := by omega
      go_wp2_with fail
      have yx0 : ∀ w', Ext wr w' → w'.cell? ⟨X, 0, none⟩ = some (.int .i64 m.Index) := fun w' hw => (KX.ext hw).cell 0
      have yx1 : ∀ w', Ext wr w' → w'.cell? ⟨X, 1, none⟩ = some (.int .i64 m.Time) := fun w' hw => (KX.ext hw).cell 1
      have yx2 : ∀ w', Ext wr w' → w'.cell? ⟨X, 2, none⟩ = some (.slice b2 q2 o2) := fun w' hw => (KX.ext hw).cell 2
      have yx3 : ∀ w', Ext wr w' → w'.cell? ⟨X, 3, none⟩ = some (.slice b3 q3 o3) := fun w' hw => (KX.ext hw).cell 3
      have yx4 : ∀ w', Ext wr w' → w'.cell? ⟨X, 4, none⟩ = some (.int .i64 m.Lease.Holder) := fun w' hw => (KX.ext hw).cell 4
      have yx5 : ∀ w', Ext wr w' → w'.cell? ⟨X, 5, none⟩ = some (.int .i64 m.Lease.Epoch) := fun w' hw => (KX.ext hw).cell 5
      have yx6 : ∀ w', Ext wr w' → w'.cell? ⟨X, 6, none⟩ = some (.int .i64 m.Lease.Until) := fun w' hw => (KX.ext hw).cell 6
      have yd0 := fun w' (hw : Ext wr w') => hw.cell d0
      have yd1 := fun w' (hw : Ext wr w') => hw.cell d1
      have yd2 := fun w' (hw : Ext wr w') => hw.cell d2
      have yd3 := fun w' (hw : Ext wr w') => hw.cell d3
      have yd4 := fun w' (hw : Ext wr w') => hw.cell d4
      have yd5 := fun w' (hw : Ext wr w') => hw.cell d5
      have yd6 := fun w' (hw : Ext wr w') => hw.cell d6
      have yd7 := fun w' (hw : Ext wr w') => hw.cell d7
      have yd8 := fun w' (hw : Ext wr w') => hw.cell d8

      clear d0 d1 d2 d3 d4 d5 d6 d7 d8
      go_cut [8, 9] (fun sx bx wx => ∃ gg v2 vn2 vc2 v3 vn3 vc3, sx = .pointer (some ⟨gg, 0, none⟩) ∧ bx = .bool (appOk m d) ∧ Ext wr wx ∧ wr.heap.size ≤ gg ∧ Blk wx gg 35 #[.int .i64 (appD m d).Index, .int .i64 (appD m d).Time, .slice v2 vn2 vc2, .slice v3 vn3 vc3, .int .i64 (appD m d).Lease.Holder, .int .i64 (appD m d).Lease.Epoch, .int .i64 (appD m d).Lease.Until] ∧ OwnI wr.heap.size 111 2 wx (.slice v2 vn2 vc2) (flPair (appD m d).Pairs) ∧ OwnI wr.heap.size 92 5 wx (.slice v3 vn3 vc3) (flJob (appD m d).Jobs))
      case first =>
        go_region_held3 (fun w' => Ext wr w') (repeat' (first | (with_reducible exact Ext.refl _) | (with_reducible assumption) | (with_reducible refine Ext.drewN ?_ _) | (with_reducible refine Ext.drew ?_) | (with_reducible refine Ext.alloc ?_ _) | (with_reducible refine Ext.setCell ?_ ?_ _) | (with_reducible refine Ext.setRow ?_ ?_ _) | (with_reducible exact Nat.le_refl _) | (with_reducible refine Ext.trans ?_ (by assumption)) | omega)) (first | (go_at_call 17; refine (sApplied_k (HRD.out.ext (by repeat' (first | (with_reducible exact Ext.refl _) | (with_reducible refine Ext.drewN ?_ _) | (with_reducible refine Ext.drew ?_) | (with_reducible refine Ext.alloc ?_ _) | (with_reducible refine Ext.setCell ?_ ?_ _) | (with_reducible refine Ext.trans ?_ hxb) | (with_reducible assumption) | omega))) d.Index d.Time d.Client d.Seq d.Op.Kind d.Op.A d.Op.B d.Op.C d.Op.D).mono ?_; rintro e9 wb ⟨_, rfl, hxb, u9, rfl, p2, p3, rfl, gp, gj⟩; obtain ⟨v2, vn2, vc2, rfl⟩ := gp.shape; obtain ⟨v3, vn3, vc3, rfl⟩ := gj.shape; have hzhxb := hxb.size; obtain ⟨hchxb, hdhxb⟩ := hxb.cells; (try simp only [World.size_alloc, size_drew] at hzhxb hchxb hdhxb); (try have hqhxbwr : wr.heap.size < wb.heap.size := (by omega))))
        all_goals clear yx0 yx1 yx2 yx3 yx4 yx5 yx6 yd0 yd1 yd2 yd3 yd4 yd5 yd6 yd7 yd8 hchxb hdhxb
        all_goals go_wp2_with fail
        all_goals go_meet
        all_goals case rel =>
          (try simp only [World.size_alloc, size_drew] at *)
          exact ⟨_, _, _, _, _, _, _, rfl, by first | rfl | trivial, by repeat' (first | (with_reducible exact Ext.refl _) | (with_reducible assumption) | (with_reducible refine Ext.drewN ?_ _) | (with_reducible refine Ext.drew ?_) | (with_reducible refine Ext.alloc ?_ _) | (with_reducible refine Ext.setCell ?_ ?_ _) | (with_reducible refine Ext.setRow ?_ ?_ _) | (with_reducible exact Nat.le_refl _) | (with_reducible refine Ext.trans ?_ (by assumption)) | omega), by omega, (Blk.cast (by repeat' (first | (with_reducible assumption) | (with_reducible exact Blk.new _ _ _) | (with_reducible exact Blk.new2 _ _ _ _) | (with_reducible (apply Blk.ext; rotate_left; exact hxb)) | (with_reducible apply Blk.drew) | (with_reducible apply Blk.drewN) | (with_reducible apply Blk.alloc) | (with_reducible apply Blk.set_) | (with_reducible apply Blk.row) | (with_reducible apply Blk.far) | (with_reducible apply Blk.rowFar) | omega | (simp; omega))) (by simp)), (gp.keep (by repeat' (first | (with_reducible exact Chg.refl _ _) | (with_reducible refine Chg.drewN ?_ _) | (with_reducible refine Chg.drew ?_) | (with_reducible refine Chg.alloc ?_ _) | (with_reducible refine Chg.setLow ?_ (by omega) _) | (with_reducible refine Chg.setNew ?_ (by omega) _) | (with_reducible refine Chg.setRow ?_ (by omega) _) | (with_reducible refine Chg.ext ?_ (by assumption)) | omega))).mono (by omega), (gj.keep (by repeat' (first | (with_reducible exact Chg.refl _ _) | (with_reducible refine Chg.drewN ?_ _) | (with_reducible refine Chg.drew ?_) | (with_reducible refine Chg.alloc ?_ _) | (with_reducible refine Chg.setLow ?_ (by omega) _) | (with_reducible refine Chg.setNew ?_ (by omega) _) | (with_reducible refine Chg.setRow ?_ (by omega) _) | (with_reducible refine Chg.ext ?_ (by assumption)) | omega))).mono (by omega)⟩
      case rest =>
        revert wc; intro w5 hcut
        obtain ⟨gg, v2, vn2, vc2, v3, vn3, vc3, rfl, rfl, X5, hge5, KG5, gp, gj⟩ := hcut
        clear yx0 yx1 yx2 yx3 yx4 yx5 yx6 yd0 yd1 yd2 yd3 yd4 yd5 yd6 yd7 yd8
        have KX5 := KX.ext X5; have KR5 := KR.ext X5
        have hz5 := X5.size
        have E5 := he.trans X5
        have CX5 := KX5.cell; have FX5 := KX5.frozen; have LX5 := KX5.lt; have CR5 := KR5.cell; have FR5 := KR5.frozen; have LR5 := KR5.lt; have CG5 := KG5.cell; have FG5 := KG5.frozen; have LG5 := KG5.lt
        cases hn : nextIn m d
        · have ha : appOk m d = false := by simp [appOk, hn]
          rw [ha]
          obtain ⟨e1, e2⟩ := fld_yes HSO.out hln (foldS_stop hf.out HD.out hn)
          have HA1 := Lib.hid e1; have HA2 := Lib.hid e2
          clear e1 e2 hn ha
          go_wp2_with fail
          refine bodyPost_ret (by simp [results, Try.results18, go_sem, CR5, FR5, LR5]; try rfl) rfl ?_
          refine ⟨_, rfl, by repeat' (first | (with_reducible exact Ext.refl _) | (with_reducible assumption) | (with_reducible refine Ext.drewN ?_ _) | (with_reducible refine Ext.drew ?_) | (with_reducible refine Ext.alloc ?_ _) | (with_reducible refine Ext.setCell ?_ ?_ _) | (with_reducible refine Ext.setRow ?_ ?_ _) | (with_reducible exact Nat.le_refl _) | (with_reducible refine Ext.trans ?_ (by assumption)) | omega), _, by (rw [HA1.out]; try rfl), ?_⟩
          rw [HA2.out]
          exact ⟨_, _, rfl, ((OwnI.ext P0 X5).box7 KR5 (by decide) _ _ _ _ _ _ _), ((OwnI.ext J0 X5).box7 KR5 (by decide) _ _ _ _ _ _ _)⟩

        have ha : appOk m d = true := by simp [appOk, hmo.out, hn]
        have hb : appD m d = stepS m d := by simp [appD, hmo.out, hn]
        have HN := Lib.hid hn
        rw [ha]
        rw [hb] at KG5 gp gj
        clear hn ha hb CG5 FG5 LG5
        have CG5 := KG5.cell; have LG5 := KG5.lt
        go_wp2_with fail
        go_roundw
        case rel =>
          refine ⟨k + 1, stepS m d, v2, vn2, vc2, v3, vn3, vc3, by omega, by go_num, by repeat' (first | (with_reducible exact Ext.refl _) | (with_reducible assumption) | (with_reducible refine Ext.drewN ?_ _) | (with_reducible refine Ext.drew ?_) | (with_reducible refine Ext.alloc ?_ _) | (with_reducible refine Ext.setCell ?_ ?_ _) | (with_reducible refine Ext.setRow ?_ ?_ _) | (with_reducible exact Nat.le_refl _) | (with_reducible refine Ext.trans ?_ (by assumption)) | omega), KX5.box7 _ _ _ _ _ _ _, KR5.far7 (by omega) _ _ _ _ _ _ _, ?_, ?_, Lib.hid (foldS_next hf.out HD.out HN.out), Lib.hid (stepS_ok hmo.out HN.out)⟩
          · exact (gp.mono (by omega)).box7 KX5 (by decide) _ _ _ _ _ _ _
          · exact (gj.mono (by omega)).box7 KX5 (by decide) _ _ _ _ _ _ _
        case measure => simp [intOf]; omega
    · obtain rfl : k = l.length := by omega
      have hff := hf.out
      rw [List.take_length] at hff
      obtain ⟨e1, e2⟩ := fld_yes HSO.out hln hff
      have HA1 := Lib.hid e1; have HA2 := Lib.hid e2
      clear e1 e2 hff
      have CX := KX.cell; have FX := KX.frozen; have LX := KX.lt; have CR := KR.cell; have FR := KR.frozen; have LR := KR.lt
      go_wp2_with fail
      refine bodyPost_ret (by simp [results, Try.results18, go_sem, CR, FR, LR]; try rfl) rfl ?_
      refine ⟨_, rfl, by repeat' (first | (with_reducible exact Ext.refl _) | (with_reducible assumption) | (with_reducible refine Ext.drewN ?_ _) | (with_reducible refine Ext.drew ?_) | (with_reducible refine Ext.alloc ?_ _) | (with_reducible refine Ext.setCell ?_ ?_ _) | (with_reducible refine Ext.setRow ?_ ?_ _) | (with_reducible exact Nat.le_refl _) | (with_reducible refine Ext.trans ?_ (by assumption)) | omega), _, by (rw [HA1.out]; try rfl), ?_⟩
      rw [HA2.out]
      exact ⟨_, _, rfl, (P0.box7 KR (by decide) _ _ _ _ _ _ _), (J0.box7 KR (by decide) _ _ _ _ _ _ _)⟩


end Go.Proofs.Ytohoemphmghblaa

-- Lists of entries drawn by dice, and their states.
set_option linter.unusedSimpArgs false
set_option linter.unusedVariables false
namespace Go.Proofs.Ytohoemphmghblaa
open Go.RowKit Go.G8

end Go.Proofs.Ytohoemphmghblaa
namespace Go.G8
open Go.RowKit
open Go.Proofs.Ytohoemphmghblaa
theorem z0_ok : stateOk (⟨0, 0, [], [], ⟨0, 0, 0⟩⟩ : DState) = true := by
  simp [stateOk, pairsOk, jobsOk, leaseOk, leaseZ, timeOk, inb, PairsOk, JobsOk]
theorem foldS_index : ∀ (l : List DEntry) {s m : DState}, foldS s l = (m, true) → m.Index = s.Index + l.length
  | [], s, m, h => by simp [foldS] at h; rw [← h]; simp
  | e :: t, s, m, h => by
    unfold foldS at h
    split at h
    · rename_i hn
      have h1 := foldS_index t h
      obtain ⟨_, h2, _⟩ := nextIn_parts hn
      have h3 := (stepS_at (s := s) (e := e)).1
      simp only [List.length_cons]; omega
    · cases h
theorem foldS_take {l : List DEntry} {s m : DState} (h : foldS s l = (m, true)) (k : Nat) : ∃ m', foldS s (l.take k) = (m', true) := by
  rw [← List.take_append_drop k l, foldS_app] at h
  cases hk : foldS s (l.take k) with
  | mk a b =>
    cases b
    · rw [hk] at h; simp at h
    · exact ⟨a, rfl⟩
theorem foldS_snoc {l : List DEntry} {s m : DState} {e : DEntry} (h : foldS s l = (m, true)) (hn : nextIn m e = true) : foldS s (l ++ [e]) = (stepS m e, true) := by
  rw [foldS_app, h]; simp [foldS, hn]
theorem OwnI.setK {B : Nat} {e : TypeId} {w : World} {X n c : Nat} {l : List Int} (h : OwnI B e 1 w (.slice (some ⟨X, 0, none⟩) n c) l) {i : Nat} (hl : i < l.length) (u : Int) : OwnI B e 1 (w.setCell ⟨X, i, none⟩ (.int .i64 u)) (.slice (some ⟨X, 0, none⟩) n c) (l.set i u) := by
  obtain ⟨len, h0, h | ⟨g, cap, cur, hv, hb, hgg, h1, h2, h3, h4⟩⟩ := h
  · cases h.1
  injection hv with e1 e2 e3
  injection e1 with e1; injection e1 with e1
  subst e1; subst e2; subst e3
  refine ⟨_, by simpa using h0, .inr ⟨_, _, cur.setIfInBounds i (.int .i64 u), rfl, hb, ?_, h1, h2, by simpa using h3, ?_⟩⟩
  · exact Blk.set_ hgg i _
  · have hlen : l.length = n := by simpa using h0
    rw [Array.toList_setIfInBounds, List.map_set, ← h4, List.take_set]
theorem OwnI.makeZ (w : World) (e : TypeId) (n : Nat) (hn : n ≤ 1000) : OwnI w.heap.size e 1 (w.alloc (.cells (madeCells #[.int .i64 0] n) e)) (.slice (some ⟨w.heap.size, 0, none⟩) n n) (List.replicate n 0) :=
  Own.of_blk (cap := n) (Blk.new _ _ _) (Nat.le_refl _) (by simp [size_madeCells]) (by simp) (Nat.le_refl _) (by unfold maxLen; omega) (by
    intro j hj
    have hj' : j < n := by omega
    simp [madeCells, hj', Nat.mod_one])
theorem OwnI.farN {B B' : Nat} {e : TypeId} {n : Nat} {w0 w : World} {v : Value} {xs ys : List Int} (h0 : OwnI B' e n w0 v ys) (h : OwnI B e n w v xs) {X i : Nat} {u : Value} (hX : w0.heap.size ≤ X) : OwnI B e n (w.setCell ⟨X, i, none⟩ u) v xs :=
  Own.upd h ((Upd.refl w [X]).setOne i u) (fun k hk hm => by have := (Own.lt h0 hk).2; simp at hm; omega)
theorem OwnI.farK {B B' : Nat} {e e1 : TypeId} {n : Nat} {w : World} {v : Value} {xs : List Int} {X m c : Nat} {ks : List Int} (h : OwnI B e n w v xs) (hq : OwnI B' e1 1 w (.slice (some ⟨X, 0, none⟩) m c) ks) (ht : e1 ≠ e) {i : Nat} {u : Value} : OwnI B e n (w.setCell ⟨X, i, none⟩ u) v xs := by
  obtain ⟨cur, hb⟩ := Own.typed' hq (X := X) rfl
  exact OwnI.boxD h hb ht i u
theorem OwnI.cellK {B : Nat} {e : TypeId} {w : World} {X n c : Nat} {l : List Int} (h : OwnI B e 1 w (.slice (some ⟨X, 0, none⟩) n c) l) {i : Nat} {x : Int} (hx : l[i]? = some x) : w.cell? ⟨X, i, none⟩ = some (.int .i64 x) := by
  obtain ⟨len, h0, h | ⟨g, cap, cur, hv, hb, hgg, h1, h2, h3, h4⟩⟩ := h
  · cases h.1
  injection hv with e1 e2 e3
  injection e1 with e1; injection e1 with e1
  subst e1; subst e2; subst e3
  rw [Blk.cell hgg]
  have hm : (l.map (Value.int .i64))[i]? = some (.int .i64 x) := by rw [List.getElem?_map, hx]; rfl
  rw [← h4, List.getElem?_take] at hm
  split at hm
  · rwa [Array.getElem?_toList] at hm
  · cases hm
end Go.G8
namespace Go.Proofs.Ytohoemphmghblaa
open Go.RowKit Go.G8
set_option maxHeartbeats 4000000 in
set_option maxRecDepth 100000 in
theorem w6List_c {B : Nat} {w : World} {g : Nat} (h : Die B w g) (N : Nat) (hN : N ≤ 64) : Calls Try.prog 6 #[.pointer (some ⟨g, 0, none⟩), .int .i64 N] w (Dd B w g fun v w' => ∃ (l : List DEntry) (m : DState), OwnI w.heap.size 58 9 w' v (flEntry l) ∧ l.length ≤ N ∧ foldS (⟨0, 0, [], [], ⟨0, 0, 0⟩⟩ : DState) l = (m, true) ∧ stateOk m = true) := by
  obtain ⟨i0, hi, hy0, hy1, hy2⟩ := info_parts info_Entry
  obtain ⟨j0, hj, hj0, hj1, hj2⟩ := info_parts info_Int64
  have hc0 := h; have E0 : Upd w w [g] := Upd.refl _ _
  have hg0 := h.lt
  go_enter Try.func6, Try.ntmps6
  have hmk := fun W => run_make (P := Try.prog) W 47 2 j0 _ Try.underlying47 hj hj0 .i64 .i64 6 6 (by omega) (by omega) (by rw [hj2]; omega) (by omega)
  have Ol0 : OwnI w.heap.size 58 9 (w.alloc (.cells #[] 58)) (.slice (some ⟨w.heap.size, 0, none⟩) 0 0) [] := OwnI.lit0 w _ _
  have Oq0 : OwnI w.heap.size 2 1 ((w.alloc (.cells #[] 58)).alloc (.cells (madeCells #[.int .i64 0] 6) 2)) (.slice (some ⟨w.heap.size + 1, 0, none⟩) 6 6) (List.replicate 6 0) := by
    have := OwnI.makeZ (w.alloc (.cells #[] 58)) 2 6 (by omega)
    simp only [World.size_alloc] at this
    exact this.mono (by omega)
  go_wp2_with fail
  refine (sNewState_c _).mono ?_
  rintro e w1 ⟨rfl, hx1⟩
  have hz1 := hx1.size; (try simp only [World.size_alloc, World.size_setCell, size_setRow, size_drew] at hz1)
  have E1 : Upd w w1 [g] := Upd.ext (by exact updT) hx1
  have hc1 : Die B w1 g := Die.ext (by exact dieT) hx1
  have Ol1 : OwnI w.heap.size 58 9 w1 (.slice (some ⟨w.heap.size, 0, none⟩) 0 0) [] := OwnI.ext1 (by exact ownT) hx1
  have Oq1 : OwnI w.heap.size 2 1 w1 (.slice (some ⟨w.heap.size + 1, 0, none⟩) 6 6) (List.replicate 6 0) := OwnI.ext1 (by exact ownT) hx1
  clear hx1
  clear hmk
  go_wp2_with fail
  go_loopw [1, 5] (fun kk out wr => ∃ (k : Nat) (l : List DEntry) (ks : List Int) (s' : DState) (b2 : Option Addr) (m2 c2 : Nat) (b3 : Option Addr) (m3 c3 : Nat), k ≤ N ∧ kk = .int .i64 k ∧ l.length + k ≤ N ∧ ks.length = 6 ∧ foldS (⟨0, 0, [], [], ⟨0, 0, 0⟩⟩ : DState) l = (s', true) ∧ stateOk s' = true ∧ Upd w wr [g] ∧ Die B wr g ∧ OwnI w.heap.size 58 9 wr out (flEntry l) ∧ OwnI w.heap.size 2 1 wr (.slice (some ⟨w.heap.size + 1, 0, none⟩) 6 6) ks ∧ Blk wr w1.heap.size 35 #[.int .i64 s'.Index, .int .i64 s'.Time, .slice b2 m2 c2, .slice b3 m3 c3, .int .i64 s'.Lease.Holder, .int .i64 s'.Lease.Epoch, .int .i64 s'.Lease.Until] ∧ OwnI w.heap.size 111 2 wr (.slice b2 m2 c2) (flPair s'.Pairs) ∧ OwnI w.heap.size 92 5 wr (.slice b3 m3 c3) (flJob s'.Jobs)) (fun kk _ _ => (intOf kk).toNat)
  case atStart => exact ⟨N, [], List.replicate 6 0, (⟨0, 0, [], [], ⟨0, 0, 0⟩⟩ : DState), none, 0, 0, none, 0, 0, Nat.le_refl _, rfl, by simp, by simp, by simp [foldS], z0_ok, by exact updT, by exact dieT, OwnI.ext1 Ol1 (by exact extT), OwnI.ext1 Oq1 (by exact extT), Blk.cast (by exact blkT) (by first | rfl | simp), OwnI.nil _ _ _ _, OwnI.nil _ _ _ _⟩
  case round =>
    obtain ⟨k, l, ks, s', b2, m2, c2, b3, m3, c3, hk, rfl, hl, hks, hfo, hso, E2, hc2, Ol2, Oq2, KS2, Op2, Oj2⟩ := hrel
    clear Ol0 Oq0
    obtain ⟨a0, n0, c0, rfl⟩ := Ol2.shape
    obtain ⟨w2, hw⟩ : ∃ w2, w2 = wr := ⟨_, rfl⟩
    subst hw
    have hz2 := E2.size
    have LS2 := KS2.lt; have hS12 := KS2.lt
    have CS2 := KS2.cell; have FS2 := KS2.frozen
    by_cases hlt : 0 < k
    · skip
      have hlt2 : (0 : Int) < (k : Int) := by omega
      have hw9 : IntKind.i64.wrap ((k : Int) - 1) = (k : Int) - 1 := by rw [IntKind.wrap_i64]; omega
      go_wp2_with fail
      refine (w6Next_c (show Die B _ g from by exact dieT) (M := w.heap.size) (by omega) (s := s') ⟨_, _, rfl, (by exact ownT), (by exact ownT)⟩ hso).mono ?_
      rintro e w3 ⟨_, rfl, X3, hc3, ei, et, ec, es, ok, oa, ob, oc, od, rfl, hec0, hec1⟩
      have hz3 := X3.size; (try simp only [World.size_alloc, World.size_setCell, size_setRow, size_drew] at hz3)
      have E3 : Upd w w3 [g] := Upd.trans (by exact updT) X3
      have KS3 : Blk w3 w1.heap.size 35 #[.int .i64 s'.Index, .int .i64 s'.Time, .slice b2 m2 c2, .slice b3 m3 c3, .int .i64 s'.Lease.Holder, .int .i64 s'.Lease.Epoch, .int .i64 s'.Lease.Until] := Blk.upd1 (Blk.cast (by exact blkT) (by first | rfl | simp)) X3 (by omega)
      have Ol3 : OwnI w.heap.size 58 9 w3 (.slice a0 n0 c0) (flEntry l) := OwnI.drawn (by first | (with_reducible exact Ol2) | (refine OwnI.updX Ol2 KS2 (by decide) ?_; (exact updT); done) | (exact ownT)) X3 (by omega)
      have Oq3 : OwnI w.heap.size 2 1 w3 (.slice (some ⟨w.heap.size + 1, 0, none⟩) 6 6) ks := OwnI.drawn (by first | (with_reducible exact Oq2) | (refine OwnI.updX Oq2 KS2 (by decide) ?_; (exact updT); done) | (exact ownT)) X3 (by omega)
      have Op3 : OwnI w.heap.size 111 2 w3 (.slice b2 m2 c2) (flPair s'.Pairs) := OwnI.drawn (by first | (with_reducible exact Op2) | (refine OwnI.updX Op2 KS2 (by decide) ?_; (exact updT); done) | (exact ownT)) X3 (by omega)
      have Oj3 : OwnI w.heap.size 92 5 w3 (.slice b3 m3 c3) (flJob s'.Jobs) := OwnI.drawn (by first | (with_reducible exact Oj2) | (refine OwnI.updX Oj2 KS2 (by decide) ?_; (exact updT); done) | (exact ownT)) X3 (by omega)
      clear X3
      clear CS2 FS2 LS2
      have CS3 := KS3.cell; have FS3 := KS3.frozen; have LS3 := KS3.lt
      obtain ⟨kx, hkv⟩ : ∃ kx, ks[ec.toNat]? = some kx := ⟨_, List.getElem?_eq_getElem (by omega)⟩
      obtain ⟨ex, hex⟩ : ∃ ex : Nat, ec = (ex : Int) := ⟨ec.toNat, by omega⟩
      subst hex
      simp only [Int.toNat_natCast] at hkv
      have hex6 : ex < 6 := by omega
      go_upto_region 7 with (fail)
      go_cut [] (fun wx => ∃ ks2 : List Int, ks2.length = 6 ∧ OwnI w.heap.size 2 1 wx (.slice (some ⟨w.heap.size + 1, 0, none⟩) 6 6) ks2 ∧ Upd w wx [g] ∧ Die B wx g ∧ Blk wx w1.heap.size 35 #[.int .i64 s'.Index, .int .i64 s'.Time, .slice b2 m2 c2, .slice b3 m3 c3, .int .i64 s'.Lease.Holder, .int .i64 s'.Lease.Epoch, .int .i64 s'.Lease.Until] ∧ Blk wx w3.heap.size 58 #[.int .i64 ei, .int .i64 et, .int .i64 (ex : Int), .int .i64 es, .int .i64 ok, .int .i64 oa, .int .i64 ob, .int .i64 oc, .int .i64 od] ∧ OwnI w.heap.size 58 9 wx (.slice a0 n0 c0) (flEntry l) ∧ OwnI w.heap.size 111 2 wx (.slice b2 m2 c2) (flPair s'.Pairs) ∧ OwnI w.heap.size 92 5 wx (.slice b3 m3 c3) (flJob s'.Jobs))
      case first =>
        have hk93 := OwnI.cellK Oq3 hkv
        obtain ⟨curq3, KXq3⟩ := Own.typed' Oq3 (X := w.heap.size + 1) rfl
        have FXq3 := KXq3.frozen; have LXq3 := KXq3.lt
        refine wp_region_held_drew (S := fun w' => Upd w w' [g] ∧ Die B w' g ∧ Blk w' w3.heap.size 58 #[.int .i64 ei, .int .i64 et, .int .i64 (ex : Int), .int .i64 es, .int .i64 ok, .int .i64 oa, .int .i64 ob, .int .i64 oc, .int .i64 od]) (by kernel_rfl) (by (try dsimp only); exact ⟨(by exact updT), (by exact dieT), (Blk.cast (by exact blkT) setsT)⟩) (fun hHeld => ?_)
        refine wpAnyH_take (i := 0) (v := ?_) rfl (by kernel_rfl) (by kernel_rfl) (by kernel_rfl) (fun _ _ _ h => h) (Or.inl ⟨by rfl, ?_⟩) (by assumption) ?_
        rotate_left
        focus (intro w hSw; (try dsimp only at hSw); go_simp <;> with_reducible rfl)
        (try simp only [List.getElem_toArray, List.getElem_cons_zero, List.getElem_cons_succ, Act.put, List.setIfInBounds_toArray, List.set_cons_zero, List.set_cons_succ])
        refine wpAnyH_take (i := 1) (v := ?_) rfl (by kernel_rfl) (by kernel_rfl) (by kernel_rfl) (fun _ _ _ h => h) (Or.inl ⟨by rfl, ?_⟩) (by assumption) ?_
        rotate_left
        focus (intro w hSw; (try dsimp only at hSw); go_simp <;> with_reducible rfl)
        (try simp only [List.getElem_toArray, List.getElem_cons_zero, List.getElem_cons_succ, Act.put, List.setIfInBounds_toArray, List.set_cons_zero, List.set_cons_succ])
        refine wpAnyH_take (i := 2) (v := ?_) rfl (by kernel_rfl) (by kernel_rfl) (by kernel_rfl) (fun _ _ _ h => h) (Or.inl ⟨by rfl, ?_⟩) (by assumption) ?_
        rotate_left
        focus (intro w hSw; (try dsimp only at hSw); have hq := hSw.2.2.cell; go_simp <;> with_reducible rfl)
        (try simp only [List.getElem_toArray, List.getElem_cons_zero, List.getElem_cons_succ, Act.put, List.setIfInBounds_toArray, List.set_cons_zero, List.set_cons_succ])
        refine wpAnyH_take (i := 3) (v := ?_) rfl (by kernel_rfl) (by kernel_rfl) (by kernel_rfl) (fun _ _ _ h => h) (Or.inl ⟨by rfl, ?_⟩) (by assumption) ?_
        rotate_left
        focus (intro w hSw; (try dsimp only at hSw); go_simp <;> with_reducible rfl)
        (try simp only [List.getElem_toArray, List.getElem_cons_zero, List.getElem_cons_succ, Act.put, List.setIfInBounds_toArray, List.set_cons_zero, List.set_cons_succ])
        refine wpAnyH_take (i := 4) (v := ?_) rfl (by kernel_rfl) (by kernel_rfl) (by kernel_rfl) (fun _ _ _ h => h) (Or.inl ⟨by rfl, ?_⟩) (by assumption) ?_
        rotate_left
        focus (intro w hSw; (try dsimp only at hSw); go_simp <;> with_reducible rfl)
        (try simp only [List.getElem_toArray, List.getElem_cons_zero, List.getElem_cons_succ, Act.put, List.setIfInBounds_toArray, List.set_cons_zero, List.set_cons_succ])
        refine wpAnyH_take (i := 5) (v := ?_) rfl (by kernel_rfl) (by kernel_rfl) (by kernel_rfl) (fun _ _ _ h => h) (Or.inl ⟨by rfl, ?_⟩) (by assumption) ?_
        rotate_left
        focus (intro w hSw; (try dsimp only at hSw); have hq := hSw.2.2.cell; go_simp <;> with_reducible rfl)
        (try simp only [List.getElem_toArray, List.getElem_cons_zero, List.getElem_cons_succ, Act.put, List.setIfInBounds_toArray, List.set_cons_zero, List.set_cons_succ])
        refine wpAnyH_take (i := 6) (v := ?_) rfl (by kernel_rfl) (by kernel_rfl) (by kernel_rfl) (fun _ _ _ h => h) (Or.inl ⟨by rfl, ?_⟩) (by assumption) ?_
        rotate_left
        focus (intro w hSw; (try dsimp only at hSw); go_simp <;> with_reducible rfl)
        (try simp only [List.getElem_toArray, List.getElem_cons_zero, List.getElem_cons_succ, Act.put, List.setIfInBounds_toArray, List.set_cons_zero, List.set_cons_succ])
        refine wpAnyH_take (i := 9) (v := ?_) rfl (by kernel_rfl) (by kernel_rfl) (by kernel_rfl) (fun _ _ _ h => h) (Or.inl ⟨by rfl, ?_⟩) (by assumption) ?_
        rotate_left
        focus (intro w hSw; (try dsimp only at hSw); go_simp <;> with_reducible rfl)
        (try simp only [List.getElem_toArray, List.getElem_cons_zero, List.getElem_cons_succ, Act.put, List.setIfInBounds_toArray, List.set_cons_zero, List.set_cons_succ])
        refine wpAnyH_ready (rs := [7, 10]) (by kernel_rfl) (by simp) ?_
        refine AllReadyH.cons rfl (fun Kz hKz => ?_) (AllReadyH.cons rfl (fun Kz hKz => ?_) AllReadyH.nil)
        · skip
          (try simp only [List.getElem_toArray, List.getElem_cons_zero, List.getElem_cons_succ])
          go_simp
          refine hKz.out _ _ (by (try dsimp only); exact ⟨(by exact updT), (by exact dieT), (Blk.cast (by exact blkT) setsT)⟩) (fun hHeld => ?_)
          clear hKz Kz
          (try simp only [List.getElem_toArray, List.getElem_cons_zero, List.getElem_cons_succ, Act.put, List.setIfInBounds_toArray, List.set_cons_zero, List.set_cons_succ])
          refine wpAnyH_take (i := 8) (v := ?_) rfl (by kernel_rfl) (by kernel_rfl) (by kernel_rfl) (fun _ _ _ h => h) (Or.inl ⟨by rfl, ?_⟩) (by assumption) ?_
          rotate_left
          focus (intro w hSw; (try dsimp only at hSw); go_simp <;> with_reducible rfl)
          (try simp only [List.getElem_toArray, List.getElem_cons_zero, List.getElem_cons_succ, Act.put, List.setIfInBounds_toArray, List.set_cons_zero, List.set_cons_succ])
          refine wpAnyH_ready (rs := [10]) (by kernel_rfl) (by simp) ?_
          refine AllReadyH.cons rfl (fun Kz hKz => ?_) AllReadyH.nil
          (try simp only [List.getElem_toArray, List.getElem_cons_zero, List.getElem_cons_succ])
          go_simp
          go_at_call 7
          refine (below_c (show Die B _ g from by exact dieT) 2 (by omega)).mono ?_
          rintro e w4 ⟨_, rfl, X4, hc4, zz, rfl, pzz, qzz⟩
          have hz4 := X4.size; (try simp only [World.size_alloc, World.size_setCell, size_setRow, size_drew] at hz4)
          have E4 : Upd w w4 [g] := Upd.trans (by exact updT) X4
          have KS4 : Blk w4 w1.heap.size 35 #[.int .i64 s'.Index, .int .i64 s'.Time, .slice b2 m2 c2, .slice b3 m3 c3, .int .i64 s'.Lease.Holder, .int .i64 s'.Lease.Epoch, .int .i64 s'.Lease.Until] := Blk.upd1 (Blk.cast (by exact blkT) (by first | rfl | simp)) X4 (by omega)
          have KE4 : Blk w4 w3.heap.size 58 #[.int .i64 ei, .int .i64 et, .int .i64 (ex : Int), .int .i64 es, .int .i64 ok, .int .i64 oa, .int .i64 ob, .int .i64 oc, .int .i64 od] := Blk.upd1 (Blk.cast (by exact blkT) (by first | rfl | simp)) X4 (by omega)
          have Ol4 : OwnI w.heap.size 58 9 w4 (.slice a0 n0 c0) (flEntry l) := OwnI.drawn (by first | (with_reducible exact Ol3) | (refine OwnI.updX Ol3 KS3 (by decide) ?_; (exact updT); done) | (exact ownT)) X4 (by omega)
          have Op4 : OwnI w.heap.size 111 2 w4 (.slice b2 m2 c2) (flPair s'.Pairs) := OwnI.drawn (by first | (with_reducible exact Op3) | (refine OwnI.updX Op3 KS3 (by decide) ?_; (exact updT); done) | (exact ownT)) X4 (by omega)
          have Oj4 : OwnI w.heap.size 92 5 w4 (.slice b3 m3 c3) (flJob s'.Jobs) := OwnI.drawn (by first | (with_reducible exact Oj3) | (refine OwnI.updX Oj3 KS3 (by decide) ?_; (exact updT); done) | (exact ownT)) X4 (by omega)
          have Oq4 : OwnI w.heap.size 2 1 w4 (.slice (some ⟨w.heap.size + 1, 0, none⟩) 6 6) ks := OwnI.drawn (by first | (with_reducible exact Oq3) | (refine OwnI.updX Oq3 KS3 (by decide) ?_; (exact updT); done) | (exact ownT)) X4 (by omega)
          clear X4
          clear CS3 FS3 LS3 hk93 FXq3 LXq3
          have CS4 := KS4.cell; have FS4 := KS4.frozen; have LS4 := KS4.lt
          have CE4 := KE4.cell; have FE4 := KE4.frozen; have LE4 := KE4.lt
          have hk94 := OwnI.cellK Oq4 hkv
          obtain ⟨curq4, KXq4⟩ := Own.typed' Oq4 (X := w.heap.size + 1) rfl
          have FXq4 := KXq4.frozen; have LXq4 := KXq4.lt
          refine hKz.out _ _ (by (try dsimp only); exact ⟨(by exact updT), (by exact dieT), (Blk.cast (by exact blkT) setsT)⟩) (fun hHeld => ?_)
          clear hKz Kz
          (try simp only [List.getElem_toArray, List.getElem_cons_zero, List.getElem_cons_succ, Act.put, List.setIfInBounds_toArray, List.set_cons_zero, List.set_cons_succ])
          refine wpAnyH_take (i := 11) (v := ?_) rfl (by kernel_rfl) (by kernel_rfl) (by kernel_rfl) (fun _ _ _ h => h) (Or.inl ⟨by rfl, ?_⟩) (by assumption) ?_
          rotate_left
          focus (intro w hSw; (try dsimp only at hSw); go_simp <;> with_reducible rfl)
          (try simp only [List.getElem_toArray, List.getElem_cons_zero, List.getElem_cons_succ, Act.put, List.setIfInBounds_toArray, List.set_cons_zero, List.set_cons_succ])
          refine wpAnyH_take (i := 12) (v := ?_) rfl (by kernel_rfl) (by kernel_rfl) (by kernel_rfl) (fun _ _ _ h => h) (Or.inl ⟨by rfl, ?_⟩) (by assumption) ?_
          rotate_left
          focus (intro w hSw; (try dsimp only at hSw); go_simp <;> with_reducible rfl)
          (try simp only [List.getElem_toArray, List.getElem_cons_zero, List.getElem_cons_succ, Act.put, List.setIfInBounds_toArray, List.set_cons_zero, List.set_cons_succ])
          refine wpAnyH_ready (rs := [13]) (by kernel_rfl) (by simp) ?_
          refine AllReadyH.cons rfl (fun Kz hKz => ?_) AllReadyH.nil
          (try simp only [List.getElem_toArray, List.getElem_cons_zero, List.getElem_cons_succ])
          go_simp
          refine hKz.out _ _ (by (try dsimp only); exact ⟨(by exact updT), (by exact dieT), (Blk.cast (by exact blkT) setsT)⟩) (fun hHeld => ?_)
          clear hKz Kz
          (try simp only [List.getElem_toArray, List.getElem_cons_zero, List.getElem_cons_succ, Act.put, List.setIfInBounds_toArray, List.set_cons_zero, List.set_cons_succ])
          refine wpAnyH_done (by kernel_rfl) ?_ _
          go_wp2_with fail
          go_meet
          case rel => exact ⟨_, (by simp; omega), (OwnI.setK Oq4 (by omega) _), (by exact updT), (by exact dieT), (Blk.cast (by exact blkT) setsT), (Blk.cast (by exact blkT) setsT), (OwnI.farK Ol4 Oq4 (by decide)), (OwnI.farK Op4 Oq4 (by decide)), (OwnI.farK Oj4 Oq4 (by decide))⟩
        · skip
          (try simp only [List.getElem_toArray, List.getElem_cons_zero, List.getElem_cons_succ])
          go_simp
          go_at_call 7
          refine (below_c (show Die B _ g from by exact dieT) 2 (by omega)).mono ?_
          rintro e w4 ⟨_, rfl, X4, hc4, zz, rfl, pzz, qzz⟩
          have hz4 := X4.size; (try simp only [World.size_alloc, World.size_setCell, size_setRow, size_drew] at hz4)
          have E4 : Upd w w4 [g] := Upd.trans (by exact updT) X4
          have KS4 : Blk w4 w1.heap.size 35 #[.int .i64 s'.Index, .int .i64 s'.Time, .slice b2 m2 c2, .slice b3 m3 c3, .int .i64 s'.Lease.Holder, .int .i64 s'.Lease.Epoch, .int .i64 s'.Lease.Until] := Blk.upd1 (Blk.cast (by exact blkT) (by first | rfl | simp)) X4 (by omega)
          have KE4 : Blk w4 w3.heap.size 58 #[.int .i64 ei, .int .i64 et, .int .i64 (ex : Int), .int .i64 es, .int .i64 ok, .int .i64 oa, .int .i64 ob, .int .i64 oc, .int .i64 od] := Blk.upd1 (Blk.cast (by exact blkT) (by first | rfl | simp)) X4 (by omega)
          have Ol4 : OwnI w.heap.size 58 9 w4 (.slice a0 n0 c0) (flEntry l) := OwnI.drawn (by first | (with_reducible exact Ol3) | (refine OwnI.updX Ol3 KS3 (by decide) ?_; (exact updT); done) | (exact ownT)) X4 (by omega)
          have Op4 : OwnI w.heap.size 111 2 w4 (.slice b2 m2 c2) (flPair s'.Pairs) := OwnI.drawn (by first | (with_reducible exact Op3) | (refine OwnI.updX Op3 KS3 (by decide) ?_; (exact updT); done) | (exact ownT)) X4 (by omega)
          have Oj4 : OwnI w.heap.size 92 5 w4 (.slice b3 m3 c3) (flJob s'.Jobs) := OwnI.drawn (by first | (with_reducible exact Oj3) | (refine OwnI.updX Oj3 KS3 (by decide) ?_; (exact updT); done) | (exact ownT)) X4 (by omega)
          have Oq4 : OwnI w.heap.size 2 1 w4 (.slice (some ⟨w.heap.size + 1, 0, none⟩) 6 6) ks := OwnI.drawn (by first | (with_reducible exact Oq3) | (refine OwnI.updX Oq3 KS3 (by decide) ?_; (exact updT); done) | (exact ownT)) X4 (by omega)
          clear X4
          clear CS3 FS3 LS3 hk93 FXq3 LXq3
          have CS4 := KS4.cell; have FS4 := KS4.frozen; have LS4 := KS4.lt
          have CE4 := KE4.cell; have FE4 := KE4.frozen; have LE4 := KE4.lt
          have hk94 := OwnI.cellK Oq4 hkv
          obtain ⟨curq4, KXq4⟩ := Own.typed' Oq4 (X := w.heap.size + 1) rfl
          have FXq4 := KXq4.frozen; have LXq4 := KXq4.lt
          refine hKz.out _ _ (by (try dsimp only); exact ⟨(by exact updT), (by exact dieT), (Blk.cast (by exact blkT) setsT)⟩) (fun hHeld => ?_)
          clear hKz Kz
          (try simp only [List.getElem_toArray, List.getElem_cons_zero, List.getElem_cons_succ, Act.put, List.setIfInBounds_toArray, List.set_cons_zero, List.set_cons_succ])
          refine wpAnyH_ready (rs := [7]) (by kernel_rfl) (by simp) ?_
          refine AllReadyH.cons rfl (fun Kz hKz => ?_) AllReadyH.nil
          (try simp only [List.getElem_toArray, List.getElem_cons_zero, List.getElem_cons_succ])
          go_simp
          refine hKz.out _ _ (by (try dsimp only); exact ⟨(by exact updT), (by exact dieT), (Blk.cast (by exact blkT) setsT)⟩) (fun hHeld => ?_)
          clear hKz Kz
          (try simp only [List.getElem_toArray, List.getElem_cons_zero, List.getElem_cons_succ, Act.put, List.setIfInBounds_toArray, List.set_cons_zero, List.set_cons_succ])
          refine wpAnyH_take (i := 8) (v := ?_) rfl (by kernel_rfl) (by kernel_rfl) (by kernel_rfl) (fun _ _ _ h => h) (Or.inl ⟨by rfl, ?_⟩) (by assumption) ?_
          rotate_left
          focus (intro w hSw; (try dsimp only at hSw); go_simp <;> with_reducible rfl)
          (try simp only [List.getElem_toArray, List.getElem_cons_zero, List.getElem_cons_succ, Act.put, List.setIfInBounds_toArray, List.set_cons_zero, List.set_cons_succ])
          refine wpAnyH_take (i := 11) (v := ?_) rfl (by kernel_rfl) (by kernel_rfl) (by kernel_rfl) (fun _ _ _ h => h) (Or.inl ⟨by rfl, ?_⟩) (by assumption) ?_
          rotate_left
          focus (intro w hSw; (try dsimp only at hSw); go_simp <;> with_reducible rfl)
          (try simp only [List.getElem_toArray, List.getElem_cons_zero, List.getElem_cons_succ, Act.put, List.setIfInBounds_toArray, List.set_cons_zero, List.set_cons_succ])
          refine wpAnyH_take (i := 12) (v := ?_) rfl (by kernel_rfl) (by kernel_rfl) (by kernel_rfl) (fun _ _ _ h => h) (Or.inl ⟨by rfl, ?_⟩) (by assumption) ?_
          rotate_left
          focus (intro w hSw; (try dsimp only at hSw); go_simp <;> with_reducible rfl)
          (try simp only [List.getElem_toArray, List.getElem_cons_zero, List.getElem_cons_succ, Act.put, List.setIfInBounds_toArray, List.set_cons_zero, List.set_cons_succ])
          refine wpAnyH_ready (rs := [13]) (by kernel_rfl) (by simp) ?_
          refine AllReadyH.cons rfl (fun Kz hKz => ?_) AllReadyH.nil
          (try simp only [List.getElem_toArray, List.getElem_cons_zero, List.getElem_cons_succ])
          go_simp
          refine hKz.out _ _ (by (try dsimp only); exact ⟨(by exact updT), (by exact dieT), (Blk.cast (by exact blkT) setsT)⟩) (fun hHeld => ?_)
          clear hKz Kz
          (try simp only [List.getElem_toArray, List.getElem_cons_zero, List.getElem_cons_succ, Act.put, List.setIfInBounds_toArray, List.set_cons_zero, List.set_cons_succ])
          refine wpAnyH_done (by kernel_rfl) ?_ _
          go_wp2_with fail
          go_meet
          case rel => exact ⟨_, (by simp; omega), (OwnI.setK Oq4 (by omega) _), (by exact updT), (by exact dieT), (Blk.cast (by exact blkT) setsT), (Blk.cast (by exact blkT) setsT), (OwnI.farK Ol4 Oq4 (by decide)), (OwnI.farK Op4 Oq4 (by decide)), (OwnI.farK Oj4 Oq4 (by decide))⟩
      case rest =>
        revert wc; intro w4 hcut
        obtain ⟨ks2, hks2, Oq4, E4, hc4, KS4, KE4, Ol4, Op4, Oj4⟩ := hcut
        have hz4 := E4.size
        clear CS3 FS3 LS3
        have CS4 := KS4.cell; have FS4 := KS4.frozen; have LS4 := KS4.lt
        have CE4 := KE4.cell; have FE4 := KE4.frozen; have LE4 := KE4.lt
        obtain ⟨ky, hkv2⟩ : ∃ ky, ks2[ex]? = some ky := ⟨_, List.getElem?_eq_getElem (by omega)⟩
        have hk94 := OwnI.cellK Oq4 hkv2
        obtain ⟨curq4, KXq4⟩ := Own.typed' Oq4 (X := w.heap.size + 1) rfl
        have FXq4 := KXq4.frozen; have LXq4 := KXq4.lt
        go_upto_region 9 with (fail)
        go_cut [9, 10] (fun cx0 cx1 wx => ∃ nn : Nat, ∃ okb : Bool, ∃ s2 : DState, ∃ d2 : Option Addr, ∃ q2 : Nat, ∃ r2 : Nat, ∃ d3 : Option Addr, ∃ q3 : Nat, ∃ r3 : Nat, cx0 = .pointer (some ⟨nn, 0, none⟩) ∧ cx1 = .bool okb ∧ w4.heap.size ≤ nn ∧ (okb = true → foldS (⟨0, 0, [], [], ⟨0, 0, 0⟩⟩ : DState) (l ++ [⟨ei, et, (ex : Int), ky, ⟨ok, oa, ob, oc, od⟩⟩]) = (s2, true) ∧ stateOk s2 = true) ∧ Blk wx nn 35 #[.int .i64 s2.Index, .int .i64 s2.Time, .slice d2 q2 r2, .slice d3 q3 r3, .int .i64 s2.Lease.Holder, .int .i64 s2.Lease.Epoch, .int .i64 s2.Lease.Until] ∧ OwnI w.heap.size 111 2 wx (.slice d2 q2 r2) (flPair s2.Pairs) ∧ OwnI w.heap.size 92 5 wx (.slice d3 q3 r3) (flJob s2.Jobs) ∧ Upd w wx [g] ∧ Die B wx g ∧ Blk wx w1.heap.size 35 #[.int .i64 s'.Index, .int .i64 s'.Time, .slice b2 m2 c2, .slice b3 m3 c3, .int .i64 s'.Lease.Holder, .int .i64 s'.Lease.Epoch, .int .i64 s'.Lease.Until] ∧ Blk wx w3.heap.size 58 #[.int .i64 ei, .int .i64 et, .int .i64 (ex : Int), .int .i64 ky, .int .i64 ok, .int .i64 oa, .int .i64 ob, .int .i64 oc, .int .i64 od] ∧ OwnI w.heap.size 58 9 wx (.slice a0 n0 c0) (flEntry l) ∧ OwnI w.heap.size 111 2 wx (.slice b2 m2 c2) (flPair s'.Pairs) ∧ OwnI w.heap.size 92 5 wx (.slice b3 m3 c3) (flJob s'.Jobs) ∧ OwnI w.heap.size 2 1 wx (.slice (some ⟨w.heap.size + 1, 0, none⟩) 6 6) ks2)
        case first =>
          go_wp2_with fail
          refine (sApplied_k (s := s') (IsState.rd (B := w.heap.size) ⟨_, _, rfl, (by first | exact ownT | exact OwnI.updX Op4 KE4 (by decide) (by exact updT)), (by first | exact ownT | exact OwnI.updX Oj4 KE4 (by decide) (by exact updT))⟩) _ _ _ _ _ _ _ _ _).mono ?_
          rintro e w5 ⟨_, rfl, hx5, u, rfl, gu⟩
          have hz5 := hx5.size; (try simp only [World.size_alloc, World.size_setCell, size_setRow, size_drew] at hz5)
          have E5 : Upd w w5 [g] := Upd.ext (by exact updT) hx5
          have hc5 : Die B w5 g := Die.ext (by exact dieT) hx5
          have KS5 : Blk w5 w1.heap.size 35 #[.int .i64 s'.Index, .int .i64 s'.Time, .slice b2 m2 c2, .slice b3 m3 c3, .int .i64 s'.Lease.Holder, .int .i64 s'.Lease.Epoch, .int .i64 s'.Lease.Until] := Blk.ext (Blk.cast (by exact blkT) (by first | rfl | simp)) hx5
          have KE5 : Blk w5 w3.heap.size 58 #[.int .i64 ei, .int .i64 et, .int .i64 (ex : Int), .int .i64 ky, .int .i64 ok, .int .i64 oa, .int .i64 ob, .int .i64 oc, .int .i64 od] := Blk.ext (Blk.cast (by exact blkT) (by first | rfl | simp)) hx5
          have Ol5 : OwnI w.heap.size 58 9 w5 (.slice a0 n0 c0) (flEntry l) := OwnI.ext1 (OwnI.farN Ol3 Ol4 (Nat.le_refl _)) hx5
          have Op5 : OwnI w.heap.size 111 2 w5 (.slice b2 m2 c2) (flPair s'.Pairs) := OwnI.ext1 (by first | (with_reducible exact Op4) | (refine OwnI.updX Op4 KS4 (by decide) ?_; (exact updT); done) | (refine OwnI.updX Op4 KE4 (by decide) ?_; (exact updT); done) | (refine OwnI.updX2 Op4 KS4 KE4 (by decide) (by decide) ?_; (exact upd2T); done) | (exact ownT)) hx5
          have Oj5 : OwnI w.heap.size 92 5 w5 (.slice b3 m3 c3) (flJob s'.Jobs) := OwnI.ext1 (by first | (with_reducible exact Oj4) | (refine OwnI.updX Oj4 KS4 (by decide) ?_; (exact updT); done) | (refine OwnI.updX Oj4 KE4 (by decide) ?_; (exact updT); done) | (refine OwnI.updX2 Oj4 KS4 KE4 (by decide) (by decide) ?_; (exact upd2T); done) | (exact ownT)) hx5
          have Oq5 : OwnI w.heap.size 2 1 w5 (.slice (some ⟨w.heap.size + 1, 0, none⟩) 6 6) ks2 := OwnI.ext1 (by first | (with_reducible exact Oq4) | (refine OwnI.updX Oq4 KS4 (by decide) ?_; (exact updT); done) | (refine OwnI.updX Oq4 KE4 (by decide) ?_; (exact updT); done) | (refine OwnI.updX2 Oq4 KS4 KE4 (by decide) (by decide) ?_; (exact upd2T); done) | (exact ownT)) hx5
          clear hx5
          clear CS4 FS4 LS4 CE4 FE4 LE4 hk94 FXq4 LXq4
          have CS5 := KS5.cell; have FS5 := KS5.frozen; have LS5 := KS5.lt
          have CE5 := KE5.cell; have FE5 := KE5.frozen; have LE5 := KE5.lt
          obtain ⟨v2, v3, rfl, gp, gj⟩ := gu
          obtain ⟨d2, q2, r2, rfl⟩ := gp.shape
          obtain ⟨d3, q3, r3, rfl⟩ := gj.shape
          have Ox5 := gp.mono (B' := w.heap.size) (by simp only [World.size_alloc, World.size_setCell, size_setRow]; omega); have Oy5 := gj.mono (B' := w.heap.size) (by simp only [World.size_alloc, World.size_setCell, size_setRow]; omega)
          clear gp gj
          have hfin : appOk s' ⟨ei, et, (ex : Int), ky, ⟨ok, oa, ob, oc, od⟩⟩ = true → foldS (⟨0, 0, [], [], ⟨0, 0, 0⟩⟩ : DState) (l ++ [⟨ei, et, (ex : Int), ky, ⟨ok, oa, ob, oc, od⟩⟩]) = (appD s' ⟨ei, et, (ex : Int), ky, ⟨ok, oa, ob, oc, od⟩⟩, true) ∧ stateOk (appD s' ⟨ei, et, (ex : Int), ky, ⟨ok, oa, ob, oc, od⟩⟩) = true := by
            intro h9; unfold appOk at h9; rw [Bool.and_eq_true] at h9
            have eD : appD s' ⟨ei, et, (ex : Int), ky, ⟨ok, oa, ob, oc, od⟩⟩ = stepS s' ⟨ei, et, (ex : Int), ky, ⟨ok, oa, ob, oc, od⟩⟩ := by unfold appD; rw [if_pos h9.1, if_pos h9.2]
            rw [eD]; exact ⟨foldS_snoc hfo h9.2, stepS_ok h9.1 h9.2⟩
          go_wp2_with fail
          go_meet
          case rel => exact ⟨_, _, _, _, _, _, _, _, _, (by first | rfl | trivial), (by first | rfl | trivial), (by first | omega | (simp only [World.size_alloc, World.size_setCell, size_setRow, size_drew] at *; omega)), hfin, (Blk.cast (by exact blkT) setsT), (by first | (with_reducible exact Ox5) | (refine OwnI.drawn Ox5 ?_ (by omega); (exact updT); done) | (refine OwnI.updX Ox5 KS5 (by decide) ?_; (exact updT); done) | (refine OwnI.updX Ox5 KE5 (by decide) ?_; (exact updT); done) | (refine OwnI.updX2 Ox5 KS5 KE5 (by decide) (by decide) ?_; (exact upd2T); done)), (by first | (with_reducible exact Oy5) | (refine OwnI.drawn Oy5 ?_ (by omega); (exact updT); done) | (refine OwnI.updX Oy5 KS5 (by decide) ?_; (exact updT); done) | (refine OwnI.updX Oy5 KE5 (by decide) ?_; (exact updT); done) | (refine OwnI.updX2 Oy5 KS5 KE5 (by decide) (by decide) ?_; (exact upd2T); done)), (by exact updT), (by exact dieT), (Blk.cast (by exact blkT) setsT), (Blk.cast (by exact blkT) setsT), (by first | (with_reducible exact Ol5) | (refine OwnI.drawn Ol5 ?_ (by omega); (exact updT); done) | (refine OwnI.updX Ol5 KS5 (by decide) ?_; (exact updT); done) | (refine OwnI.updX Ol5 KE5 (by decide) ?_; (exact updT); done) | (refine OwnI.updX2 Ol5 KS5 KE5 (by decide) (by decide) ?_; (exact upd2T); done)), (by first | (with_reducible exact Op5) | (refine OwnI.drawn Op5 ?_ (by omega); (exact updT); done) | (refine OwnI.updX Op5 KS5 (by decide) ?_; (exact updT); done) | (refine OwnI.updX Op5 KE5 (by decide) ?_; (exact updT); done) | (refine OwnI.updX2 Op5 KS5 KE5 (by decide) (by decide) ?_; (exact upd2T); done)), (by first | (with_reducible exact Oj5) | (refine OwnI.drawn Oj5 ?_ (by omega); (exact updT); done) | (refine OwnI.updX Oj5 KS5 (by decide) ?_; (exact updT); done) | (refine OwnI.updX Oj5 KE5 (by decide) ?_; (exact updT); done) | (refine OwnI.updX2 Oj5 KS5 KE5 (by decide) (by decide) ?_; (exact upd2T); done)), (by first | (with_reducible exact Oq5) | (refine OwnI.drawn Oq5 ?_ (by omega); (exact updT); done) | (refine OwnI.updX Oq5 KS5 (by decide) ?_; (exact updT); done) | (refine OwnI.updX Oq5 KE5 (by decide) ?_; (exact updT); done) | (refine OwnI.updX2 Oq5 KS5 KE5 (by decide) (by decide) ?_; (exact upd2T); done))⟩
        case rest =>
          revert wc; intro w5 hcut
          obtain ⟨nn, okb, s2, d2, q2, r2, d3, q3, r3, rfl, rfl, hnn, hfin, KN5, Ox5, Oy5, E5, hc5, KS5, KE5, Ol5, Op5, Oj5, Oq5⟩ := hcut
          have hz5 := E5.size
          clear CS4 FS4 LS4 CE4 FE4 LE4 hk94 FXq4 LXq4
          have CS5 := KS5.cell; have FS5 := KS5.frozen; have LS5 := KS5.lt
          have CE5 := KE5.cell; have FE5 := KE5.frozen; have LE5 := KE5.lt
          have CN5 := KN5.cell; have FN5 := KN5.frozen; have LN5 := KN5.lt
          cases okb
          rotate_left
          · skip
            obtain ⟨hfo2, hso2⟩ := hfin rfl
            have OO : OwnI w.heap.size 58 9 (w5.alloc (.cells #[.int .i64 ei, .int .i64 et, .int .i64 (ex : Int), .int .i64 ky, .int .i64 ok, .int .i64 oa, .int .i64 ob, .int .i64 oc, .int .i64 od] 58)) (.slice a0 n0 c0) (flEntry l) := OwnI.ext1 Ol5 ((Ext.refl _).alloc _)
            go_upto_region 12 with (first | (at_builtin; go_loud (refine wp_appendU rfl _ _ 27 rfl 58 i0 _ 9 72 Try.underlying27 hi hy0 hy1 hy2 rfl (by decide) w.heap.size _ _ rfl OO _ [ei, et, (ex : Int), ky, ok, oa, ob, oc, od] rfl (Sl.oneAt _ #[.int .i64 ei, .int .i64 et, .int .i64 (ex : Int), .int .i64 ky, .int .i64 ok, .int .i64 oa, .int .i64 ob, .int .i64 oc, .int .i64 od] _ 9 _ (by first | rfl | simp) rfl) 1000 (by simp only [length_flEntry, List.length_cons, List.length_nil]; omega) (by omega) (by omega) (by simp only [World.size_alloc]; omega) ?_; rotate_right; intro vv w6 On h3)))
            obtain ⟨a4, n4, c4, rfl⟩ := On.shape
            have Ol6 : OwnI w.heap.size 58 9 w6 (.slice a4 n4 c4) (flEntry (l ++ [DEntry.mk ei et (ex : Int) ky ⟨ok, oa, ob, oc, od⟩])) := by (have e9 : flEntry (l ++ [DEntry.mk ei et (ex : Int) ky ⟨ok, oa, ob, oc, od⟩]) = flEntry l ++ [ei, et, (ex : Int), ky, ok, oa, ob, oc, od] := (by simp [flEntry, DEntry.ints])); rw [e9]; exact On
            have hz6 := h3.size; (try simp only [World.size_alloc] at hz6)
            have E6 : Upd w w6 [g] := Upd.app (by exact updT) OO (.inr (by omega)) h3
            have hc6 : Die B w6 g := Die.app (by exact dieT) OO (by omega) h3
            have KS6 : Blk w6 w1.heap.size 35 #[.int .i64 s'.Index, .int .i64 s'.Time, .slice b2 m2 c2, .slice b3 m3 c3, .int .i64 s'.Lease.Holder, .int .i64 s'.Lease.Epoch, .int .i64 s'.Lease.Until] := Blk.app (Blk.cast (by exact blkT) (by first | rfl | simp)) OO (by decide) h3
            have KN6 : Blk w6 nn 35 #[.int .i64 s2.Index, .int .i64 s2.Time, .slice d2 q2 r2, .slice d3 q3 r3, .int .i64 s2.Lease.Holder, .int .i64 s2.Lease.Epoch, .int .i64 s2.Lease.Until] := Blk.app (Blk.cast (by exact blkT) (by first | rfl | simp)) OO (by decide) h3
            have Op6 : OwnI w.heap.size 111 2 w6 (.slice b2 m2 c2) (flPair s'.Pairs) := OwnI.app (by exact ownT) OO (by decide) h3
            have Oj6 : OwnI w.heap.size 92 5 w6 (.slice b3 m3 c3) (flJob s'.Jobs) := OwnI.app (by exact ownT) OO (by decide) h3
            have Oq6 : OwnI w.heap.size 2 1 w6 (.slice (some ⟨w.heap.size + 1, 0, none⟩) 6 6) ks2 := OwnI.app (by exact ownT) OO (by decide) h3
            have Ox6 : OwnI w.heap.size 111 2 w6 (.slice d2 q2 r2) (flPair s2.Pairs) := OwnI.app (by exact ownT) OO (by decide) h3
            have Oy6 : OwnI w.heap.size 92 5 w6 (.slice d3 q3 r3) (flJob s2.Jobs) := OwnI.app (by exact ownT) OO (by decide) h3
            clear OO h3 On
            clear CS5 FS5 LS5 CE5 FE5 LE5 CN5 FN5 LN5
            have CS6 := KS6.cell; have FS6 := KS6.frozen; have LS6 := KS6.lt
            have CN6 := KN6.cell; have FN6 := KN6.frozen; have LN6 := KN6.lt
            go_wp2_with fail
            go_roundw
            case rel => exact ⟨k - 1, l ++ [⟨ei, et, (ex : Int), ky, ⟨ok, oa, ob, oc, od⟩⟩], ks2, s2, d2, q2, r2, d3, q3, r3, by omega, by (try simp only [Value.int.injEq, true_and]); first | omega | (congr 1; omega), by simp; omega, hks2, hfo2, hso2, by exact updT, by exact dieT, (by first | (with_reducible exact Ol6) | (refine OwnI.drawn Ol6 ?_ (by omega); (exact updT); done) | (refine OwnI.updX Ol6 KN6 (by decide) ?_; (exact updT); done) | (refine OwnI.updX Ol6 KS6 (by decide) ?_; (exact updT); done) | (refine OwnI.updX2 Ol6 KN6 KS6 (by decide) (by decide) ?_; (exact upd2T); done)), (by first | (with_reducible exact Oq6) | (refine OwnI.drawn Oq6 ?_ (by omega); (exact updT); done) | (refine OwnI.updX Oq6 KN6 (by decide) ?_; (exact updT); done) | (refine OwnI.updX Oq6 KS6 (by decide) ?_; (exact updT); done) | (refine OwnI.updX2 Oq6 KN6 KS6 (by decide) (by decide) ?_; (exact upd2T); done)), Blk.cast (by exact blkT) (by first | rfl | simp), (by first | (with_reducible exact Ox6) | (refine OwnI.drawn Ox6 ?_ (by omega); (exact updT); done) | (refine OwnI.updX Ox6 KN6 (by decide) ?_; (exact updT); done) | (refine OwnI.updX Ox6 KS6 (by decide) ?_; (exact updT); done) | (refine OwnI.updX2 Ox6 KN6 KS6 (by decide) (by decide) ?_; (exact upd2T); done)), (by first | (with_reducible exact Oy6) | (refine OwnI.drawn Oy6 ?_ (by omega); (exact updT); done) | (refine OwnI.updX Oy6 KN6 (by decide) ?_; (exact updT); done) | (refine OwnI.updX Oy6 KS6 (by decide) ?_; (exact updT); done) | (refine OwnI.updX2 Oy6 KN6 KS6 (by decide) (by decide) ?_; (exact upd2T); done))⟩
            case measure => simp [intOf]; omega
          · skip
            go_wp2_with fail
            go_roundw
            case rel => exact ⟨k - 1, l, ks2, s', b2, m2, c2, b3, m3, c3, by omega, by (try simp only [Value.int.injEq, true_and]); first | omega | (congr 1; omega), by omega, hks2, hfo, hso, by exact updT, by exact dieT, (by first | (with_reducible exact Ol5) | (refine OwnI.drawn Ol5 ?_ (by omega); (exact updT); done) | (refine OwnI.updX Ol5 KN5 (by decide) ?_; (exact updT); done) | (refine OwnI.updX Ol5 KS5 (by decide) ?_; (exact updT); done) | (refine OwnI.updX2 Ol5 KN5 KS5 (by decide) (by decide) ?_; (exact upd2T); done)), (by first | (with_reducible exact Oq5) | (refine OwnI.drawn Oq5 ?_ (by omega); (exact updT); done) | (refine OwnI.updX Oq5 KN5 (by decide) ?_; (exact updT); done) | (refine OwnI.updX Oq5 KS5 (by decide) ?_; (exact updT); done) | (refine OwnI.updX2 Oq5 KN5 KS5 (by decide) (by decide) ?_; (exact upd2T); done)), Blk.cast (by exact blkT) (by first | rfl | simp), (by first | (with_reducible exact Op5) | (refine OwnI.drawn Op5 ?_ (by omega); (exact updT); done) | (refine OwnI.updX Op5 KN5 (by decide) ?_; (exact updT); done) | (refine OwnI.updX Op5 KS5 (by decide) ?_; (exact updT); done) | (refine OwnI.updX2 Op5 KN5 KS5 (by decide) (by decide) ?_; (exact upd2T); done)), (by first | (with_reducible exact Oj5) | (refine OwnI.drawn Oj5 ?_ (by omega); (exact updT); done) | (refine OwnI.updX Oj5 KN5 (by decide) ?_; (exact updT); done) | (refine OwnI.updX Oj5 KS5 (by decide) ?_; (exact updT); done) | (refine OwnI.updX2 Oj5 KN5 KS5 (by decide) (by decide) ?_; (exact upd2T); done))⟩
            case measure => simp [intOf]; omega
    · skip
      obtain rfl : k = 0 := by omega
      go_wp2_with fail
      go_ret
      exact ⟨_, rfl, by exact updT, by exact dieT, l, s', Ol2, by omega, hfo, hso⟩
set_option maxHeartbeats 4000000 in
set_option maxRecDepth 100000 in
theorem w6State_c {w : World} {v : Value} {l : List DEntry} (h : Ints 9 w v (flEntry l)) : Calls Try.prog 8 #[v] w (Ret w fun r w' => IsState w.heap.size w' r (fldD (⟨0, 0, [], [], ⟨0, 0, 0⟩⟩ : DState) l)) := by
  go_enter Try.func8, Try.ntmps8
  go_wp2_with fail
  refine (sNewState_c _).mono ?_
  rintro e w1 ⟨rfl, hx1⟩
  have KR1 : Blk w1 w.heap.size 35 #[.int .i64 0, .int .i64 0, .slice none 0 0, .slice none 0 0, .int .i64 0, .int .i64 0, .int .i64 0] := Blk.ext (by exact blkT) hx1
  have E1 : Ext w w1 := Ext.trans (by exact extT) hx1
  have hz1 := hx1.size; (try simp only [World.size_alloc] at hz1)
  clear hx1
  go_wp2_with fail
  refine (sFolded_k (s := (⟨0, 0, [], [], ⟨0, 0, 0⟩⟩ : DState)) (l := l) ⟨_, _, rfl, Ints.nil 2 _, Ints.nil 5 _⟩ (h.ext E1)).mono ?_
  rintro e w2 ⟨_, rfl, hx2, x, rfl, gx⟩
  obtain ⟨D, hD⟩ : ∃ D, D = fldD (⟨0, 0, [], [], ⟨0, 0, 0⟩⟩ : DState) l := ⟨_, rfl⟩
  rw [← hD] at gx
  obtain ⟨t2, t3, rfl, h2, h3⟩ := gx
  obtain ⟨a2, n2, k2, rfl⟩ := h2.shape
  obtain ⟨a3, n3, k3, rfl⟩ := h3.shape
  have KR2 := KR1.ext hx2
  have E2 : Ext w w2 := E1.trans hx2
  have hz2 := hx2.size
  have CR2 := KR2.cell; have FR2 := KR2.frozen; have LR2 := KR2.lt
  clear hx2 KR1
  go_wp2_with fail
  refine bodyPost_ret (by simp [results, Try.results8, go_sem, CR2, FR2, LR2]; try rfl) rfl ?_
  exact ⟨_, rfl, by exact extT, by rw [← hD]; exact ⟨_, _, rfl, (OwnI.updX2 h2 KR2 KR2 (by decide) (by decide) (by exact upd2T)).mono (by omega), (OwnI.updX2 h3 KR2 KR2 (by decide) (by decide) (by exact upd2T)).mono (by omega)⟩⟩

end Go.Proofs.Ytohoemphmghblaa

-- The dice cast; lists of entries and their states.
set_option linter.unusedSimpArgs false
set_option linter.unusedVariables false
namespace Go.Proofs.Ytohoemphmghblaa
open Go.RowKit Go.G8

end Go.Proofs.Ytohoemphmghblaa
namespace Go.G8
open Go.RowKit
open Go.Proofs.Ytohoemphmghblaa
theorem Upd.toExt {w w' : World} {g : Nat} (h : Upd w w' [g]) (hg : w.heap.size ≤ g) : Ext w w' := h.below (by simp; omega) (Nat.le_refl _)
theorem flEntry_take (l : List DEntry) (k : Nat) : flEntry (l.take k) = (flEntry l).take (k * 9) := by
  induction l generalizing k with
  | nil => simp [flEntry]
  | cons e t ih =>
    cases k with
    | zero => simp [flEntry]
    | succ k =>
      have e1 : flEntry (e :: t) = e.ints ++ flEntry t := by simp [flEntry]
      have e2 : flEntry (e :: t.take k) = e.ints ++ flEntry (t.take k) := by simp [flEntry]
      have h9 : e.ints.length = 9 := rfl
      have e3 : (k + 1) * 9 = e.ints.length + k * 9 := by rw [h9]; omega
      rw [List.take_succ_cons, e2, e1, ih, e3, List.take_length_add_append]
theorem fld_take {l : List DEntry} {m : DState} (h : foldS (⟨0, 0, [], [], ⟨0, 0, 0⟩⟩ : DState) l = (m, true)) (hl : l.length ≤ 2000) {k : Nat} (hk : k ≤ l.length) : stateOk (fldD (⟨0, 0, [], [], ⟨0, 0, 0⟩⟩ : DState) (l.take k)) = true ∧ (fldD (⟨0, 0, [], [], ⟨0, 0, 0⟩⟩ : DState) (l.take k)).Index = k := by
  obtain ⟨m', h'⟩ := foldS_take h k
  have hlen : (l.take k).length = k := by simp; omega
  have e : fldD (⟨0, 0, [], [], ⟨0, 0, 0⟩⟩ : DState) (l.take k) = m' := (fld_yes z0_ok (by omega) h').2
  rw [e]
  have h1 := foldS_ok (l.take k) (⟨0, 0, [], [], ⟨0, 0, 0⟩⟩ : DState) z0_ok
  rw [h'] at h1
  have h2 := foldS_index _ h'
  refine ⟨h1, ?_⟩
  rw [h2, hlen]; simp
end Go.G8
namespace Go.Proofs.Ytohoemphmghblaa
open Go.RowKit Go.G8
theorem IsDisk.drawn {B : Nat} {w w' : World} {v : Value} {d : DDisk} {g : Nat} (h : IsDisk B w v d) (x : Upd w w' [g]) (hg : g < B) : IsDisk B w' v d := by
  obtain ⟨F, hO⟩ := h.ow
  have := hO.upd x (fun k hk hm => by have := hO.low k hk; simp at hm; omega)
  obtain ⟨t0, t1, s0, s1, e, h0, h1, hd, _⟩ := this
  exact ⟨t0, t1, s0, s1, e, h0, h1, hd⟩
set_option maxHeartbeats 4000000 in
set_option maxRecDepth 100000 in
theorem roll_c {w : World} {v : Value} (h : Bytes w v) (seed : Int) : Calls Try.prog 5 #[v, .int .u64 seed] w (Ret w fun r w' => ∃ g : Nat, r = .pointer (some ⟨g, 0, none⟩) ∧ Die w.heap.size w' g) := by
  obtain ⟨bs, h, hb⟩ := h
  have HB := Lib.hid hb
  clear hb
  obtain ⟨a, n, k, rfl, hl, hnk, hkm, hc⟩ := h.open_
  clear h
  have HC := Lib.hid hc
  clear hc
  have hl2 : bs.length = n := by simpa using hl
  have HL := Lib.hid hl2
  clear hl hl2
  go_enter Try.func5, Try.ntmps5
  go_wp2_with fail
  go_loopw [6] (fun ii wr => ∃ (x : Int) (i : Nat), ii = .int .i64 i ∧ i ≤ n ∧ Ext w wr ∧ Blk wr w.heap.size 53 #[.slice a n k, .int .i64 0, .int .u64 x]) (fun ii _ => n - (intOf ii).toNat)
  case atStart => exact ⟨_, 0, rfl, Nat.zero_le _, by exact extT, Blk.new _ _ _⟩
  case round =>
    obtain ⟨x, i, rfl, hi, hE, hK⟩ := hrel
    have CK := hK.cell; have FK := hK.frozen; have LK := hK.lt
    by_cases hlt : i < n
    · obtain ⟨b, off, rfl, hbl, hcl⟩ := HC.out i hlt
      have hy := List.getElem?_eq_getElem (l := bs) (i := i) (by rw [HL.out]; exact hlt)
      have hce := hcl 0 _ (by simp only [Nat.mul_one, Nat.add_zero, List.getElem?_map, hy]; rfl)
      simp only [Nat.mul_one, Nat.add_zero] at hce
      obtain ⟨y, hyy⟩ : ∃ y : Int, w.cell? ⟨b, off + i, none⟩ = some (.int .u8 y) := ⟨_, hce⟩
      clear hce hcl hy
      have hlt2 : (i : Int) < (n : Int) := by omega
      unfold maxLen at hkm
      go_wp2_with fail
      refine wp_region_held_drew (S := fun w' => Ext w w') (by kernel_rfl) (by (try dsimp only); exact extT) (fun hHeld => ?_)
      refine wpAnyH_take (i := 0) (v := ?_) rfl (by kernel_rfl) (by kernel_rfl) (by kernel_rfl) (fun _ _ _ h => h) (Or.inl ⟨by rfl, ?_⟩) (by assumption) ?_
      rotate_left
      focus (intro w hSw; (try dsimp only at hSw); go_simp <;> with_reducible rfl)
      (try simp only [List.getElem_toArray, List.getElem_cons_zero, List.getElem_cons_succ, Act.put, List.setIfInBounds_toArray, List.set_cons_zero, List.set_cons_succ])
      refine wpAnyH_take (i := 1) (v := ?_) rfl (by kernel_rfl) (by kernel_rfl) (by kernel_rfl) (fun _ _ _ h => h) (Or.inl ⟨by rfl, ?_⟩) (by assumption) ?_
      rotate_left
      focus (intro w hSw; (try dsimp only at hSw); go_simp <;> with_reducible rfl)
      (try simp only [List.getElem_toArray, List.getElem_cons_zero, List.getElem_cons_succ, Act.put, List.setIfInBounds_toArray, List.set_cons_zero, List.set_cons_succ])
      refine wpAnyH_take (i := 2) (v := ?_) rfl (by kernel_rfl) (by kernel_rfl) (by kernel_rfl) (fun _ _ _ h => h) (Or.inl ⟨by rfl, ?_⟩) (by assumption) ?_
      rotate_left
      focus (intro w hSw; (try dsimp only at hSw); go_simp <;> with_reducible rfl)
      (try simp only [List.getElem_toArray, List.getElem_cons_zero, List.getElem_cons_succ, Act.put, List.setIfInBounds_toArray, List.set_cons_zero, List.set_cons_succ])
      refine wpAnyH_take (i := 3) (v := ?_) rfl (by kernel_rfl) (by kernel_rfl) (by kernel_rfl) (fun _ _ _ h => h) (Or.inl ⟨by rfl, ?_⟩) (by assumption) ?_
      rotate_left
      focus (intro w hSw; (try dsimp only at hSw); go_simp <;> with_reducible rfl)
      (try simp only [List.getElem_toArray, List.getElem_cons_zero, List.getElem_cons_succ, Act.put, List.setIfInBounds_toArray, List.set_cons_zero, List.set_cons_succ])
      refine wpAnyH_take (i := 6) (v := ?_) rfl (by kernel_rfl) (by kernel_rfl) (by kernel_rfl) (fun _ _ _ h => h) (Or.inl ⟨by rfl, ?_⟩) (by assumption) ?_
      rotate_left
      focus (intro w hSw; (try dsimp only at hSw); go_simp <;> with_reducible rfl)
      (try simp only [List.getElem_toArray, List.getElem_cons_zero, List.getElem_cons_succ, Act.put, List.setIfInBounds_toArray, List.set_cons_zero, List.set_cons_succ])
      refine wpAnyH_take (i := 7) (v := ?_) rfl (by kernel_rfl) (by kernel_rfl) (by kernel_rfl) (fun _ _ _ h => h) (Or.inl ⟨by rfl, ?_⟩) (by assumption) ?_
      rotate_left
      focus (intro w hSw; (try dsimp only at hSw); go_simp <;> with_reducible rfl)
      (try simp only [List.getElem_toArray, List.getElem_cons_zero, List.getElem_cons_succ, Act.put, List.setIfInBounds_toArray, List.set_cons_zero, List.set_cons_succ])
      refine wpAnyH_take (i := 8) (v := ?_) rfl (by kernel_rfl) (by kernel_rfl) (by kernel_rfl) (fun _ _ _ h => h) (Or.inl ⟨by rfl, ?_⟩) (by assumption) ?_
      rotate_left
      focus (intro w hSw; (try dsimp only at hSw); go_simp <;> with_reducible rfl)
      (try simp only [List.getElem_toArray, List.getElem_cons_zero, List.getElem_cons_succ, Act.put, List.setIfInBounds_toArray, List.set_cons_zero, List.set_cons_succ])
      refine wpAnyH_take (i := 9) (v := ?_) rfl (by kernel_rfl) (by kernel_rfl) (by kernel_rfl) (fun _ _ _ h => h) (Or.inl ⟨by rfl, ?_⟩) (by assumption) ?_
      rotate_left
      focus (intro w hSw; (try dsimp only at hSw); have hq := (hSw.cells.1 _ _ hbl).trans hyy; go_simp <;> with_reducible rfl)
      (try simp only [List.getElem_toArray, List.getElem_cons_zero, List.getElem_cons_succ, Act.put, List.setIfInBounds_toArray, List.set_cons_zero, List.set_cons_succ])
      refine wpAnyH_take (i := 10) (v := ?_) rfl (by kernel_rfl) (by kernel_rfl) (by kernel_rfl) (fun _ _ _ h => h) (Or.inl ⟨by rfl, ?_⟩) (by assumption) ?_
      rotate_left
      focus (intro w hSw; (try dsimp only at hSw); go_simp <;> with_reducible rfl)
      (try simp only [List.getElem_toArray, List.getElem_cons_zero, List.getElem_cons_succ, Act.put, List.setIfInBounds_toArray, List.set_cons_zero, List.set_cons_succ])
      refine wpAnyH_ready (rs := [4]) (by kernel_rfl) (by simp) ?_
      refine AllReadyH.cons rfl (fun Kz hKz => ?_) AllReadyH.nil
      (try simp only [List.getElem_toArray, List.getElem_cons_zero, List.getElem_cons_succ])
      go_simp
      refine hKz.out _ _ (by (try dsimp only); exact extT) (fun hHeld => ?_)
      clear hKz Kz
      (try simp only [List.getElem_toArray, List.getElem_cons_zero, List.getElem_cons_succ, Act.put, List.setIfInBounds_toArray, List.set_cons_zero, List.set_cons_succ])
      refine wpAnyH_take (i := 5) (v := ?_) rfl (by kernel_rfl) (by kernel_rfl) (by kernel_rfl) (fun _ _ _ h => h) (Or.inl ⟨by rfl, ?_⟩) (by assumption) ?_
      rotate_left
      focus (intro w hSw; (try dsimp only at hSw); go_simp <;> with_reducible rfl)
      (try simp only [List.getElem_toArray, List.getElem_cons_zero, List.getElem_cons_succ, Act.put, List.setIfInBounds_toArray, List.set_cons_zero, List.set_cons_succ])
      refine wpAnyH_take (i := 11) (v := ?_) rfl (by kernel_rfl) (by kernel_rfl) (by kernel_rfl) (fun _ _ _ h => h) (Or.inl ⟨by rfl, ?_⟩) (by assumption) ?_
      rotate_left
      focus (intro w hSw; (try dsimp only at hSw); go_simp <;> with_reducible rfl)
      (try simp only [List.getElem_toArray, List.getElem_cons_zero, List.getElem_cons_succ, Act.put, List.setIfInBounds_toArray, List.set_cons_zero, List.set_cons_succ])
      refine wpAnyH_take (i := 12) (v := ?_) rfl (by kernel_rfl) (by kernel_rfl) (by kernel_rfl) (fun _ _ _ h => h) (Or.inl ⟨by rfl, ?_⟩) (by assumption) ?_
      rotate_left
      focus (intro w hSw; (try dsimp only at hSw); go_simp <;> with_reducible rfl)
      (try simp only [List.getElem_toArray, List.getElem_cons_zero, List.getElem_cons_succ, Act.put, List.setIfInBounds_toArray, List.set_cons_zero, List.set_cons_succ])
      refine wpAnyH_take (i := 13) (v := ?_) rfl (by kernel_rfl) (by kernel_rfl) (by kernel_rfl) (fun _ _ _ h => h) (Or.inl ⟨by rfl, ?_⟩) (by assumption) ?_
      rotate_left
      focus (intro w hSw; (try dsimp only at hSw); go_simp <;> with_reducible rfl)
      (try simp only [List.getElem_toArray, List.getElem_cons_zero, List.getElem_cons_succ, Act.put, List.setIfInBounds_toArray, List.set_cons_zero, List.set_cons_succ])
      refine wpAnyH_take (i := 14) (v := ?_) rfl (by kernel_rfl) (by kernel_rfl) (by kernel_rfl) (fun _ _ _ h => h) (Or.inl ⟨by rfl, ?_⟩) (by assumption) ?_
      rotate_left
      focus (intro w hSw; (try dsimp only at hSw); go_simp <;> with_reducible rfl)
      (try simp only [List.getElem_toArray, List.getElem_cons_zero, List.getElem_cons_succ, Act.put, List.setIfInBounds_toArray, List.set_cons_zero, List.set_cons_succ])
      refine wpAnyH_ready (rs := [15]) (by kernel_rfl) (by simp) ?_
      refine AllReadyH.cons rfl (fun Kz hKz => ?_) AllReadyH.nil
      (try simp only [List.getElem_toArray, List.getElem_cons_zero, List.getElem_cons_succ])
      go_simp
      refine hKz.out _ _ (by (try dsimp only); exact extT) (fun hHeld => ?_)
      clear hKz Kz
      (try simp only [List.getElem_toArray, List.getElem_cons_zero, List.getElem_cons_succ, Act.put, List.setIfInBounds_toArray, List.set_cons_zero, List.set_cons_succ])
      refine wpAnyH_done (by kernel_rfl) ?_ _
      go_wp2_with fail
      go_roundw
      case rel => exact ⟨_, i + 1, by go_num, by omega, by exact extT, Blk.cast (by exact blkT) setsT⟩
      case measure => simp [intOf]; omega
    · have hin : i = n := by omega
      have hlt2 : ¬ (i : Int) < (n : Int) := by omega
      go_wp2_with fail
      go_ret
      refine ⟨_, rfl, by exact extT, _, rfl, a, n, k, 0, x, hK, Nat.le_refl _, Nat.zero_le _, hnk, hkm, fun j hj => ?_⟩
      obtain ⟨b, off, ha, hbl, hcl⟩ := HC.out j hj
      have hy := List.getElem?_eq_getElem (l := bs) (i := j) (by rw [HL.out]; exact hj)
      have hce := hcl 0 _ (by simp only [Nat.mul_one, Nat.add_zero, List.getElem?_map, hy]; rfl)
      simp only [Nat.mul_one, Nat.add_zero] at hce
      exact ⟨b, off, _, ha, hbl, (HB.out _ (List.getElem_mem _)).1, (HB.out _ (List.getElem_mem _)).2, (hE.cells.1 _ _ hbl).trans hce⟩

end Go.Proofs.Ytohoemphmghblaa
