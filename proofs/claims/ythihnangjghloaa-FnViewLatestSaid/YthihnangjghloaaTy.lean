/- Contracts and plain laws: DI W6. -/
import Derived.Test.YthihnangjghloaaSa
import Derived.Test.YthihnangjghloaaSo
import Derived.Deep.DeepCutAuto
import Derived.Deep.CutBlock
import Derived.Test.YthihnangjghloaaSp
set_option linter.unusedSimpArgs false
set_option linter.unusedVariables false
-- The dice of the laws.
set_option linter.unusedSimpArgs false
set_option linter.unusedVariables false
namespace Go.Proofs.Ythihnangjghloaa
open Go.RowKit Go.G8

end Go.Proofs.Ythihnangjghloaa
namespace Go.G8
open Go.RowKit
theorem bits_24 (x : Int) : 0 ≤ bits .and .u64 x 16777215 ∧ bits .and .u64 x 16777215 ≤ 16777215 := by
 have h : (BitVec.ofInt 64 x &&& BitVec.ofInt 64 16777215).toNat ≤ 16777215 := by
  rw [BitVec.toNat_and]
  exact Nat.and_le_right
 have e : bits .and .u64 x 16777215 = IntKind.u64.wrap ((BitVec.ofInt 64 x &&& BitVec.ofInt 64 16777215).toNat : Int) := rfl
 rw [e, IntKind.wrap_u64] <;> omega
theorem tmod24 (x y m : Int) (hm : 0 < m) (h0 : 0 ≤ y) (h1 : y ≤ 255) : 0 ≤ (RowKit.wrap64 (RowKit.wrap64 (bits .and .u64 x 16777215) + y)).tmod m ∧ (RowKit.wrap64 (RowKit.wrap64 (bits .and .u64 x 16777215) + y)).tmod m < m := by
 obtain ⟨b0, b1⟩ := bits_24 x
 rw [IntWalk.wrap64_in (bits .and .u64 x 16777215) (by omega), IntWalk.wrap64_in _ (by omega)]
 exact ⟨Int.tmod_nonneg _ (by omega), Int.tmod_lt_of_pos _ hm⟩
theorem tmod24' (x m : Int) (hm : 0 < m) : 0 ≤ (RowKit.wrap64 (bits .and .u64 x 16777215)).tmod m ∧ (RowKit.wrap64 (bits .and .u64 x 16777215)).tmod m < m := by
 obtain ⟨b0, b1⟩ := bits_24 x
 rw [IntWalk.wrap64_in (bits .and .u64 x 16777215) (by omega)]
 exact ⟨Int.tmod_nonneg _ (by omega), Int.tmod_lt_of_pos _ hm⟩
end Go.G8
namespace Go.Proofs.Ythihnangjghloaa
open Go.RowKit Go.G8
/-- The dice of a law lies at block g; its bytes below block B. -/
def Die (B : Nat) (w : World) (g : Nat) : Prop := ∃ (a : Option Addr) (n k i : Nat) (h : Int), Blk w g 85 #[.slice a n k, .int .i64 i, .int .u64 h] ∧ B ≤ g ∧ i ≤ n ∧ n ≤ k ∧ k ≤ maxLen ∧
 ∀ j, j < n → ∃ b off x, a = some ⟨b, off, none⟩ ∧ b < B ∧ 0 ≤ x ∧ x ≤ 255 ∧ w.cell? ⟨b, off + j, none⟩ = some (.int .u8 x)
theorem Die.lt {B : Nat} {w : World} {g : Nat} (h : Die B w g) : B ≤ g ∧ g < w.heap.size := let ⟨_, _, _, _, _, hk, hB, _⟩ := h; ⟨hB, hk.lt⟩
theorem Die.upd {B : Nat} {w w' : World} {g : Nat} {fs : List Nat} (h : Die B w g) (x : Upd w w' fs) (hg : g ∉ fs) (hB : ∀ k, k ∈ fs → B ≤ k) : Die B w' g := by
 obtain ⟨a, n, k, i, e, hk, h0, h1, h2, h3, h4⟩ := h
 refine ⟨a, n, k, i, e, hk.upd x hg, h0, h1, h2, h3, fun j hj => ?_⟩
 obtain ⟨b, off, y, h5, h6, h7, h8, h9⟩ := h4 j hj
 have := hk.lt
 exact ⟨b, off, y, h5, h6, h7, h8, (x.cell (by omega) (fun hm => by have := hB b hm; omega)).trans h9⟩
theorem Die.ext {B : Nat} {w w' : World} {g : Nat} (h : Die B w g) (x : Ext w w') : Die B w' g := h.upd (x.upd []) (by simp) (by simp)
theorem Die.set_ {B : Nat} {w : World} {g : Nat} (h : Die B w g) {X : Nat} (hX : g < X) (o : Nat) (u : Value) : Die B (w.setCell ⟨X, o, none⟩ u) g :=
 h.upd ((Upd.refl w [X]).setOne o u) (by simp; omega) (fun k hk => by have := h.lt; simp at hk; omega)
theorem Die.row {B : Nat} {w : World} {g : Nat} (h : Die B w g) {X : Nat} (hX : g < X) (cs : Array Value) : Die B (w.setRow X cs) g :=
 h.upd (fs := [X]) ⟨rfl, rfl, rfl, by rw [size_setRow]; exact Nat.le_refl _, fun k _ hn => heap_setRow_ne w cs (fun e => hn (by simp [e]))⟩ (by simp; omega) (fun k hk => by have := h.lt; simp at hk; omega)
theorem Die.of {B : Nat} {w w' : World} {g n k i' : Nat} {a : Option Addr} {h' : Int} (X : Upd w w' [g]) (hg : g < w.heap.size) (K : Blk w' g 85 #[.slice a n k, .int .i64 i', .int .u64 h']) (h0 : B ≤ g) (h1 : i' ≤ n) (h2 : n ≤ k) (h3 : k ≤ 9223372036854775807)
  (h4 : ∀ j, j < n → ∃ b off x, a = some ⟨b, off, none⟩ ∧ b < B ∧ 0 ≤ x ∧ x ≤ 255 ∧ w.cell? ⟨b, off + j, none⟩ = some (.int .u8 x)) : Die B w' g := by
 refine ⟨a, n, k, i', h', K, h0, h1, h2, by unfold maxLen; omega, fun j hj => ?_⟩
 obtain ⟨b, off, y, h5, h6, h7, h8, h9⟩ := h4 j hj
 exact ⟨b, off, y, h5, h6, h7, h8, (X.cell (by omega) (by simp; omega)).trans h9⟩
theorem dieT {B : Nat} {w : World} {g : Nat} (h : Die B w g := by ((repeat' (first | (with_reducible assumption) | (with_reducible refine Die.set_ ?_ ?_ _ _) | (with_reducible refine Die.row ?_ ?_ _) | (with_reducible refine Die.ext ?_ (Ext.drewN (Ext.refl _) _)) | (with_reducible refine Die.ext ?_ (Ext.drew (Ext.refl _))) | (with_reducible refine Die.ext ?_ (Ext.alloc (Ext.refl _) _)) | omega)); first | done | fail)) : Die B w g := h
/-- A draw: it hands back a value of which Q holds; the cursor's block and new ones are written. -/
def Dd (B : Nat) (w : World) (g : Nat) (Q : Value → World → Prop) (e : Ending) (w' : World) : Prop := ∃ v, e = .returned v ∧ Upd w w' [g] ∧ Die B w' g ∧ Q v w'
section
variable {B : Nat} {w : World} {g : Nat}
theorem Die.app {B0 B g n : Nat} {e : TypeId} {w w' : World} {v : Value} {cs : List Value} (h : Die B0 w g) (ho : Own B e n w v cs) (hB : g < B) (hg : w.grownBy w' v.ownBlock) : Die B0 w' g :=
 h.upd (Upd.app (Upd.refl w _) ho (fs := feet [v]) (.inl fun _ h => h) hg) (fun hm => by have := ho.footB hm; omega) (fun k hk => by have := ho.footB hk; have := h.lt; omega)
set_option maxHeartbeats 4000000 in
set_option maxRecDepth 100000 in
theorem below_c (h : Die B w g) (m : Int) (hm : 0 < m) : Calls Try.prog 10 #[.pointer (some ⟨g, 0, none⟩), .int .i64 m] w (Dd B w g fun v _ => ∃ x : Int, v = .int .i64 x ∧ 0 ≤ x ∧ x < m) := by
 have hm0 : m ≠ 0 := by omega
 have hmz : (m == 0) = false := by simp [hm0]
 have HC := Lib.hid h
 obtain ⟨a, n, k, i, e, hk, h0, h1, h2, h3, h4⟩ := h
 unfold maxLen at h3
 have CK := hk.cell; have FK := hk.frozen; have LK := hk.lt
 have HK := Lib.hid hk
 clear hk
 by_cases hi : i < n
 ·
  obtain ⟨b, off, y, rfl, hb, y0, y1, hy⟩ := h4 i hi
  have H4 := Lib.hid h4
  clear h4
  have hbg : b ≠ g := by omega
  have hbl : b < w.heap.size := by omega
  have hyb : decide ((i : Int) < (n : Int)) = true := by simp; omega
  go_enter Try.func10, Try.ntmps10
  go_wp2_with fail
  go_quiet (fail)
  go_wp2_with fail
  go_quiet (fail)
  go_wp2_with fail
  go_ret
  refine ⟨_, rfl, ?_, ?_, _, rfl, ?_, ?_⟩
  ·
   exact updT
  ·
   refine Die.of (w := w) (i' := i + 1) ?_ LK (by refine Blk.cast (by repeat' (first | (with_reducible exact HK.out) | (with_reducible apply Blk.drewN) | (with_reducible apply Blk.set_))) (by simp; rfl)) h0 (by omega) h2 (by omega) H4.out
   exact updT
  ·
   exact (tmod24 _ _ _ hm y0 y1).1
  ·
   exact (tmod24 _ _ _ hm y0 y1).2
 ·
  have hyb : decide ((i : Int) < (n : Int)) = false := by simp; omega
  go_enter Try.func10, Try.ntmps10
  go_wp2_with fail
  go_quiet (fail)
  go_wp2_with fail
  go_ret
  refine ⟨_, rfl, ?_, ?_, _, rfl, ?_, ?_⟩
  ·
   exact updT
  ·
   refine Die.of (w := w) (i' := i) ?_ LK (by refine Blk.cast (by repeat' (first | (with_reducible exact HK.out) | (with_reducible apply Blk.drewN) | (with_reducible apply Blk.set_))) (by simp; rfl)) h0 (by omega) h2 (by omega) h4
   exact updT
  ·
   exact (tmod24' _ _ hm).1
  ·
   exact (tmod24' _ _ hm).2
end

end Go.Proofs.Ythihnangjghloaa

-- Entries drawn by dice.
set_option linter.unusedSimpArgs false
set_option linter.unusedVariables false
namespace Go.Proofs.Ythihnangjghloaa
open Go.RowKit Go.G8

set_option maxHeartbeats 4000000 in
set_option maxRecDepth 100000 in
theorem w6Next_c {B : Nat} {w : World} {g : Nat} (h : Die B w g) {M : Nat} (hM : g < M) {t : Value} {s : DState} (hs : IsState M w t s) (hok : stateOk s = true) : Calls Try.prog 39 #[.pointer (some ⟨g, 0, none⟩), t] w (Dd B w g fun v w' => ∃ ei et ec es ok oa ob oc od : Int, v = .agg #[.int .i64 ei, .int .i64 et, .int .i64 ec, .int .i64 es, .int .i64 ok, .int .i64 oa, .int .i64 ob, .int .i64 oc, .int .i64 od] ∧ 0 ≤ ec ∧ ec < 6) := by
 obtain ⟨t2, t3, rfl, h2, h3⟩ := hs
 obtain ⟨a2, n2, k2, rfl⟩ := h2.shape
 obtain ⟨a3, n3, k3, rfl⟩ := h3.shape
 have Op0 := h2; have Oj0 := h3; clear h2 h3
 have hHo : 0 ≤ s.Lease.Holder ∧ s.Lease.Holder ≤ 3 := by
  have hl := (stateOk_parts hok).2.2.2.2.2.1
  simp only [leaseOk, leaseZ, schedOk, Bool.or_eq_true, Bool.and_eq_true, decide_eq_true_eq, beq_iff_eq, inb_true] at hl
  omega
 clear hok
 have hc0 := h; have E0 : Upd w w [g] := Upd.refl _ _
 have hg0 := h.lt
 go_enter Try.func39, Try.ntmps39
 go_wp2_with fail
 refine (below_c (show Die B _ g from by exact dieT) 4 (by omega)).mono ?_
 rintro e w1 ⟨_, rfl, X1, hc1, x0, rfl, px0, qx0⟩
 have hz1 := X1.size; (try simp only [szA] at hz1)
 have E1 : Upd w w1 [g] := Upd.trans (by exact updT) X1
 have KS1 : Blk w1 w.heap.size 45 #[.int .i64 s.Index, .int .i64 s.Time, .slice a2 n2 k2, .slice a3 n3 k3, .int .i64 s.Lease.Holder, .int .i64 s.Lease.Epoch, .int .i64 s.Lease.Until] := Blk.upd1 (Blk.cast (by exact blkT) (by first | rfl | simp)) X1 (by omega)
 have KR1 : Blk w1 (w.heap.size + 1) 89 #[.int .i64 0, .int .i64 0, .int .i64 0, .int .i64 0, .int .i64 0, .int .i64 0, .int .i64 0, .int .i64 0, .int .i64 0] := Blk.upd1 (Blk.cast (by exact blkT) (by first | rfl | simp)) X1 (by omega)
 have Op1 : OwnI M 182 2 w1 (.slice a2 n2 k2) (flPair s.Pairs) := OwnI.drawn (by exact ownT) X1 (by omega)
 have Oj1 : OwnI M 142 5 w1 (.slice a3 n3 k3) (flJob s.Jobs) := OwnI.drawn (by exact ownT) X1 (by omega)
 clear X1
 have CS1 := KS1.cell; have FS1 := KS1.frozen; have LS1 := KS1.lt
 have CR1 := KR1.cell; have FR1 := KR1.frozen; have LR1 := KR1.lt
 go_upto_region 2 with (fail)
 go_cut [6] (fun cx0 wx => ∃ gg : Nat, ∃ x1 : Int, cx0 = .pointer (some ⟨gg, 0, none⟩) ∧ w1.heap.size ≤ gg ∧ Blk wx gg 63 #[.int .i64 4, .int .i64 x1, .int .i64 s.Lease.Epoch, .int .i64 0, .int .i64 0] ∧ Upd w wx [g] ∧ Die B wx g ∧ Blk wx w.heap.size 45 #[.int .i64 s.Index, .int .i64 s.Time, .slice a2 n2 k2, .slice a3 n3 k3, .int .i64 s.Lease.Holder, .int .i64 s.Lease.Epoch, .int .i64 s.Lease.Until] ∧ Blk wx (w.heap.size + 1) 89 #[.int .i64 0, .int .i64 0, .int .i64 0, .int .i64 0, .int .i64 0, .int .i64 0, .int .i64 0, .int .i64 0, .int .i64 0] ∧ OwnI M 182 2 wx (.slice a2 n2 k2) (flPair s.Pairs) ∧ OwnI M 142 5 wx (.slice a3 n3 k3) (flJob s.Jobs))
 case first =>
  refine wp_region_held_drew (S := fun w' => Upd w w' [g] ∧ Die B w' g ∧ Blk w' w.heap.size 45 #[.int .i64 s.Index, .int .i64 s.Time, .slice a2 n2 k2, .slice a3 n3 k3, .int .i64 s.Lease.Holder, .int .i64 s.Lease.Epoch, .int .i64 s.Lease.Until]) (by kernel_rfl) (by (try dsimp only); exact ⟨(by exact updT), (by exact dieT), (Blk.cast (by exact blkT) setsT)⟩) (fun hHeld => ?_)
  refine wpAnyH_take (i := 0) (v := ?_) rfl (by kernel_rfl) (by kernel_rfl) (by kernel_rfl) (fun _ _ _ h => h) (Or.inl ⟨by rfl, ?_⟩) (by assumption) ?_
  rotate_left
  focus (intro w hSw; (try dsimp only at hSw); go_simp <;> with_reducible rfl)
  (try simp only [redA, Act.put])
  refine wpAnyH_take (i := 3) (v := ?_) rfl (by kernel_rfl) (by kernel_rfl) (by kernel_rfl) (fun _ _ _ h => h) (Or.inl ⟨by rfl, ?_⟩) (by assumption) ?_
  rotate_left
  focus (intro w hSw; (try dsimp only at hSw); go_simp <;> with_reducible rfl)
  (try simp only [redA, Act.put])
  refine wpAnyH_take (i := 4) (v := ?_) rfl (by kernel_rfl) (by kernel_rfl) (by kernel_rfl) (fun _ _ _ h => h) (Or.inl ⟨by rfl, ?_⟩) (by assumption) ?_
  rotate_left
  focus (intro w hSw; (try dsimp only at hSw); go_simp <;> with_reducible rfl)
  (try simp only [redA, Act.put])
  refine wpAnyH_take (i := 5) (v := ?_) rfl (by kernel_rfl) (by kernel_rfl) (by kernel_rfl) (fun _ _ _ h => h) (Or.inl ⟨by rfl, ?_⟩) (by assumption) ?_
  rotate_left
  focus (intro w hSw; (try dsimp only at hSw); have hq := hSw.2.2.cell; go_simp <;> with_reducible rfl)
  (try simp only [redA, Act.put])
  refine wpAnyH_ready (rs := [1, 7]) (by kernel_rfl) (by simp) ?_
  refine AllReadyH.cons rfl (fun Kz hKz => ?_) (AllReadyH.cons rfl (fun Kz hKz => ?_) AllReadyH.nil)
  ·
   skip
   (try simp only [redA])
   go_simp
   go_at_call 10
   refine (below_c (show Die B _ g from by exact dieT) 9 (by omega)).mono ?_
   rintro e w2 ⟨_, rfl, X2, hc2, x1, rfl, px1, qx1⟩
   have hz2 := X2.size; (try simp only [szA] at hz2)
   have E2 : Upd w w2 [g] := Upd.trans (by exact updT) X2
   have KS2 : Blk w2 w.heap.size 45 #[.int .i64 s.Index, .int .i64 s.Time, .slice a2 n2 k2, .slice a3 n3 k3, .int .i64 s.Lease.Holder, .int .i64 s.Lease.Epoch, .int .i64 s.Lease.Until] := Blk.upd1 (Blk.cast (by exact blkT) (by first | rfl | simp)) X2 (by omega)
   have KR2 : Blk w2 (w.heap.size + 1) 89 #[.int .i64 0, .int .i64 0, .int .i64 0, .int .i64 0, .int .i64 0, .int .i64 0, .int .i64 0, .int .i64 0, .int .i64 0] := Blk.upd1 (Blk.cast (by exact blkT) (by first | rfl | simp)) X2 (by omega)
   have Op2 : OwnI M 182 2 w2 (.slice a2 n2 k2) (flPair s.Pairs) := OwnI.drawn (by first | (with_reducible exact Op1) | (exact ownT)) X2 (by omega)
   have Oj2 : OwnI M 142 5 w2 (.slice a3 n3 k3) (flJob s.Jobs) := OwnI.drawn (by first | (with_reducible exact Oj1) | (exact ownT)) X2 (by omega)
   clear X2
   clear CS1 FS1 LS1 CR1 FR1 LR1
   have CS2 := KS2.cell; have FS2 := KS2.frozen; have LS2 := KS2.lt
   have CR2 := KR2.cell; have FR2 := KR2.frozen; have LR2 := KR2.lt
   refine hKz.out _ _ (by (try dsimp only); exact ⟨(by exact updT), (by exact dieT), (Blk.cast (by exact blkT) setsT)⟩) (fun hHeld => ?_)
   clear hKz Kz
   (try simp only [redA, Act.put])
   refine wpAnyH_take (i := 2) (v := ?_) rfl (by kernel_rfl) (by kernel_rfl) (by kernel_rfl) (fun _ _ _ h => h) (Or.inl ⟨by rfl, ?_⟩) (by assumption) ?_
   rotate_left
   focus (intro w hSw; (try dsimp only at hSw); go_simp <;> with_reducible rfl)
   (try simp only [redA, Act.put])
   refine wpAnyH_take (i := 6) (v := ?_) rfl (by kernel_rfl) (by kernel_rfl) (by kernel_rfl) (fun _ _ _ h => h) (Or.inl ⟨by rfl, ?_⟩) (by assumption) ?_
   rotate_left
   focus (intro w hSw; (try dsimp only at hSw); go_simp <;> with_reducible rfl)
   (try simp only [redA, Act.put])
   refine wpAnyH_ready (rs := [7]) (by kernel_rfl) (by simp) ?_
   refine AllReadyH.cons rfl (fun Kz hKz => ?_) AllReadyH.nil
   (try simp only [redA])
   go_simp
   refine hKz.out _ _ (by (try dsimp only); exact ⟨(by exact updT), (by exact dieT), (Blk.cast (by exact blkT) setsT)⟩) (fun hHeld => ?_)
   clear hKz Kz
   (try simp only [redA, Act.put])
   refine wpAnyH_ready (rs := [8]) (by kernel_rfl) (by simp) ?_
   refine AllReadyH.cons rfl (fun Kz hKz => ?_) AllReadyH.nil
   (try simp only [redA])
   go_simp
   refine hKz.out _ _ (by (try dsimp only); exact ⟨(by exact updT), (by exact dieT), (Blk.cast (by exact blkT) setsT)⟩) (fun hHeld => ?_)
   clear hKz Kz
   (try simp only [redA, Act.put])
   refine wpAnyH_done (by kernel_rfl) ?_ _
   go_wp2_with fail
   go_meet
   case rel => exact ⟨_, _, (by first | rfl | trivial), (by first | omega | (simp only [World.size_alloc, size_drew]; omega)), (Blk.cast (by exact blkT) setsT), (by exact updT), (by exact dieT), (Blk.cast (by exact blkT) setsT), (Blk.cast (by exact blkT) setsT), (by first | (with_reducible exact Op2) | (refine OwnI.drawn Op2 ?_ (by omega); (exact updT); done)), (by first | (with_reducible exact Oj2) | (refine OwnI.drawn Oj2 ?_ (by omega); (exact updT); done))⟩
  ·
   skip
   (try simp only [redA])
   go_simp
   refine hKz.out _ _ (by (try dsimp only); exact ⟨(by exact updT), (by exact dieT), (Blk.cast (by exact blkT) setsT)⟩) (fun hHeld => ?_)
   clear hKz Kz
   (try simp only [redA, Act.put])
   refine wpAnyH_ready (rs := [1]) (by kernel_rfl) (by simp) ?_
   refine AllReadyH.cons rfl (fun Kz hKz => ?_) AllReadyH.nil
   (try simp only [redA])
   go_simp
   go_at_call 10
   refine (below_c (show Die B _ g from by exact dieT) 9 (by omega)).mono ?_
   rintro e w2 ⟨_, rfl, X2, hc2, x1, rfl, px1, qx1⟩
   have hz2 := X2.size; (try simp only [szA] at hz2)
   have E2 : Upd w w2 [g] := Upd.trans (by exact updT) X2
   have KS2 : Blk w2 w.heap.size 45 #[.int .i64 s.Index, .int .i64 s.Time, .slice a2 n2 k2, .slice a3 n3 k3, .int .i64 s.Lease.Holder, .int .i64 s.Lease.Epoch, .int .i64 s.Lease.Until] := Blk.upd1 (Blk.cast (by exact blkT) (by first | rfl | simp)) X2 (by omega)
   have KR2 : Blk w2 (w.heap.size + 1) 89 #[.int .i64 0, .int .i64 0, .int .i64 0, .int .i64 0, .int .i64 0, .int .i64 0, .int .i64 0, .int .i64 0, .int .i64 0] := Blk.upd1 (Blk.cast (by exact blkT) (by first | rfl | simp)) X2 (by omega)
   have KL2 : Blk w2 w1.heap.size 63 #[.int .i64 0, .int .i64 0, .int .i64 0, .int .i64 0, .int .i64 0] := Blk.upd1 (Blk.cast (by exact blkT) (by first | rfl | simp)) X2 (by omega)
   have Op2 : OwnI M 182 2 w2 (.slice a2 n2 k2) (flPair s.Pairs) := OwnI.drawn (by first | (with_reducible exact Op1) | (refine OwnI.updX Op1 KL1 (by decide) ?_; (exact updT); done) | (exact ownT)) X2 (by omega)
   have Oj2 : OwnI M 142 5 w2 (.slice a3 n3 k3) (flJob s.Jobs) := OwnI.drawn (by first | (with_reducible exact Oj1) | (refine OwnI.updX Oj1 KL1 (by decide) ?_; (exact updT); done) | (exact ownT)) X2 (by omega)
   clear X2
   clear CS1 FS1 LS1 CR1 FR1 LR1
   have CS2 := KS2.cell; have FS2 := KS2.frozen; have LS2 := KS2.lt
   have CR2 := KR2.cell; have FR2 := KR2.frozen; have LR2 := KR2.lt
   have CL2 := KL2.cell; have FL2 := KL2.frozen; have LL2 := KL2.lt
   refine hKz.out _ _ (by (try dsimp only); exact ⟨(by exact updT), (by exact dieT), (Blk.cast (by exact blkT) setsT)⟩) (fun hHeld => ?_)
   clear hKz Kz
   (try simp only [redA, Act.put])
   refine wpAnyH_take (i := 2) (v := ?_) rfl (by kernel_rfl) (by kernel_rfl) (by kernel_rfl) (fun _ _ _ h => h) (Or.inl ⟨by rfl, ?_⟩) (by assumption) ?_
   rotate_left
   focus (intro w hSw; (try dsimp only at hSw); go_simp <;> with_reducible rfl)
   (try simp only [redA, Act.put])
   refine wpAnyH_take (i := 6) (v := ?_) rfl (by kernel_rfl) (by kernel_rfl) (by kernel_rfl) (fun _ _ _ h => h) (Or.inl ⟨by rfl, ?_⟩) (by assumption) ?_
   rotate_left
   focus (intro w hSw; (try dsimp only at hSw); go_simp <;> with_reducible rfl)
   (try simp only [redA, Act.put])
   refine wpAnyH_ready (rs := [8]) (by kernel_rfl) (by simp) ?_
   refine AllReadyH.cons rfl (fun Kz hKz => ?_) AllReadyH.nil
   (try simp only [redA])
   go_simp
   refine hKz.out _ _ (by (try dsimp only); exact ⟨(by exact updT), (by exact dieT), (Blk.cast (by exact blkT) setsT)⟩) (fun hHeld => ?_)
   clear hKz Kz
   (try simp only [redA, Act.put])
   refine wpAnyH_done (by kernel_rfl) ?_ _
   go_wp2_with fail
   go_meet
   case rel => exact ⟨_, _, (by first | rfl | trivial), (by first | omega | (simp only [World.size_alloc, size_drew]; omega)), (Blk.cast (by exact blkT) setsT), (by exact updT), (by exact dieT), (Blk.cast (by exact blkT) setsT), (Blk.cast (by exact blkT) setsT), (by first | (with_reducible exact Op2) | (refine OwnI.drawn Op2 ?_ (by omega); (exact updT); done) | (refine OwnI.updX Op2 KL2 (by decide) ?_; (exact updT); done)), (by first | (with_reducible exact Oj2) | (refine OwnI.drawn Oj2 ?_ (by omega); (exact updT); done) | (refine OwnI.updX Oj2 KL2 (by decide) ?_; (exact updT); done))⟩
 case rest =>
  revert wc; intro w2 hcut
  obtain ⟨gg, x1, rfl, hgg, KL2, E2, hc2, KS2, KR2, Op2, Oj2⟩ := hcut
  have hz2 := E2.size
  clear CS1 FS1 LS1 CR1 FR1 LR1
  have CS2 := KS2.cell; have FS2 := KS2.frozen; have LS2 := KS2.lt
  have CR2 := KR2.cell; have FR2 := KR2.frozen; have LR2 := KR2.lt
  have CL2 := KL2.cell; have FL2 := KL2.frozen; have LL2 := KL2.lt
  go_wp2_with fail
  refine (below_c (show Die B _ g from by exact dieT) 10 (by omega)).mono ?_
  rintro e w3 ⟨_, rfl, X3, hc3, m, rfl, pm, qm⟩
  have hz3 := X3.size; (try simp only [szA] at hz3)
  have E3 : Upd w w3 [g] := Upd.trans (by exact updT) X3
  have KS3 : Blk w3 w.heap.size 45 #[.int .i64 s.Index, .int .i64 s.Time, .slice a2 n2 k2, .slice a3 n3 k3, .int .i64 s.Lease.Holder, .int .i64 s.Lease.Epoch, .int .i64 s.Lease.Until] := Blk.upd1 (Blk.cast (by exact blkT) (by first | rfl | simp)) X3 (by omega)
  have KR3 : Blk w3 (w.heap.size + 1) 89 #[.int .i64 0, .int .i64 0, .int .i64 0, .int .i64 0, .int .i64 0, .int .i64 0, .int .i64 0, .int .i64 0, .int .i64 0] := Blk.upd1 (Blk.cast (by exact blkT) (by first | rfl | simp)) X3 (by omega)
  have KL3 : Blk w3 gg 63 #[.int .i64 4, .int .i64 x1, .int .i64 s.Lease.Epoch, .int .i64 0, .int .i64 0] := Blk.upd1 (Blk.cast (by exact blkT) (by first | rfl | simp)) X3 (by omega)
  have Op3 : OwnI M 182 2 w3 (.slice a2 n2 k2) (flPair s.Pairs) := OwnI.drawn (by first | (with_reducible exact Op2) | (refine OwnI.updX Op2 KL2 (by decide) ?_; (exact updT); done) | (exact ownT)) X3 (by omega)
  have Oj3 : OwnI M 142 5 w3 (.slice a3 n3 k3) (flJob s.Jobs) := OwnI.drawn (by first | (with_reducible exact Oj2) | (refine OwnI.updX Oj2 KL2 (by decide) ?_; (exact updT); done) | (exact ownT)) X3 (by omega)
  clear X3
  clear CS2 FS2 LS2 CR2 FR2 LR2 CL2 FL2 LL2
  have CS3 := KS3.cell; have FS3 := KS3.frozen; have LS3 := KS3.lt
  have CR3 := KR3.cell; have FR3 := KR3.frozen; have LR3 := KR3.lt
  have CL3 := KL3.cell; have FL3 := KL3.frozen; have LL3 := KL3.lt
  go_upto_block 0 with (fail)
  go_cut [5] (fun cx0 wx => ∃ cl : Int, ∃ y0 : Int, ∃ y1 : Int, ∃ y2 : Int, ∃ y3 : Int, ∃ y4 : Int, cx0 = .int .i64 cl ∧ (0 ≤ cl ∧ cl < 6) ∧ Blk wx gg 63 #[.int .i64 y0, .int .i64 y1, .int .i64 y2, .int .i64 y3, .int .i64 y4] ∧ Upd w wx [g] ∧ Die B wx g ∧ Blk wx w.heap.size 45 #[.int .i64 s.Index, .int .i64 s.Time, .slice a2 n2 k2, .slice a3 n3 k3, .int .i64 s.Lease.Holder, .int .i64 s.Lease.Epoch, .int .i64 s.Lease.Until] ∧ Blk wx (w.heap.size + 1) 89 #[.int .i64 0, .int .i64 0, .int .i64 0, .int .i64 0, .int .i64 0, .int .i64 0, .int .i64 0, .int .i64 0, .int .i64 0] ∧ OwnI M 182 2 wx (.slice a2 n2 k2) (flPair s.Pairs) ∧ OwnI M 142 5 wx (.slice a3 n3 k3) (flJob s.Jobs))
  case first =>
   obtain hway | hway | hway | hway | hway : (m = 0 ∨ m = 1) ∨ (m = 2) ∨ (m = 3 ∨ m = 4 ∨ m = 5) ∨ (m = 6 ∨ m = 7) ∨ m ≥ 8 := by omega
   ·
    skip
    obtain rfl | rfl := hway
    all_goals
     go_wp2_with fail
     refine (below_c (show Die B _ g from by exact dieT) 5 (by omega)).mono ?_
     rintro e w4 ⟨_, rfl, X4, hc4, x2, rfl, px2, qx2⟩
     have hz4 := X4.size; (try simp only [szA] at hz4)
     have E4 : Upd w w4 [g] := Upd.trans (by exact updT) X4
     have KS4 : Blk w4 w.heap.size 45 #[.int .i64 s.Index, .int .i64 s.Time, .slice a2 n2 k2, .slice a3 n3 k3, .int .i64 s.Lease.Holder, .int .i64 s.Lease.Epoch, .int .i64 s.Lease.Until] := Blk.upd1 (Blk.cast (by exact blkT) (by first | rfl | simp)) X4 (by omega)
     have KR4 : Blk w4 (w.heap.size + 1) 89 #[.int .i64 0, .int .i64 0, .int .i64 0, .int .i64 0, .int .i64 0, .int .i64 0, .int .i64 0, .int .i64 0, .int .i64 0] := Blk.upd1 (Blk.cast (by exact blkT) (by first | rfl | simp)) X4 (by omega)
     have KL4 : Blk w4 gg 63 #[.int .i64 4, .int .i64 x1, .int .i64 s.Lease.Epoch, .int .i64 0, .int .i64 0] := Blk.upd1 (Blk.cast (by exact blkT) (by first | rfl | simp)) X4 (by omega)
     have Op4 : OwnI M 182 2 w4 (.slice a2 n2 k2) (flPair s.Pairs) := OwnI.drawn (by first | (with_reducible exact Op3) | (refine OwnI.updX Op3 KL3 (by decide) ?_; (exact updT); done) | (exact ownT)) X4 (by omega)
     have Oj4 : OwnI M 142 5 w4 (.slice a3 n3 k3) (flJob s.Jobs) := OwnI.drawn (by first | (with_reducible exact Oj3) | (refine OwnI.updX Oj3 KL3 (by decide) ?_; (exact updT); done) | (exact ownT)) X4 (by omega)
     clear X4
     clear CS3 FS3 LS3 CR3 FR3 LR3 CL3 FL3 LL3
     have CS4 := KS4.cell; have FS4 := KS4.frozen; have LS4 := KS4.lt
     have CR4 := KR4.cell; have FR4 := KR4.frozen; have LR4 := KR4.lt
     have CL4 := KL4.cell; have FL4 := KL4.frozen; have LL4 := KL4.lt
     go_wp2_with fail
     refine (below_c (show Die B _ g from by exact dieT) 9 (by omega)).mono ?_
     rintro e w5 ⟨_, rfl, X5, hc5, x3, rfl, px3, qx3⟩
     have hz5 := X5.size; (try simp only [szA] at hz5)
     have E5 : Upd w w5 [g] := Upd.trans (by exact updT) X5
     have KS5 : Blk w5 w.heap.size 45 #[.int .i64 s.Index, .int .i64 s.Time, .slice a2 n2 k2, .slice a3 n3 k3, .int .i64 s.Lease.Holder, .int .i64 s.Lease.Epoch, .int .i64 s.Lease.Until] := Blk.upd1 (Blk.cast (by exact blkT) (by first | rfl | simp)) X5 (by omega)
     have KR5 : Blk w5 (w.heap.size + 1) 89 #[.int .i64 0, .int .i64 0, .int .i64 0, .int .i64 0, .int .i64 0, .int .i64 0, .int .i64 0, .int .i64 0, .int .i64 0] := Blk.upd1 (Blk.cast (by exact blkT) (by first | rfl | simp)) X5 (by omega)
     have KL5 : Blk w5 gg 63 #[.int .i64 4, .int .i64 x1, .int .i64 s.Lease.Epoch, .int .i64 0, .int .i64 0] := Blk.upd1 (Blk.cast (by exact blkT) (by first | rfl | simp)) X5 (by omega)
     have Op5 : OwnI M 182 2 w5 (.slice a2 n2 k2) (flPair s.Pairs) := OwnI.drawn (by first | (with_reducible exact Op4) | (refine OwnI.updX Op4 KL4 (by decide) ?_; (exact updT); done) | (exact ownT)) X5 (by omega)
     have Oj5 : OwnI M 142 5 w5 (.slice a3 n3 k3) (flJob s.Jobs) := OwnI.drawn (by first | (with_reducible exact Oj4) | (refine OwnI.updX Oj4 KL4 (by decide) ?_; (exact updT); done) | (exact ownT)) X5 (by omega)
     clear X5
     clear CS4 FS4 LS4 CR4 FR4 LR4 CL4 FL4 LL4
     have CS5 := KS5.cell; have FS5 := KS5.frozen; have LS5 := KS5.lt
     have CR5 := KR5.cell; have FR5 := KR5.frozen; have LR5 := KR5.lt
     have CL5 := KL5.cell; have FL5 := KL5.frozen; have LL5 := KL5.lt
     go_wp2_with fail
     go_meet
     case rel => exact ⟨_, _, _, _, _, _, (by first | rfl | trivial), (by omega), (Blk.cast (by exact blkT) setsT), (by exact updT), (by exact dieT), (Blk.cast (by exact blkT) setsT), (Blk.cast (by exact blkT) setsT), (by first | (with_reducible exact Op5) | (refine OwnI.drawn Op5 ?_ (by omega); (exact updT); done) | (refine OwnI.updX Op5 KL5 (by decide) ?_; (exact updT); done)), (by first | (with_reducible exact Oj5) | (refine OwnI.drawn Oj5 ?_ (by omega); (exact updT); done) | (refine OwnI.updX Oj5 KL5 (by decide) ?_; (exact updT); done))⟩
   ·
    skip
    obtain rfl := hway
    go_wp2_with fail
    refine (below_c (show Die B _ g from by exact dieT) 5 (by omega)).mono ?_
    rintro e w4 ⟨_, rfl, X4, hc4, x2, rfl, px2, qx2⟩
    have hz4 := X4.size; (try simp only [szA] at hz4)
    have E4 : Upd w w4 [g] := Upd.trans (by exact updT) X4
    have KS4 : Blk w4 w.heap.size 45 #[.int .i64 s.Index, .int .i64 s.Time, .slice a2 n2 k2, .slice a3 n3 k3, .int .i64 s.Lease.Holder, .int .i64 s.Lease.Epoch, .int .i64 s.Lease.Until] := Blk.upd1 (Blk.cast (by exact blkT) (by first | rfl | simp)) X4 (by omega)
    have KR4 : Blk w4 (w.heap.size + 1) 89 #[.int .i64 0, .int .i64 0, .int .i64 0, .int .i64 0, .int .i64 0, .int .i64 0, .int .i64 0, .int .i64 0, .int .i64 0] := Blk.upd1 (Blk.cast (by exact blkT) (by first | rfl | simp)) X4 (by omega)
    have KL4 : Blk w4 gg 63 #[.int .i64 4, .int .i64 x1, .int .i64 s.Lease.Epoch, .int .i64 0, .int .i64 0] := Blk.upd1 (Blk.cast (by exact blkT) (by first | rfl | simp)) X4 (by omega)
    have Op4 : OwnI M 182 2 w4 (.slice a2 n2 k2) (flPair s.Pairs) := OwnI.drawn (by first | (with_reducible exact Op3) | (refine OwnI.updX Op3 KL3 (by decide) ?_; (exact updT); done) | (exact ownT)) X4 (by omega)
    have Oj4 : OwnI M 142 5 w4 (.slice a3 n3 k3) (flJob s.Jobs) := OwnI.drawn (by first | (with_reducible exact Oj3) | (refine OwnI.updX Oj3 KL3 (by decide) ?_; (exact updT); done) | (exact ownT)) X4 (by omega)
    clear X4
    clear CS3 FS3 LS3 CR3 FR3 LR3 CL3 FL3 LL3
    have CS4 := KS4.cell; have FS4 := KS4.frozen; have LS4 := KS4.lt
    have CR4 := KR4.cell; have FR4 := KR4.frozen; have LR4 := KR4.lt
    have CL4 := KL4.cell; have FL4 := KL4.frozen; have LL4 := KL4.lt
    go_wp2_with fail
    go_meet
    case rel => exact ⟨_, _, _, _, _, _, (by first | rfl | trivial), (by omega), (Blk.cast (by exact blkT) setsT), (by exact updT), (by exact dieT), (Blk.cast (by exact blkT) setsT), (Blk.cast (by exact blkT) setsT), (by first | (with_reducible exact Op4) | (refine OwnI.drawn Op4 ?_ (by omega); (exact updT); done) | (refine OwnI.updX Op4 KL4 (by decide) ?_; (exact updT); done)), (by first | (with_reducible exact Oj4) | (refine OwnI.drawn Oj4 ?_ (by omega); (exact updT); done) | (refine OwnI.updX Oj4 KL4 (by decide) ?_; (exact updT); done))⟩
   ·
    skip
    obtain rfl | rfl | rfl := hway
    all_goals
     go_wp2_with fail
     refine wp_region_held_drew (S := fun w' => Upd w w' [g] ∧ Die B w' g ∧ Blk w' w.heap.size 45 #[.int .i64 s.Index, .int .i64 s.Time, .slice a2 n2 k2, .slice a3 n3 k3, .int .i64 s.Lease.Holder, .int .i64 s.Lease.Epoch, .int .i64 s.Lease.Until]) (by kernel_rfl) (by (try dsimp only); exact ⟨(by exact updT), (by exact dieT), (Blk.cast (by exact blkT) setsT)⟩) (fun hHeld => ?_)
     refine wpAnyH_take (i := 0) (v := ?_) rfl (by kernel_rfl) (by kernel_rfl) (by kernel_rfl) (fun _ _ _ h => h) (Or.inl ⟨by rfl, ?_⟩) (by assumption) ?_
     rotate_left
     focus (intro w hSw; (try dsimp only at hSw); go_simp <;> with_reducible rfl)
     (try simp only [redA, Act.put])
     refine wpAnyH_take (i := 3) (v := ?_) rfl (by kernel_rfl) (by kernel_rfl) (by kernel_rfl) (fun _ _ _ h => h) (Or.inl ⟨by rfl, ?_⟩) (by assumption) ?_
     rotate_left
     focus (intro w hSw; (try dsimp only at hSw); go_simp <;> with_reducible rfl)
     (try simp only [redA, Act.put])
     refine wpAnyH_take (i := 4) (v := ?_) rfl (by kernel_rfl) (by kernel_rfl) (by kernel_rfl) (fun _ _ _ h => h) (Or.inl ⟨by rfl, ?_⟩) (by assumption) ?_
     rotate_left
     focus (intro w hSw; (try dsimp only at hSw); have hq := hSw.2.2.cell; go_simp <;> with_reducible rfl)
     (try simp only [redA, Act.put])
     refine wpAnyH_take (i := 5) (v := ?_) rfl (by kernel_rfl) (by kernel_rfl) (by kernel_rfl) (fun _ _ _ h => h) (Or.inl ⟨by rfl, ?_⟩) (by assumption) ?_
     rotate_left
     focus (intro w hSw; (try dsimp only at hSw); go_simp <;> with_reducible rfl)
     (try simp only [redA, Act.put])
     refine wpAnyH_take (i := 8) (v := ?_) rfl (by kernel_rfl) (by kernel_rfl) (by kernel_rfl) (fun _ _ _ h => h) (Or.inl ⟨by rfl, ?_⟩) (by assumption) ?_
     rotate_left
     focus (intro w hSw; (try dsimp only at hSw); go_simp <;> with_reducible rfl)
     (try simp only [redA, Act.put])
     refine wpAnyH_take (i := 10) (v := ?_) rfl (by kernel_rfl) (by kernel_rfl) (by kernel_rfl) (fun _ _ _ h => h) (Or.inl ⟨by rfl, ?_⟩) (by assumption) ?_
     rotate_left
     focus (intro w hSw; (try dsimp only at hSw); go_simp <;> with_reducible rfl)
     (try simp only [redA, Act.put])
     refine wpAnyH_ready (rs := [1]) (by kernel_rfl) (by simp) ?_
     refine AllReadyH.cons rfl (fun Kz hKz => ?_) AllReadyH.nil
     (try simp only [redA])
     go_simp
     go_at_call 10
     refine (below_c (show Die B _ g from by exact dieT) 9 (by omega)).mono ?_
     rintro e w4 ⟨_, rfl, X4, hc4, x2, rfl, px2, qx2⟩
     have hz4 := X4.size; (try simp only [szA] at hz4)
     have E4 : Upd w w4 [g] := Upd.trans (by exact updT) X4
     have KS4 : Blk w4 w.heap.size 45 #[.int .i64 s.Index, .int .i64 s.Time, .slice a2 n2 k2, .slice a3 n3 k3, .int .i64 s.Lease.Holder, .int .i64 s.Lease.Epoch, .int .i64 s.Lease.Until] := Blk.upd1 (Blk.cast (by exact blkT) (by first | rfl | simp)) X4 (by omega)
     have KR4 : Blk w4 (w.heap.size + 1) 89 #[.int .i64 0, .int .i64 0, .int .i64 0, .int .i64 0, .int .i64 0, .int .i64 0, .int .i64 0, .int .i64 0, .int .i64 0] := Blk.upd1 (Blk.cast (by exact blkT) (by first | rfl | simp)) X4 (by omega)
     have KL4 : Blk w4 gg 63 #[.int .i64 4, .int .i64 x1, .int .i64 s.Lease.Epoch, .int .i64 0, .int .i64 0] := Blk.upd1 (Blk.cast (by exact blkT) (by first | rfl | simp)) X4 (by omega)
     have Op4 : OwnI M 182 2 w4 (.slice a2 n2 k2) (flPair s.Pairs) := OwnI.drawn (by first | (with_reducible exact Op3) | (refine OwnI.updX Op3 KL3 (by decide) ?_; (exact updT); done) | (exact ownT)) X4 (by omega)
     have Oj4 : OwnI M 142 5 w4 (.slice a3 n3 k3) (flJob s.Jobs) := OwnI.drawn (by first | (with_reducible exact Oj3) | (refine OwnI.updX Oj3 KL3 (by decide) ?_; (exact updT); done) | (exact ownT)) X4 (by omega)
     clear X4
     clear CS3 FS3 LS3 CR3 FR3 LR3 CL3 FL3 LL3
     have CS4 := KS4.cell; have FS4 := KS4.frozen; have LS4 := KS4.lt
     have CR4 := KR4.cell; have FR4 := KR4.frozen; have LR4 := KR4.lt
     have CL4 := KL4.cell; have FL4 := KL4.frozen; have LL4 := KL4.lt
     refine hKz.out _ _ (by (try dsimp only); exact ⟨(by exact updT), (by exact dieT), (Blk.cast (by exact blkT) setsT)⟩) (fun hHeld => ?_)
     clear hKz Kz
     (try simp only [redA, Act.put])
     refine wpAnyH_take (i := 2) (v := ?_) rfl (by kernel_rfl) (by kernel_rfl) (by kernel_rfl) (fun _ _ _ h => h) (Or.inl ⟨by rfl, ?_⟩) (by assumption) ?_
     rotate_left
     focus (intro w hSw; (try dsimp only at hSw); go_simp <;> with_reducible rfl)
     (try simp only [redA, Act.put])
     refine wpAnyH_ready (rs := [6]) (by kernel_rfl) (by simp) ?_
     refine AllReadyH.cons rfl (fun Kz hKz => ?_) AllReadyH.nil
     (try simp only [redA])
     go_simp
     go_at_call 10
     refine (below_c (show Die B _ g from by exact dieT) 12 (by omega)).mono ?_
     rintro e w5 ⟨_, rfl, X5, hc5, x3, rfl, px3, qx3⟩
     have hz5 := X5.size; (try simp only [szA] at hz5)
     have E5 : Upd w w5 [g] := Upd.trans (by exact updT) X5
     have KS5 : Blk w5 w.heap.size 45 #[.int .i64 s.Index, .int .i64 s.Time, .slice a2 n2 k2, .slice a3 n3 k3, .int .i64 s.Lease.Holder, .int .i64 s.Lease.Epoch, .int .i64 s.Lease.Until] := Blk.upd1 (Blk.cast (by exact blkT) (by first | rfl | simp)) X5 (by omega)
     have KR5 : Blk w5 (w.heap.size + 1) 89 #[.int .i64 0, .int .i64 0, .int .i64 0, .int .i64 0, .int .i64 0, .int .i64 0, .int .i64 0, .int .i64 0, .int .i64 0] := Blk.upd1 (Blk.cast (by exact blkT) (by first | rfl | simp)) X5 (by omega)
     have KL5 : Blk w5 gg 63 #[.int .i64 4, .int .i64 x1, .int .i64 s.Lease.Epoch, .int .i64 0, .int .i64 0] := Blk.upd1 (Blk.cast (by exact blkT) (by first | rfl | simp)) X5 (by omega)
     have Op5 : OwnI M 182 2 w5 (.slice a2 n2 k2) (flPair s.Pairs) := OwnI.drawn (by first | (with_reducible exact Op4) | (refine OwnI.updX Op4 KL4 (by decide) ?_; (exact updT); done) | (exact ownT)) X5 (by omega)
     have Oj5 : OwnI M 142 5 w5 (.slice a3 n3 k3) (flJob s.Jobs) := OwnI.drawn (by first | (with_reducible exact Oj4) | (refine OwnI.updX Oj4 KL4 (by decide) ?_; (exact updT); done) | (exact ownT)) X5 (by omega)
     clear X5
     clear CS4 FS4 LS4 CR4 FR4 LR4 CL4 FL4 LL4
     have CS5 := KS5.cell; have FS5 := KS5.frozen; have LS5 := KS5.lt
     have CR5 := KR5.cell; have FR5 := KR5.frozen; have LR5 := KR5.lt
     have CL5 := KL5.cell; have FL5 := KL5.frozen; have LL5 := KL5.lt
     refine hKz.out _ _ (by (try dsimp only); exact ⟨(by exact updT), (by exact dieT), (Blk.cast (by exact blkT) setsT)⟩) (fun hHeld => ?_)
     clear hKz Kz
     (try simp only [redA, Act.put])
     refine wpAnyH_take (i := 7) (v := ?_) rfl (by kernel_rfl) (by kernel_rfl) (by kernel_rfl) (fun _ _ _ h => h) (Or.inl ⟨by rfl, ?_⟩) (by assumption) ?_
     rotate_left
     focus (intro w hSw; (try dsimp only at hSw); go_simp <;> with_reducible rfl)
     (try simp only [redA, Act.put])
     refine wpAnyH_ready (rs := [9]) (by kernel_rfl) (by simp) ?_
     refine AllReadyH.cons rfl (fun Kz hKz => ?_) AllReadyH.nil
     (try simp only [redA])
     go_simp
     go_at_call 10
     refine (below_c (show Die B _ g from by exact dieT) 5 (by omega)).mono ?_
     rintro e w6 ⟨_, rfl, X6, hc6, x4, rfl, px4, qx4⟩
     have hz6 := X6.size; (try simp only [szA] at hz6)
     have E6 : Upd w w6 [g] := Upd.trans (by exact updT) X6
     have KS6 : Blk w6 w.heap.size 45 #[.int .i64 s.Index, .int .i64 s.Time, .slice a2 n2 k2, .slice a3 n3 k3, .int .i64 s.Lease.Holder, .int .i64 s.Lease.Epoch, .int .i64 s.Lease.Until] := Blk.upd1 (Blk.cast (by exact blkT) (by first | rfl | simp)) X6 (by omega)
     have KR6 : Blk w6 (w.heap.size + 1) 89 #[.int .i64 0, .int .i64 0, .int .i64 0, .int .i64 0, .int .i64 0, .int .i64 0, .int .i64 0, .int .i64 0, .int .i64 0] := Blk.upd1 (Blk.cast (by exact blkT) (by first | rfl | simp)) X6 (by omega)
     have KL6 : Blk w6 gg 63 #[.int .i64 4, .int .i64 x1, .int .i64 s.Lease.Epoch, .int .i64 0, .int .i64 0] := Blk.upd1 (Blk.cast (by exact blkT) (by first | rfl | simp)) X6 (by omega)
     have Op6 : OwnI M 182 2 w6 (.slice a2 n2 k2) (flPair s.Pairs) := OwnI.drawn (by first | (with_reducible exact Op5) | (refine OwnI.updX Op5 KL5 (by decide) ?_; (exact updT); done) | (exact ownT)) X6 (by omega)
     have Oj6 : OwnI M 142 5 w6 (.slice a3 n3 k3) (flJob s.Jobs) := OwnI.drawn (by first | (with_reducible exact Oj5) | (refine OwnI.updX Oj5 KL5 (by decide) ?_; (exact updT); done) | (exact ownT)) X6 (by omega)
     clear X6
     clear CS5 FS5 LS5 CR5 FR5 LR5 CL5 FL5 LL5
     have CS6 := KS6.cell; have FS6 := KS6.frozen; have LS6 := KS6.lt
     have CR6 := KR6.cell; have FR6 := KR6.frozen; have LR6 := KR6.lt
     have CL6 := KL6.cell; have FL6 := KL6.frozen; have LL6 := KL6.lt
     refine hKz.out _ _ (by (try dsimp only); exact ⟨(by exact updT), (by exact dieT), (Blk.cast (by exact blkT) setsT)⟩) (fun hHeld => ?_)
     clear hKz Kz
     (try simp only [redA, Act.put])
     refine wpAnyH_ready (rs := [11]) (by kernel_rfl) (by simp) ?_
     refine AllReadyH.cons rfl (fun Kz hKz => ?_) AllReadyH.nil
     (try simp only [redA])
     go_simp
     go_at_call 10
     refine (below_c (show Die B _ g from by exact dieT) 9 (by omega)).mono ?_
     rintro e w7 ⟨_, rfl, X7, hc7, x5, rfl, px5, qx5⟩
     have hz7 := X7.size; (try simp only [szA] at hz7)
     have E7 : Upd w w7 [g] := Upd.trans (by exact updT) X7
     have KS7 : Blk w7 w.heap.size 45 #[.int .i64 s.Index, .int .i64 s.Time, .slice a2 n2 k2, .slice a3 n3 k3, .int .i64 s.Lease.Holder, .int .i64 s.Lease.Epoch, .int .i64 s.Lease.Until] := Blk.upd1 (Blk.cast (by exact blkT) (by first | rfl | simp)) X7 (by omega)
     have KR7 : Blk w7 (w.heap.size + 1) 89 #[.int .i64 0, .int .i64 0, .int .i64 0, .int .i64 0, .int .i64 0, .int .i64 0, .int .i64 0, .int .i64 0, .int .i64 0] := Blk.upd1 (Blk.cast (by exact blkT) (by first | rfl | simp)) X7 (by omega)
     have KL7 : Blk w7 gg 63 #[.int .i64 4, .int .i64 x1, .int .i64 s.Lease.Epoch, .int .i64 0, .int .i64 0] := Blk.upd1 (Blk.cast (by exact blkT) (by first | rfl | simp)) X7 (by omega)
     have Op7 : OwnI M 182 2 w7 (.slice a2 n2 k2) (flPair s.Pairs) := OwnI.drawn (by first | (with_reducible exact Op6) | (refine OwnI.updX Op6 KL6 (by decide) ?_; (exact updT); done) | (exact ownT)) X7 (by omega)
     have Oj7 : OwnI M 142 5 w7 (.slice a3 n3 k3) (flJob s.Jobs) := OwnI.drawn (by first | (with_reducible exact Oj6) | (refine OwnI.updX Oj6 KL6 (by decide) ?_; (exact updT); done) | (exact ownT)) X7 (by omega)
     clear X7
     clear CS6 FS6 LS6 CR6 FR6 LR6 CL6 FL6 LL6
     have CS7 := KS7.cell; have FS7 := KS7.frozen; have LS7 := KS7.lt
     have CR7 := KR7.cell; have FR7 := KR7.frozen; have LR7 := KR7.lt
     have CL7 := KL7.cell; have FL7 := KL7.frozen; have LL7 := KL7.lt
     refine hKz.out _ _ (by (try dsimp only); exact ⟨(by exact updT), (by exact dieT), (Blk.cast (by exact blkT) setsT)⟩) (fun hHeld => ?_)
     clear hKz Kz
     (try simp only [redA, Act.put])
     refine wpAnyH_take (i := 12) (v := ?_) rfl (by kernel_rfl) (by kernel_rfl) (by kernel_rfl) (fun _ _ _ h => h) (Or.inl ⟨by rfl, ?_⟩) (by assumption) ?_
     rotate_left
     focus (intro w hSw; (try dsimp only at hSw); go_simp <;> with_reducible rfl)
     (try simp only [redA, Act.put])
     refine wpAnyH_take (i := 13) (v := ?_) rfl (by kernel_rfl) (by kernel_rfl) (by kernel_rfl) (fun _ _ _ h => h) (Or.inl ⟨by rfl, ?_⟩) (by assumption) ?_
     rotate_left
     focus (intro w hSw; (try dsimp only at hSw); go_simp <;> with_reducible rfl)
     (try simp only [redA, Act.put])
     refine wpAnyH_ready (rs := [14]) (by kernel_rfl) (by simp) ?_
     refine AllReadyH.cons rfl (fun Kz hKz => ?_) AllReadyH.nil
     (try simp only [redA])
     go_simp
     refine hKz.out _ _ (by (try dsimp only); exact ⟨(by exact updT), (by exact dieT), (Blk.cast (by exact blkT) setsT)⟩) (fun hHeld => ?_)
     clear hKz Kz
     (try simp only [redA, Act.put])
     refine wpAnyH_done (by kernel_rfl) ?_ _
     go_wp2_with fail
     go_meet
     case rel => exact ⟨_, _, _, _, _, _, (by first | rfl | trivial), (by omega), (Blk.cast (by exact blkT) setsT), (by exact updT), (by exact dieT), (Blk.cast (by exact blkT) setsT), (Blk.cast (by exact blkT) setsT), (by first | (with_reducible exact Op7) | (refine OwnI.drawn Op7 ?_ (by omega); (exact updT); done) | (refine OwnI.updX Op7 KL7 (by decide) ?_; (exact updT); done)), (by first | (with_reducible exact Oj7) | (refine OwnI.drawn Oj7 ?_ (by omega); (exact updT); done) | (refine OwnI.updX Oj7 KL7 (by decide) ?_; (exact updT); done))⟩
   ·
    skip
    obtain rfl | rfl := hway
    all_goals
     go_wp2_with fail
     refine (below_c (show Die B _ g from by exact dieT) 25 (by omega)).mono ?_
     rintro e w4 ⟨_, rfl, X4, hc4, x2, rfl, px2, qx2⟩
     have hz4 := X4.size; (try simp only [szA] at hz4)
     have E4 : Upd w w4 [g] := Upd.trans (by exact updT) X4
     have KS4 : Blk w4 w.heap.size 45 #[.int .i64 s.Index, .int .i64 s.Time, .slice a2 n2 k2, .slice a3 n3 k3, .int .i64 s.Lease.Holder, .int .i64 s.Lease.Epoch, .int .i64 s.Lease.Until] := Blk.upd1 (Blk.cast (by exact blkT) (by first | rfl | simp)) X4 (by omega)
     have KR4 : Blk w4 (w.heap.size + 1) 89 #[.int .i64 0, .int .i64 0, .int .i64 0, .int .i64 0, .int .i64 0, .int .i64 0, .int .i64 0, .int .i64 0, .int .i64 0] := Blk.upd1 (Blk.cast (by exact blkT) (by first | rfl | simp)) X4 (by omega)
     have KL4 : Blk w4 gg 63 #[.int .i64 4, .int .i64 x1, .int .i64 s.Lease.Epoch, .int .i64 0, .int .i64 0] := Blk.upd1 (Blk.cast (by exact blkT) (by first | rfl | simp)) X4 (by omega)
     have Op4 : OwnI M 182 2 w4 (.slice a2 n2 k2) (flPair s.Pairs) := OwnI.drawn (by first | (with_reducible exact Op3) | (refine OwnI.updX Op3 KL3 (by decide) ?_; (exact updT); done) | (exact ownT)) X4 (by omega)
     have Oj4 : OwnI M 142 5 w4 (.slice a3 n3 k3) (flJob s.Jobs) := OwnI.drawn (by first | (with_reducible exact Oj3) | (refine OwnI.updX Oj3 KL3 (by decide) ?_; (exact updT); done) | (exact ownT)) X4 (by omega)
     clear X4
     clear CS3 FS3 LS3 CR3 FR3 LR3 CL3 FL3 LL3
     have CS4 := KS4.cell; have FS4 := KS4.frozen; have LS4 := KS4.lt
     have CR4 := KR4.cell; have FR4 := KR4.frozen; have LR4 := KR4.lt
     have CL4 := KL4.cell; have FL4 := KL4.frozen; have LL4 := KL4.lt
     go_upto_region 21 with (fail)
     go_wp2_with fail
     refine (below_c (show Die B _ g from by exact dieT) 2 (by omega)).mono ?_
     rintro e w5 ⟨_, rfl, X5, hc5, x3, rfl, px3, qx3⟩
     have hz5 := X5.size; (try simp only [szA] at hz5)
     have E5 : Upd w w5 [g] := Upd.trans (by exact updT) X5
     have KS5 : Blk w5 w.heap.size 45 #[.int .i64 s.Index, .int .i64 s.Time, .slice a2 n2 k2, .slice a3 n3 k3, .int .i64 s.Lease.Holder, .int .i64 s.Lease.Epoch, .int .i64 s.Lease.Until] := Blk.upd1 (Blk.cast (by exact blkT) (by first | rfl | simp)) X5 (by omega)
     have KR5 : Blk w5 (w.heap.size + 1) 89 #[.int .i64 0, .int .i64 0, .int .i64 0, .int .i64 0, .int .i64 0, .int .i64 0, .int .i64 0, .int .i64 0, .int .i64 0] := Blk.upd1 (Blk.cast (by exact blkT) (by first | rfl | simp)) X5 (by omega)
     have KL5 : Blk w5 gg 63 #[.int .i64 5, .int .i64 (1 + x2), .int .i64 0, .int .i64 0, .int .i64 0] := Blk.upd1 (Blk.cast (by exact blkT) (by first | rfl | simp)) X5 (by omega)
     have Op5 : OwnI M 182 2 w5 (.slice a2 n2 k2) (flPair s.Pairs) := OwnI.drawn (by first | (with_reducible exact Op4) | (refine OwnI.updX Op4 KL4 (by decide) ?_; (exact updT); done) | (exact ownT)) X5 (by omega)
     have Oj5 : OwnI M 142 5 w5 (.slice a3 n3 k3) (flJob s.Jobs) := OwnI.drawn (by first | (with_reducible exact Oj4) | (refine OwnI.updX Oj4 KL4 (by decide) ?_; (exact updT); done) | (exact ownT)) X5 (by omega)
     clear X5
     clear CS4 FS4 LS4 CR4 FR4 LR4 CL4 FL4 LL4
     have CS5 := KS5.cell; have FS5 := KS5.frozen; have LS5 := KS5.lt
     have CR5 := KR5.cell; have FR5 := KR5.frozen; have LR5 := KR5.lt
     have CL5 := KL5.cell; have FL5 := KL5.frozen; have LL5 := KL5.lt
     go_wp2_with fail
     go_meet
     case rel => exact ⟨_, _, _, _, _, _, (by first | rfl | trivial), (by omega), (Blk.cast (by exact blkT) setsT), (by exact updT), (by exact dieT), (Blk.cast (by exact blkT) setsT), (Blk.cast (by exact blkT) setsT), (by first | (with_reducible exact Op5) | (refine OwnI.drawn Op5 ?_ (by omega); (exact updT); done) | (refine OwnI.updX Op5 KL5 (by decide) ?_; (exact updT); done)), (by first | (with_reducible exact Oj5) | (refine OwnI.drawn Oj5 ?_ (by omega); (exact updT); done) | (refine OwnI.updX Oj5 KL5 (by decide) ?_; (exact updT); done))⟩
   ·
    skip
    have hb0 : (m == 0) = false := by simp; omega
    have hb1 : (m == 1) = false := by simp; omega
    have hb2 : (m == 2) = false := by simp; omega
    have hb3 : (m == 3) = false := by simp; omega
    have hb4 : (m == 4) = false := by simp; omega
    have hb5 : (m == 5) = false := by simp; omega
    have hb6 : (m == 6) = false := by simp; omega
    have hb7 : (m == 7) = false := by simp; omega
    go_wp2_with fail
    refine (sOpenJobs_k _ _ s.Jobs (OwnI.ints (show OwnI M 142 5 _ _ (flJob s.Jobs) from by exact ownT))).mono ?_
    rintro e w4 ⟨_, rfl, hx4, Od4⟩
    have hz4 := hx4.size; (try simp only [szA] at hz4)
    have E4 : Upd w w4 [g] := Upd.ext (by exact updT) hx4
    have hc4 : Die B w4 g := Die.ext (by exact dieT) hx4
    have KS4 : Blk w4 w.heap.size 45 #[.int .i64 s.Index, .int .i64 s.Time, .slice a2 n2 k2, .slice a3 n3 k3, .int .i64 s.Lease.Holder, .int .i64 s.Lease.Epoch, .int .i64 s.Lease.Until] := Blk.ext (Blk.cast (by exact blkT) (by first | rfl | simp)) hx4
    have KR4 : Blk w4 (w.heap.size + 1) 89 #[.int .i64 0, .int .i64 0, .int .i64 0, .int .i64 0, .int .i64 0, .int .i64 0, .int .i64 0, .int .i64 0, .int .i64 0] := Blk.ext (Blk.cast (by exact blkT) (by first | rfl | simp)) hx4
    have KL4 : Blk w4 gg 63 #[.int .i64 4, .int .i64 x1, .int .i64 s.Lease.Epoch, .int .i64 0, .int .i64 0] := Blk.ext (Blk.cast (by exact blkT) (by first | rfl | simp)) hx4
    have Op4 : OwnI M 182 2 w4 (.slice a2 n2 k2) (flPair s.Pairs) := OwnI.ext1 (by first | (with_reducible exact Op3) | (refine OwnI.updX Op3 KL3 (by decide) ?_; (exact updT); done) | (exact ownT)) hx4
    have Oj4 : OwnI M 142 5 w4 (.slice a3 n3 k3) (flJob s.Jobs) := OwnI.ext1 (by first | (with_reducible exact Oj3) | (refine OwnI.updX Oj3 KL3 (by decide) ?_; (exact updT); done) | (exact ownT)) hx4
    clear hx4
    clear CS3 FS3 LS3 CR3 FR3 LR3 CL3 FL3 LL3
    have CS4 := KS4.cell; have FS4 := KS4.frozen; have LS4 := KS4.lt
    have CR4 := KR4.cell; have FR4 := KR4.frozen; have LR4 := KR4.lt
    have CL4 := KL4.cell; have FL4 := KL4.frozen; have LL4 := KL4.lt
    obtain ⟨q, hq⟩ : ∃ q, q = openD s.Jobs := ⟨_, rfl⟩
    rw [← hq] at Od4; clear hq
    obtain ⟨ta, tn, tc, rfl, hl0, hcc, hm0, hor⟩ := Own.open_ Od4
    have htn : tn = q.length := by simp only [List.length_map, length_dues] at hl0; omega
    subst htn; clear hl0
    rcases Nat.eq_zero_or_pos q.length with h00 | h00
    ·
     skip
     obtain rfl := List.length_eq_zero_iff.1 h00
     by_cases hh : 0 < s.Lease.Holder
     ·
      skip
      go_wp2_with fail
      refine (below_c (show Die B _ g from by exact dieT) 4 (by omega)).mono ?_
      rintro e w5 ⟨_, rfl, X5, hc5, x9, rfl, px9, qx9⟩
      have hz5 := X5.size; (try simp only [szA] at hz5)
      have E5 : Upd w w5 [g] := Upd.trans (by exact updT) X5
      have KS5 : Blk w5 w.heap.size 45 #[.int .i64 s.Index, .int .i64 s.Time, .slice a2 n2 k2, .slice a3 n3 k3, .int .i64 s.Lease.Holder, .int .i64 s.Lease.Epoch, .int .i64 s.Lease.Until] := Blk.upd1 (Blk.cast (by exact blkT) (by first | rfl | simp)) X5 (by omega)
      have KR5 : Blk w5 (w.heap.size + 1) 89 #[.int .i64 0, .int .i64 0, .int .i64 0, .int .i64 0, .int .i64 0, .int .i64 0, .int .i64 0, .int .i64 0, .int .i64 0] := Blk.upd1 (Blk.cast (by exact blkT) (by first | rfl | simp)) X5 (by omega)
      have KL5 : Blk w5 gg 63 #[.int .i64 4, .int .i64 x1, .int .i64 s.Lease.Epoch, .int .i64 0, .int .i64 0] := Blk.upd1 (Blk.cast (by exact blkT) (by first | rfl | simp)) X5 (by omega)
      have Op5 : OwnI M 182 2 w5 (.slice a2 n2 k2) (flPair s.Pairs) := OwnI.drawn (by first | (with_reducible exact Op4) | (refine OwnI.updX Op4 KL4 (by decide) ?_; (exact updT); done) | (exact ownT)) X5 (by omega)
      have Oj5 : OwnI M 142 5 w5 (.slice a3 n3 k3) (flJob s.Jobs) := OwnI.drawn (by first | (with_reducible exact Oj4) | (refine OwnI.updX Oj4 KL4 (by decide) ?_; (exact updT); done) | (exact ownT)) X5 (by omega)
      clear X5
      clear CS4 FS4 LS4 CR4 FR4 LR4 CL4 FL4 LL4
      have CS5 := KS5.cell; have FS5 := KS5.frozen; have LS5 := KS5.lt
      have CR5 := KR5.cell; have FR5 := KR5.frozen; have LR5 := KR5.lt
      have CL5 := KL5.cell; have FL5 := KL5.frozen; have LL5 := KL5.lt
      by_cases hx9 : 0 < x9
      ·
       skip
       go_wp2_with fail
       go_meet
       case rel => exact ⟨_, _, _, _, _, _, (by first | rfl | trivial), (by omega), (Blk.cast (by exact blkT) setsT), (by exact updT), (by exact dieT), (Blk.cast (by exact blkT) setsT), (Blk.cast (by exact blkT) setsT), (by first | (with_reducible exact Op5) | (refine OwnI.drawn Op5 ?_ (by omega); (exact updT); done) | (refine OwnI.updX Op5 KL5 (by decide) ?_; (exact updT); done)), (by first | (with_reducible exact Oj5) | (refine OwnI.drawn Oj5 ?_ (by omega); (exact updT); done) | (refine OwnI.updX Oj5 KL5 (by decide) ?_; (exact updT); done))⟩
      ·
       skip
       go_wp2_with fail
       go_meet
       case rel => exact ⟨_, _, _, _, _, _, (by first | rfl | trivial), (by omega), (Blk.cast (by exact blkT) setsT), (by exact updT), (by exact dieT), (Blk.cast (by exact blkT) setsT), (Blk.cast (by exact blkT) setsT), (by first | (with_reducible exact Op5) | (refine OwnI.drawn Op5 ?_ (by omega); (exact updT); done) | (refine OwnI.updX Op5 KL5 (by decide) ?_; (exact updT); done)), (by first | (with_reducible exact Oj5) | (refine OwnI.drawn Oj5 ?_ (by omega); (exact updT); done) | (refine OwnI.updX Oj5 KL5 (by decide) ?_; (exact updT); done))⟩
     ·
      skip
      go_wp2_with fail
      go_meet
      case rel => exact ⟨_, _, _, _, _, _, (by first | rfl | trivial), (by omega), (Blk.cast (by exact blkT) setsT), (by exact updT), (by exact dieT), (Blk.cast (by exact blkT) setsT), (Blk.cast (by exact blkT) setsT), (by first | (with_reducible exact Op4) | (refine OwnI.drawn Op4 ?_ (by omega); (exact updT); done) | (refine OwnI.updX Op4 KL4 (by decide) ?_; (exact updT); done)), (by first | (with_reducible exact Oj4) | (refine OwnI.drawn Oj4 ?_ (by omega); (exact updT); done) | (refine OwnI.updX Oj4 KL4 (by decide) ?_; (exact updT); done))⟩
    rcases hor with h01 | ⟨X, cur, rfl, hXB, hX, hXs, hXp⟩
    ·
     omega
    have hd : decide (0 < (q.length : Int)) = true := by simp; omega
    obtain ⟨curd4, KXd4⟩ := Own.typed' Od4 (X := X) rfl
    have FXd4 := KXd4.frozen; have LXd4 := KXd4.lt
    obtain ⟨_, _, hsld, _, _, hrec⟩ := Od4.ints.recs (f := DDue.ints) (fun _ => rfl) (by decide)
    obtain ⟨ddd, bbd, ood, hddd, hbad, _, hccd⟩ := hrec 0 (by omega)
    injection hsld with hs1 hs2 hs3
    rw [← hs1] at hbad; injection hbad with hbad; injection hbad with hb1 hb2; subst hb1; subst hb2; clear hs1 hs2 hs3 hrec
    have hced0 := hccd 0 _ (by decide) rfl; (try simp only [Nat.zero_mul, Nat.zero_add, Nat.add_zero] at hced0)
    clear hccd
    go_upto_region 7 with (fail)
    by_cases hh : 0 < s.Lease.Holder
    ·
     skip
     go_wp2_with fail
     refine (below_c (show Die B _ g from by exact dieT) 4 (by omega)).mono ?_
     rintro e w5 ⟨_, rfl, X5, hc5, x9, rfl, px9, qx9⟩
     have hz5 := X5.size; (try simp only [szA] at hz5)
     have E5 : Upd w w5 [g] := Upd.trans (by exact updT) X5
     have KS5 : Blk w5 w.heap.size 45 #[.int .i64 s.Index, .int .i64 s.Time, .slice a2 n2 k2, .slice a3 n3 k3, .int .i64 s.Lease.Holder, .int .i64 s.Lease.Epoch, .int .i64 s.Lease.Until] := Blk.upd1 (Blk.cast (by exact blkT) (by first | rfl | simp)) X5 (by omega)
     have KR5 : Blk w5 (w.heap.size + 1) 89 #[.int .i64 0, .int .i64 0, .int .i64 0, .int .i64 0, .int .i64 0, .int .i64 0, .int .i64 0, .int .i64 0, .int .i64 0] := Blk.upd1 (Blk.cast (by exact blkT) (by first | rfl | simp)) X5 (by omega)
     have KL5 : Blk w5 gg 63 #[.int .i64 4, .int .i64 ddd.Id, .int .i64 s.Lease.Epoch, .int .i64 0, .int .i64 0] := Blk.upd1 (Blk.cast (by exact blkT) (by first | rfl | simp)) X5 (by omega)
     have Op5 : OwnI M 182 2 w5 (.slice a2 n2 k2) (flPair s.Pairs) := OwnI.drawn (by first | (with_reducible exact Op4) | (refine OwnI.updX Op4 KL4 (by decide) ?_; (exact updT); done) | (exact ownT)) X5 (by omega)
     have Oj5 : OwnI M 142 5 w5 (.slice a3 n3 k3) (flJob s.Jobs) := OwnI.drawn (by first | (with_reducible exact Oj4) | (refine OwnI.updX Oj4 KL4 (by decide) ?_; (exact updT); done) | (exact ownT)) X5 (by omega)
     have Od5 : OwnI w3.heap.size 132 2 w5 (.slice (some ⟨X, 0, none⟩) q.length tc) (dues q) := OwnI.drawn (by first | (with_reducible exact Od4) | (refine OwnI.updX Od4 KL4 (by decide) ?_; (exact updT); done) | (exact ownT)) X5 (by omega)
     clear X5
     clear CS4 FS4 LS4 CR4 FR4 LR4 CL4 FL4 LL4 FXd4 LXd4 hced0
     have CS5 := KS5.cell; have FS5 := KS5.frozen; have LS5 := KS5.lt
     have CR5 := KR5.cell; have FR5 := KR5.frozen; have LR5 := KR5.lt
     have CL5 := KL5.cell; have FL5 := KL5.frozen; have LL5 := KL5.lt
     by_cases hx9 : 0 < x9
     ·
      skip
      go_wp2_with fail
      go_meet
      case rel => exact ⟨_, _, _, _, _, _, (by first | rfl | trivial), (by omega), (Blk.cast (by exact blkT) setsT), (by exact updT), (by exact dieT), (Blk.cast (by exact blkT) setsT), (Blk.cast (by exact blkT) setsT), (by first | (with_reducible exact Op5) | (refine OwnI.drawn Op5 ?_ (by omega); (exact updT); done) | (refine OwnI.updX Op5 KL5 (by decide) ?_; (exact updT); done)), (by first | (with_reducible exact Oj5) | (refine OwnI.drawn Oj5 ?_ (by omega); (exact updT); done) | (refine OwnI.updX Oj5 KL5 (by decide) ?_; (exact updT); done))⟩
     ·
      skip
      go_wp2_with fail
      go_meet
      case rel => exact ⟨_, _, _, _, _, _, (by first | rfl | trivial), (by omega), (Blk.cast (by exact blkT) setsT), (by exact updT), (by exact dieT), (Blk.cast (by exact blkT) setsT), (Blk.cast (by exact blkT) setsT), (by first | (with_reducible exact Op5) | (refine OwnI.drawn Op5 ?_ (by omega); (exact updT); done) | (refine OwnI.updX Op5 KL5 (by decide) ?_; (exact updT); done)), (by first | (with_reducible exact Oj5) | (refine OwnI.drawn Oj5 ?_ (by omega); (exact updT); done) | (refine OwnI.updX Oj5 KL5 (by decide) ?_; (exact updT); done))⟩
    ·
     skip
     go_wp2_with fail
     go_meet
     case rel => exact ⟨_, _, _, _, _, _, (by first | rfl | trivial), (by omega), (Blk.cast (by exact blkT) setsT), (by exact updT), (by exact dieT), (Blk.cast (by exact blkT) setsT), (Blk.cast (by exact blkT) setsT), (by first | (with_reducible exact Op4) | (refine OwnI.drawn Op4 ?_ (by omega); (exact updT); done) | (refine OwnI.updX Op4 KL4 (by decide) ?_; (exact updT); done)), (by first | (with_reducible exact Oj4) | (refine OwnI.drawn Oj4 ?_ (by omega); (exact updT); done) | (refine OwnI.updX Oj4 KL4 (by decide) ?_; (exact updT); done))⟩
  case rest =>
   revert wc; intro w4 hcut
   obtain ⟨cl, y0, y1, y2, y3, y4, rfl, hcl, KL4, E4, hc4, KS4, KR4, Op4, Oj4⟩ := hcut
   have hz4 := E4.size
   clear CS3 FS3 LS3 CR3 FR3 LR3 CL3 FL3 LL3
   have CS4 := KS4.cell; have FS4 := KS4.frozen; have LS4 := KS4.lt
   have CR4 := KR4.cell; have FR4 := KR4.frozen; have LR4 := KR4.lt
   have CL4 := KL4.cell; have FL4 := KL4.frozen; have LL4 := KL4.lt
   go_upto_region 22 with (fail)
   refine wp_region_held_drew (S := fun w' => Upd w w' [g] ∧ Die B w' g ∧ Blk w' w.heap.size 45 #[.int .i64 s.Index, .int .i64 s.Time, .slice a2 n2 k2, .slice a3 n3 k3, .int .i64 s.Lease.Holder, .int .i64 s.Lease.Epoch, .int .i64 s.Lease.Until] ∧ Blk w' gg 63 #[.int .i64 y0, .int .i64 y1, .int .i64 y2, .int .i64 y3, .int .i64 y4]) (by kernel_rfl) (by (try dsimp only); exact ⟨(by exact updT), (by exact dieT), (Blk.cast (by exact blkT) setsT), (Blk.cast (by exact blkT) setsT)⟩) (fun hHeld => ?_)
   refine wpAnyH_take (i := 0) (v := ?_) rfl (by kernel_rfl) (by kernel_rfl) (by kernel_rfl) (fun _ _ _ h => h) (Or.inl ⟨by rfl, ?_⟩) (by assumption) ?_
   rotate_left
   focus (intro w hSw; (try dsimp only at hSw); go_simp <;> with_reducible rfl)
   (try simp only [redA, Act.put])
   refine wpAnyH_take (i := 1) (v := ?_) rfl (by kernel_rfl) (by kernel_rfl) (by kernel_rfl) (fun _ _ _ h => h) (Or.inl ⟨by rfl, ?_⟩) (by assumption) ?_
   rotate_left
   focus (intro w hSw; (try dsimp only at hSw); have hq := hSw.2.2.1.cell; go_simp <;> with_reducible rfl)
   (try simp only [redA, Act.put])
   refine wpAnyH_take (i := 2) (v := ?_) rfl (by kernel_rfl) (by kernel_rfl) (by kernel_rfl) (fun _ _ _ h => h) (Or.inl ⟨by rfl, ?_⟩) (by assumption) ?_
   rotate_left
   focus (intro w hSw; (try dsimp only at hSw); go_simp <;> with_reducible rfl)
   (try simp only [redA, Act.put])
   refine wpAnyH_take (i := 3) (v := ?_) rfl (by kernel_rfl) (by kernel_rfl) (by kernel_rfl) (fun _ _ _ h => h) (Or.inl ⟨by rfl, ?_⟩) (by assumption) ?_
   rotate_left
   focus (intro w hSw; (try dsimp only at hSw); go_simp <;> with_reducible rfl)
   (try simp only [redA, Act.put])
   refine wpAnyH_take (i := 4) (v := ?_) rfl (by kernel_rfl) (by kernel_rfl) (by kernel_rfl) (fun _ _ _ h => h) (Or.inl ⟨by rfl, ?_⟩) (by assumption) ?_
   rotate_left
   focus (intro w hSw; (try dsimp only at hSw); have hq := hSw.2.2.1.cell; go_simp <;> with_reducible rfl)
   (try simp only [redA, Act.put])
   refine wpAnyH_take (i := 5) (v := ?_) rfl (by kernel_rfl) (by kernel_rfl) (by kernel_rfl) (fun _ _ _ h => h) (Or.inl ⟨by rfl, ?_⟩) (by assumption) ?_
   rotate_left
   focus (intro w hSw; (try dsimp only at hSw); go_simp <;> with_reducible rfl)
   (try simp only [redA, Act.put])
   refine wpAnyH_take (i := 8) (v := ?_) rfl (by kernel_rfl) (by kernel_rfl) (by kernel_rfl) (fun _ _ _ h => h) (Or.inl ⟨by rfl, ?_⟩) (by assumption) ?_
   rotate_left
   focus (intro w hSw; (try dsimp only at hSw); go_simp <;> with_reducible rfl)
   (try simp only [redA, Act.put])
   refine wpAnyH_take (i := 9) (v := ?_) rfl (by kernel_rfl) (by kernel_rfl) (by kernel_rfl) (fun _ _ _ h => h) (Or.inl ⟨by rfl, ?_⟩) (by assumption) ?_
   rotate_left
   focus (intro w hSw; (try dsimp only at hSw); have hq := hSw.2.2.2.cell; go_simp <;> with_reducible rfl)
   (try simp only [redA, Act.put])
   refine wpAnyH_ready (rs := [6]) (by kernel_rfl) (by simp) ?_
   refine AllReadyH.cons rfl (fun Kz hKz => ?_) AllReadyH.nil
   (try simp only [redA])
   go_simp
   go_at_call 10
   refine (below_c (show Die B _ g from by exact dieT) 6 (by omega)).mono ?_
   rintro e w5 ⟨_, rfl, X5, hc5, z, rfl, pz, qz⟩
   have hz5 := X5.size; (try simp only [szA] at hz5)
   have E5 : Upd w w5 [g] := Upd.trans (by exact updT) X5
   have KS5 : Blk w5 w.heap.size 45 #[.int .i64 s.Index, .int .i64 s.Time, .slice a2 n2 k2, .slice a3 n3 k3, .int .i64 s.Lease.Holder, .int .i64 s.Lease.Epoch, .int .i64 s.Lease.Until] := Blk.upd1 (Blk.cast (by exact blkT) (by first | rfl | simp)) X5 (by omega)
   have KR5 : Blk w5 (w.heap.size + 1) 89 #[.int .i64 0, .int .i64 0, .int .i64 0, .int .i64 0, .int .i64 0, .int .i64 0, .int .i64 0, .int .i64 0, .int .i64 0] := Blk.upd1 (Blk.cast (by exact blkT) (by first | rfl | simp)) X5 (by omega)
   have KL5 : Blk w5 gg 63 #[.int .i64 y0, .int .i64 y1, .int .i64 y2, .int .i64 y3, .int .i64 y4] := Blk.upd1 (Blk.cast (by exact blkT) (by first | rfl | simp)) X5 (by omega)
   have Op5 : OwnI M 182 2 w5 (.slice a2 n2 k2) (flPair s.Pairs) := OwnI.drawn (by first | (with_reducible exact Op4) | (refine OwnI.updX Op4 KL4 (by decide) ?_; (exact updT); done) | (exact ownT)) X5 (by omega)
   have Oj5 : OwnI M 142 5 w5 (.slice a3 n3 k3) (flJob s.Jobs) := OwnI.drawn (by first | (with_reducible exact Oj4) | (refine OwnI.updX Oj4 KL4 (by decide) ?_; (exact updT); done) | (exact ownT)) X5 (by omega)
   clear X5
   clear CS4 FS4 LS4 CR4 FR4 LR4 CL4 FL4 LL4
   have CS5 := KS5.cell; have FS5 := KS5.frozen; have LS5 := KS5.lt
   have CR5 := KR5.cell; have FR5 := KR5.frozen; have LR5 := KR5.lt
   have CL5 := KL5.cell; have FL5 := KL5.frozen; have LL5 := KL5.lt
   refine hKz.out _ _ (by (try dsimp only); exact ⟨(by exact updT), (by exact dieT), (Blk.cast (by exact blkT) setsT), (Blk.cast (by exact blkT) setsT)⟩) (fun hHeld => ?_)
   clear hKz Kz
   (try simp only [redA, Act.put])
   refine wpAnyH_take (i := 7) (v := ?_) rfl (by kernel_rfl) (by kernel_rfl) (by kernel_rfl) (fun _ _ _ h => h) (Or.inl ⟨by rfl, ?_⟩) (by assumption) ?_
   rotate_left
   focus (intro w hSw; (try dsimp only at hSw); go_simp <;> with_reducible rfl)
   (try simp only [redA, Act.put])
   refine wpAnyH_take (i := 10) (v := ?_) rfl (by kernel_rfl) (by kernel_rfl) (by kernel_rfl) (fun _ _ _ h => h) (Or.inl ⟨by rfl, ?_⟩) (by assumption) ?_
   rotate_left
   focus (intro w hSw; (try dsimp only at hSw); go_simp <;> with_reducible rfl)
   (try simp only [redA, Act.put])
   refine wpAnyH_ready (rs := [11]) (by kernel_rfl) (by simp) ?_
   refine AllReadyH.cons rfl (fun Kz hKz => ?_) AllReadyH.nil
   (try simp only [redA])
   go_simp
   refine hKz.out _ _ (by (try dsimp only); exact ⟨(by exact updT), (by exact dieT), (Blk.cast (by exact blkT) setsT), (Blk.cast (by exact blkT) setsT)⟩) (fun hHeld => ?_)
   clear hKz Kz
   (try simp only [redA, Act.put])
   refine wpAnyH_done (by kernel_rfl) ?_ _
   go_wp2_with fail
   refine bodyPost_ret (by simp [results, Try.results39, go_sem, CS5, FS5, LS5, CR5, FR5, LR5, CL5, FL5, LL5]; try rfl) rfl ?_
   exact ⟨_, rfl, by exact updT, by exact dieT, _, _, _, _, _, _, _, _, _, rfl, hcl.1, hcl.2⟩

end Go.Proofs.Ythihnangjghloaa
