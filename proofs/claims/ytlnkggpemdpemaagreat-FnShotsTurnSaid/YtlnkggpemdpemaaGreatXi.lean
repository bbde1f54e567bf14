/- Contracts and plain laws: DI W6. -/
import Derived.Test.YtlnkggpemdpemaaGreatYa
import Derived.Test.YtlnkggpemdpemaaGreatYo
import Derived.Deep.DeepCutAuto
import Derived.Deep.CutBlock
import Derived.Test.YtlnkggpemdpemaaGreatYp
set_option linter.unusedSimpArgs false
set_option linter.unusedVariables false
set_option maxHeartbeats 8000000
set_option maxRecDepth 100000
namespace Go.G8
open Go.RowKit
theorem bits_24 (x : Int) : 0 ≤ bits .and .u64 x 16777215 ∧ bits .and .u64 x 16777215 ≤ 16777215 := by
 have h : (BitVec.ofInt 64 x &&& BitVec.ofInt 64 16777215).toNat ≤ 16777215 := by
  rw [BitVec.toNat_and]
  exact Nat.and_le_right
 have e : bits .and .u64 x 16777215 = IntKind.u64.wrap ((BitVec.ofInt 64 x &&& BitVec.ofInt 64 16777215).toNat : Int) := rfl
 rw [e, IntKind.wrap_u64] <;> omega
theorem tmod24 (x y m : Int) (hm : 0 < m) (h0 : 0 ≤ y) (h1 : y ≤ 255) : 0 ≤ (RowKit.wrap64 (RowKit.wrap64 (bits .and .u64 x 16777215) + y)).tmod m ∧ (RowKit.wrap64 (RowKit.wrap64 (bits .and .u64 x 16777215) + y)).tmod m < m := by
 obtain ⟨b0, b1⟩ := bits_24 x
 rw [IntWalk.wrap64_in (bits .and .u64 x 16777215) oM, IntWalk.wrap64_in _ oM]
 exact ⟨Int.tmod_nonneg _ oM, Int.tmod_lt_of_pos _ hm⟩
theorem tmod24' (x m : Int) (hm : 0 < m) : 0 ≤ (RowKit.wrap64 (bits .and .u64 x 16777215)).tmod m ∧ (RowKit.wrap64 (bits .and .u64 x 16777215)).tmod m < m := by
 obtain ⟨b0, b1⟩ := bits_24 x
 rw [IntWalk.wrap64_in (bits .and .u64 x 16777215) oM]
 exact ⟨Int.tmod_nonneg _ oM, Int.tmod_lt_of_pos _ hm⟩
end Go.G8
namespace Go.Proofs.YtlnkggpemdpemaaGreat
open Go.RowKit Go.G8
def Die (B : Nat) (w : World) (g : Nat) : Prop := ∃ (a : Option Addr) (n k i : Nat) (h : Int), Blk w g 48 #[.slice a n k, .int .i64 i, .int .u64 h] ∧ B ≤ g ∧ i ≤ n ∧ n ≤ k ∧ k ≤ maxLen ∧
 ∀ j, j < n → ∃ b off x, a = some ⟨b, off, none⟩ ∧ b < B ∧ 0 ≤ x ∧ x ≤ 255 ∧ w.cell? ⟨b, off + j, none⟩ = some (.int .u8 x)
theorem Die.lt {B : Nat} {w : World} {g : Nat} (h : Die B w g) : B ≤ g ∧ g < w.heap.size := let ⟨_, _, _, _, _, hk, hB, _⟩ := h; ⟨hB, hk.lt⟩
theorem Die.upd {B : Nat} {w w' : World} {g : Nat} {fs : List Nat} (h : Die B w g) (x : Upd w w' fs) (hg : g ∉ fs) (hB : ∀ k, k ∈ fs → B ≤ k) : Die B w' g := by
 obtain ⟨a, n, k, i, e, hk, h0, h1, h2, h3, h4⟩ := h
 refine ⟨a, n, k, i, e, hk.upd x hg, h0, h1, h2, h3, fun j hj => ?_⟩
 obtain ⟨b, off, y, h5, h6, h7, h8, h9⟩ := h4 j hj
 have := hk.lt
 exact ⟨b, off, y, h5, h6, h7, h8, (x.cell oM (fun hm => by have := hB b hm; omega)).trans h9⟩
theorem Die.ext {B : Nat} {w w' : World} {g : Nat} (h : Die B w g) (x : Ext w w') : Die B w' g := h.upd (x.upd []) (by simp) (by simp)
theorem Die.set_ {B : Nat} {w : World} {g : Nat} (h : Die B w g) {X : Nat} (hX : g < X) (o : Nat) (u : Value) : Die B (w.setCell ⟨X, o, none⟩ u) g :=
 h.upd ((Upd.refl w [X]).setOne o u) (by simp; omega) (fun k hk => by have := h.lt; simp at hk; omega)
theorem Die.row {B : Nat} {w : World} {g : Nat} (h : Die B w g) {X : Nat} (hX : g < X) (cs : Array Value) : Die B (w.setRow X cs) g :=
 h.upd (fs := [X]) ⟨rfl, rfl, rfl, by rw [size_setRow]; exact Nat.le_refl _, fun k _ hn => heap_setRow_ne w cs (fun e => hn (by simp [e]))⟩ (by simp; omega) (fun k hk => by have := h.lt; simp at hk; omega)
theorem Die.of {B : Nat} {w w' : World} {g n k i' : Nat} {a : Option Addr} {h' : Int} (X : Upd w w' [g]) (hg : g < w.heap.size) (K : Blk w' g 48 #[.slice a n k, .int .i64 i', .int .u64 h']) (h0 : B ≤ g) (h1 : i' ≤ n) (h2 : n ≤ k) (h3 : k ≤ 9223372036854775807)
  (h4 : ∀ j, j < n → ∃ b off x, a = some ⟨b, off, none⟩ ∧ b < B ∧ 0 ≤ x ∧ x ≤ 255 ∧ w.cell? ⟨b, off + j, none⟩ = some (.int .u8 x)) : Die B w' g := by
 refine ⟨a, n, k, i', h', K, h0, h1, h2, by unfold maxLen; omega, fun j hj => ?_⟩
 obtain ⟨b, off, y, h5, h6, h7, h8, h9⟩ := h4 j hj
 exact ⟨b, off, y, h5, h6, h7, h8, (X.cell oM (by simp; omega)).trans h9⟩
theorem dieT {B : Nat} {w : World} {g : Nat} (h : Die B w g := by ((repeat' (first | (with_reducible assumption) | (with_reducible refine Die.set_ ?_ ?_ _ _) | (with_reducible refine Die.row ?_ ?_ _) | (with_reducible refine Die.ext ?_ (Ext.drewN (Ext.refl _) _)) | (with_reducible refine Die.ext ?_ (Ext.drew (Ext.refl _))) | (with_reducible refine Die.ext ?_ (Ext.alloc (Ext.refl _) _)) | omega)); first | done | fail)) : Die B w g := h
def Dd (B : Nat) (w : World) (g : Nat) (Q : Value → World → Prop) (e : Ending) (w' : World) : Prop := ∃ v, e = .returned v ∧ Upd w w' [g] ∧ Die B w' g ∧ Q v w'
section
variable {B : Nat} {w : World} {g : Nat}
theorem Die.app {B0 B g n : Nat} {e : TypeId} {w w' : World} {v : Value} {cs : List Value} (h : Die B0 w g) (ho : Own B e n w v cs) (hB : g < B) (hg : w.grownBy w' v.ownBlock) : Die B0 w' g :=
 h.upd (Upd.app (Upd.refl w _) ho (fs := feet [v]) (.inl fun _ h => h) hg) (fun hm => by have := ho.footB hm; omega) (fun k hk => by have := ho.footB hk; have := h.lt; omega)
theorem below_c (h : Die B w g) (m : Int) (hm : 0 < m) : Calls Tryz.prog 8 #[.pointer (some ⟨g, 0, none⟩), .int .i64 m] w (Dd B w g fun v _ => ∃ x : Int, v = .int .i64 x ∧ 0 ≤ x ∧ x < m) := by
 have hm0 : m ≠ 0 := by omega
 have hmz : (m == 0) = false := by simp [hm0]
 have HC := Lib.hid h
 obtain ⟨a, n, k, i, e, hk, h0, h1, h2, h3, h4⟩ := h
 unfold maxLen at h3
 have CK := hk.cell; have FK := hk.frozen; have LK := hk.lt
 have HK := Lib.hid hk
 clear hk
 by_cases hi : i < n
 ·
  obtain ⟨b, off, y, rfl, hb, y0, y1, hy⟩ := h4 i hi
  have H4 := Lib.hid h4
  clear h4
  have hbg : b ≠ g := by omega
  have hbl : b < w.heap.size := by omega
  have hyb : decide ((i : Int) < (n : Int)) = true := by simp; omega
  go_enter Tryz.func8, Tryz.ntmps8
  go_wp2_with fail
  go_quiet (fail)
  go_wp2_with fail
  go_quiet (fail)
  go_wp2_with fail
  go_ret
  refine ⟨_, rfl, ?_, ?_, _, rfl, ?_, ?_⟩
  ·
   exact updT
  ·
   refine Die.of (w := w) (i' := i + 1) ?_ LK (by refine Blk.cast (by repeat' (first | (with_reducible exact HK.out) | (with_reducible apply Blk.drewN) | (with_reducible apply Blk.set_))) (by simp; rfl)) h0 oM h2 oM H4.out
   exact updT
  ·
   exact (tmod24 _ _ _ hm y0 y1).1
  exact (tmod24 _ _ _ hm y0 y1).2
 have hyb : decide ((i : Int) < (n : Int)) = false := by simp; omega
 go_enter Tryz.func8, Tryz.ntmps8
 go_wp2_with fail
 go_quiet (fail)
 go_wp2_with fail
 go_ret
 refine ⟨_, rfl, ?_, ?_, _, rfl, ?_, ?_⟩
 ·
  exact updT
 ·
  refine Die.of (w := w) (i' := i) ?_ LK (by refine Blk.cast (by repeat' (first | (with_reducible exact HK.out) | (with_reducible apply Blk.drewN) | (with_reducible apply Blk.set_))) (by simp; rfl)) h0 oM h2 oM h4
  exact updT
 ·
  exact (tmod24' _ _ hm).1
 exact (tmod24' _ _ hm).2
end
theorem w6Next_c {B : Nat} {w : World} {g : Nat} (h : Die B w g) {M : Nat} (hM : g < M) {t : Value} {s : DState} (hs : IsState M w t s) (hok : stateOk s = true) : Calls Tryz.prog 16 #[.pointer (some ⟨g, 0, none⟩), t] w (Dd B w g fun v w' => ∃ ei et ec es ok oa ob oc od : Int, v = .agg #[.int .i64 ei, .int .i64 et, .int .i64 ec, .int .i64 es, .int .i64 ok, .int .i64 oa, .int .i64 ob, .int .i64 oc, .int .i64 od] ∧ 0 ≤ ec ∧ ec < 6) := by
 obtain ⟨t2, t3, rfl, h2, h3⟩ := hs
 obtain ⟨a2, n2, k2, rfl⟩ := h2.shape
 obtain ⟨a3, n3, k3, rfl⟩ := h3.shape
 have Op0 := h2; have Oj0 := h3; clear h2 h3
 have hHo : 0 ≤ s.Lease.Holder ∧ s.Lease.Holder ≤ 3 := by
  have hl := (stateOk_parts hok).2.2.2.2.2.1
  simp only [leaseOk, leaseZ, schedOk, Bool.or_eq_true, Bool.and_eq_true, decide_eq_true_eq, beq_iff_eq, inb_true] at hl
  omega
 clear hok
 have hc0 := h; have E0 : Upd w w [g] := Upd.refl _ _
 have hg0 := h.lt
 go_enter Tryz.func16, Tryz.ntmps16
 go_wp2_with fail
 refine (below_c (show Die B _ g from by exact dieT) 4 oM).mono ?_
 rintro e w1 ⟨_, rfl, X1, hc1, x0, rfl, px0, qx0⟩
 have hz1 := X1.sz
 have E1 : Upd w w1 [g] := X1.up
 have KS1 : Blk w1 w.heap.size 39 #[.int .i64 s.Index, .int .i64 s.Time, .slice a2 n2 k2, .slice a3 n3 k3, .int .i64 s.Lease.Holder, .int .i64 s.Lease.Epoch, .int .i64 s.Lease.Until] := bU X1
 have KR1 : Blk w1 (w.heap.size + 1) 54 #[.int .i64 0, .int .i64 0, .int .i64 0, .int .i64 0, .int .i64 0, .int .i64 0, .int .i64 0, .int .i64 0, .int .i64 0] := bU X1
 have Op1 : OwnI M 113 2 w1 (.slice a2 n2 k2) (flPair s.Pairs) := OwnI.drawn (by exact ownT) X1 oM
 have Oj1 : OwnI M 95 5 w1 (.slice a3 n3 k3) (flJob s.Jobs) := OwnI.drawn (by exact ownT) X1 oM
 clear X1
 obtain ⟨CS1, FS1, LS1⟩ := KS1.cfl
 obtain ⟨CR1, FR1, LR1⟩ := KR1.cfl
 go_upto_region 2 with (fail)
 go_cut [6] (fun cx0 wx => ∃ gg : Nat, ∃ x1 : Int, cx0 = .pointer (some ⟨gg, 0, none⟩) ∧ w1.heap.size ≤ gg ∧ Blk wx gg 52 #[.int .i64 4, .int .i64 x1, .int .i64 s.Lease.Epoch, .int .i64 0, .int .i64 0] ∧ Upd w wx [g] ∧ Die B wx g ∧ Blk wx w.heap.size 39 #[.int .i64 s.Index, .int .i64 s.Time, .slice a2 n2 k2, .slice a3 n3 k3, .int .i64 s.Lease.Holder, .int .i64 s.Lease.Epoch, .int .i64 s.Lease.Until] ∧ Blk wx (w.heap.size + 1) 54 #[.int .i64 0, .int .i64 0, .int .i64 0, .int .i64 0, .int .i64 0, .int .i64 0, .int .i64 0, .int .i64 0, .int .i64 0] ∧ OwnI M 113 2 wx (.slice a2 n2 k2) (flPair s.Pairs) ∧ OwnI M 95 5 wx (.slice a3 n3 k3) (flJob s.Jobs))
 case first =>
  refine wp_region_held_drew (S := fun w' => Upd w w' [g] ∧ Die B w' g ∧ Blk w' w.heap.size 39 #[.int .i64 s.Index, .int .i64 s.Time, .slice a2 n2 k2, .slice a3 n3 k3, .int .i64 s.Lease.Holder, .int .i64 s.Lease.Epoch, .int .i64 s.Lease.Until]) (by kernel_rfl) (by (try dsimp only); exact ⟨(by exact updT), (by exact dieT), bC⟩) (fun hHeld => ?_)
  refine wt 0 ?_
  (try simp only [redA, Act.put])
  refine wt 3 ?_
  (try simp only [redA, Act.put])
  refine wt 4 ?_
  (try simp only [redA, Act.put])
  refine wtq 5 (fun _ h => h.2.2.cell) ?_
  (try simp only [redA, Act.put])
  refine wr2 1 7 (fun Kz hKz => ?_) fun Kz hKz => ?_
  ·
   (try simp only [redA])
   go_simp
   go_at_call 8
   refine (below_c (show Die B _ g from by exact dieT) 9 oM).mono ?_
   rintro e w2 ⟨_, rfl, X2, hc2, x1, rfl, px1, qx1⟩
   have hz2 := X2.sz
   have E2 : Upd w w2 [g] := X2.up
   have KS2 := KS1.upv X2
   have KR2 := KR1.upv X2
   have Op2 := OwnI.drawn (ow_en Op1) X2 oM
   have Oj2 := OwnI.drawn (ow_en Oj1) X2 oM
   clear X2
   clear CS1 FS1 LS1 CR1 FR1 LR1
   obtain ⟨CS2, FS2, LS2⟩ := KS2.cfl
   obtain ⟨CR2, FR2, LR2⟩ := KR2.cfl
   refine hKz.out _ _ (by (try dsimp only); exact ⟨(by exact updT), (by exact dieT), bC⟩) (fun hHeld => ?_)
   clear hKz Kz
   (try simp only [redA, Act.put])
   refine wt 2 ?_
   (try simp only [redA, Act.put])
   refine wt 6 ?_
   (try simp only [redA, Act.put])
   refine wr1 7 fun Kz hKz => ?_
   (try simp only [redA])
   go_simp
   refine hKz.out _ _ (by (try dsimp only); exact ⟨(by exact updT), (by exact dieT), bC⟩) (fun hHeld => ?_)
   clear hKz Kz
   (try simp only [redA, Act.put])
   refine wr1 8 fun Kz hKz => ?_
   (try simp only [redA])
   go_simp
   refine hKz.out _ _ (by (try dsimp only); exact ⟨(by exact updT), (by exact dieT), bC⟩) (fun hHeld => ?_)
   clear hKz Kz
   (try simp only [redA, Act.put])
   refine wpAnyH_done (by kernel_rfl) ?_ _
   go_wp2_with fail
   go_meet
   case rel => exact ⟨_, _, (by first | rfl | trivial), (by first | omega | (simp only [World.size_alloc, size_drew]; omega)), bC, (by exact updT), (by exact dieT), bC, bC, (ow_ed Op2), (ow_ed Oj2)⟩
  (try simp only [redA])
  go_simp
  refine hKz.out _ _ (by (try dsimp only); exact ⟨(by exact updT), (by exact dieT), bC⟩) (fun hHeld => ?_)
  clear hKz Kz
  (try simp only [redA, Act.put])
  refine wr1 1 fun Kz hKz => ?_
  (try simp only [redA])
  go_simp
  go_at_call 8
  refine (below_c (show Die B _ g from by exact dieT) 9 oM).mono ?_
  rintro e w2 ⟨_, rfl, X2, hc2, x1, rfl, px1, qx1⟩
  have hz2 := X2.sz
  have E2 : Upd w w2 [g] := X2.up
  have KS2 := KS1.upv X2
  have KR2 := KR1.upv X2
  have KL2 : Blk w2 w1.heap.size 52 #[.int .i64 0, .int .i64 0, .int .i64 0, .int .i64 0, .int .i64 0] := bU X2
  have Op2 := OwnI.drawn (ow_en Op1) X2 oM
  have Oj2 := OwnI.drawn (ow_en Oj1) X2 oM
  clear X2
  clear CS1 FS1 LS1 CR1 FR1 LR1
  obtain ⟨CS2, FS2, LS2⟩ := KS2.cfl
  obtain ⟨CR2, FR2, LR2⟩ := KR2.cfl
  obtain ⟨CL2, FL2, LL2⟩ := KL2.cfl
  refine hKz.out _ _ (by (try dsimp only); exact ⟨(by exact updT), (by exact dieT), bC⟩) (fun hHeld => ?_)
  clear hKz Kz
  (try simp only [redA, Act.put])
  refine wt 2 ?_
  (try simp only [redA, Act.put])
  refine wt 6 ?_
  (try simp only [redA, Act.put])
  refine wr1 8 fun Kz hKz => ?_
  (try simp only [redA])
  go_simp
  refine hKz.out _ _ (by (try dsimp only); exact ⟨(by exact updT), (by exact dieT), bC⟩) (fun hHeld => ?_)
  clear hKz Kz
  (try simp only [redA, Act.put])
  refine wpAnyH_done (by kernel_rfl) ?_ _
  go_wp2_with fail
  go_meet
  case rel => exact ⟨_, _, (by first | rfl | trivial), (by first | omega | (simp only [World.size_alloc, size_drew]; omega)), bC, (by exact updT), (by exact dieT), bC, bC, (ow_edx0 Op2 KL2), (ow_edx0 Oj2 KL2)⟩
 revert wc; intro w2 hcut
 obtain ⟨gg, x1, rfl, hgg, KL2, E2, hc2, KS2, KR2, Op2, Oj2⟩ := hcut
 have hz2 := E2.size
 clear CS1 FS1 LS1 CR1 FR1 LR1
 obtain ⟨CS2, FS2, LS2⟩ := KS2.cfl
 obtain ⟨CR2, FR2, LR2⟩ := KR2.cfl
 obtain ⟨CL2, FL2, LL2⟩ := KL2.cfl
 go_wp2_with fail
 refine (below_c (show Die B _ g from by exact dieT) 10 oM).mono ?_
 rintro e w3 ⟨_, rfl, X3, hc3, m, rfl, pm, qm⟩
 have hz3 := X3.sz
 have E3 : Upd w w3 [g] := X3.up
 have KS3 : Blk w3 w.heap.size 39 #[.int .i64 s.Index, .int .i64 s.Time, .slice a2 n2 k2, .slice a3 n3 k3, .int .i64 s.Lease.Holder, .int .i64 s.Lease.Epoch, .int .i64 s.Lease.Until] := bU X3
 have KR3 : Blk w3 (w.heap.size + 1) 54 #[.int .i64 0, .int .i64 0, .int .i64 0, .int .i64 0, .int .i64 0, .int .i64 0, .int .i64 0, .int .i64 0, .int .i64 0] := bU X3
 have KL3 : Blk w3 gg 52 #[.int .i64 4, .int .i64 x1, .int .i64 s.Lease.Epoch, .int .i64 0, .int .i64 0] := bU X3
 have Op3 : OwnI M 113 2 w3 (.slice a2 n2 k2) (flPair s.Pairs) := OwnI.drawn (ow_ex0n Op2 KL2) X3 oM
 have Oj3 : OwnI M 95 5 w3 (.slice a3 n3 k3) (flJob s.Jobs) := OwnI.drawn (ow_ex0n Oj2 KL2) X3 oM
 clear X3
 clear CS2 FS2 LS2 CR2 FR2 LR2 CL2 FL2 LL2
 obtain ⟨CS3, FS3, LS3⟩ := KS3.cfl
 obtain ⟨CR3, FR3, LR3⟩ := KR3.cfl
 obtain ⟨CL3, FL3, LL3⟩ := KL3.cfl
 go_upto_block 0 with (fail)
 go_cut [5] (fun cx0 wx => ∃ cl : Int, ∃ y0 : Int, ∃ y1 : Int, ∃ y2 : Int, ∃ y3 : Int, ∃ y4 : Int, cx0 = .int .i64 cl ∧ (0 ≤ cl ∧ cl < 6) ∧ Blk wx gg 52 #[.int .i64 y0, .int .i64 y1, .int .i64 y2, .int .i64 y3, .int .i64 y4] ∧ Upd w wx [g] ∧ Die B wx g ∧ Blk wx w.heap.size 39 #[.int .i64 s.Index, .int .i64 s.Time, .slice a2 n2 k2, .slice a3 n3 k3, .int .i64 s.Lease.Holder, .int .i64 s.Lease.Epoch, .int .i64 s.Lease.Until] ∧ Blk wx (w.heap.size + 1) 54 #[.int .i64 0, .int .i64 0, .int .i64 0, .int .i64 0, .int .i64 0, .int .i64 0, .int .i64 0, .int .i64 0, .int .i64 0] ∧ OwnI M 113 2 wx (.slice a2 n2 k2) (flPair s.Pairs) ∧ OwnI M 95 5 wx (.slice a3 n3 k3) (flJob s.Jobs))
 case first =>
  obtain hway | hway | hway | hway | hway : (m = 0 ∨ m = 1) ∨ (m = 2) ∨ (m = 3 ∨ m = 4 ∨ m = 5) ∨ (m = 6 ∨ m = 7) ∨ m ≥ 8 := by omega
  ·
   obtain rfl | rfl := hway
   all_goals
    go_wp2_with fail
    refine (below_c (show Die B _ g from by exact dieT) 5 oM).mono ?_
    rintro e w4 ⟨_, rfl, X4, hc4, x2, rfl, px2, qx2⟩
    have hz4 := X4.sz
    have E4 : Upd w w4 [g] := X4.up
    have KS4 := KS3.upv X4
    have KR4 := KR3.upv X4
    have KL4 := KL3.upv X4
    have Op4 := OwnI.drawn (ow_ex0n Op3 KL3) X4 oM
    have Oj4 := OwnI.drawn (ow_ex0n Oj3 KL3) X4 oM
    clear X4
    clear CS3 FS3 LS3 CR3 FR3 LR3 CL3 FL3 LL3
    obtain ⟨CS4, FS4, LS4⟩ := KS4.cfl
    obtain ⟨CR4, FR4, LR4⟩ := KR4.cfl
    obtain ⟨CL4, FL4, LL4⟩ := KL4.cfl
    go_wp2_with fail
    refine (below_c (show Die B _ g from by exact dieT) 9 oM).mono ?_
    rintro e w5 ⟨_, rfl, X5, hc5, x3, rfl, px3, qx3⟩
    have hz5 := X5.sz
    have E5 : Upd w w5 [g] := X5.up
    have KS5 := KS4.upv X5
    have KR5 := KR4.upv X5
    have KL5 := KL4.upv X5
    have Op5 := OwnI.drawn (ow_ex0n Op4 KL4) X5 oM
    have Oj5 := OwnI.drawn (ow_ex0n Oj4 KL4) X5 oM
    clear X5
    clear CS4 FS4 LS4 CR4 FR4 LR4 CL4 FL4 LL4
    obtain ⟨CS5, FS5, LS5⟩ := KS5.cfl
    obtain ⟨CR5, FR5, LR5⟩ := KR5.cfl
    obtain ⟨CL5, FL5, LL5⟩ := KL5.cfl
    go_wp2_with fail
    go_meet
    case rel => exact ⟨_, _, _, _, _, _, (by first | rfl | trivial), oM, bC, (by exact updT), (by exact dieT), bC, bC, (ow_edx0 Op5 KL5), (ow_edx0 Oj5 KL5)⟩
  ·
   obtain rfl := hway
   go_wp2_with fail
   refine (below_c (show Die B _ g from by exact dieT) 5 oM).mono ?_
   rintro e w4 ⟨_, rfl, X4, hc4, x2, rfl, px2, qx2⟩
   have hz4 := X4.sz
   have E4 : Upd w w4 [g] := X4.up
   have KS4 := KS3.upv X4
   have KR4 := KR3.upv X4
   have KL4 := KL3.upv X4
   have Op4 := OwnI.drawn (ow_ex0n Op3 KL3) X4 oM
   have Oj4 := OwnI.drawn (ow_ex0n Oj3 KL3) X4 oM
   clear X4
   clear CS3 FS3 LS3 CR3 FR3 LR3 CL3 FL3 LL3
   obtain ⟨CS4, FS4, LS4⟩ := KS4.cfl
   obtain ⟨CR4, FR4, LR4⟩ := KR4.cfl
   obtain ⟨CL4, FL4, LL4⟩ := KL4.cfl
   go_wp2_with fail
   go_meet
   case rel => exact ⟨_, _, _, _, _, _, (by first | rfl | trivial), oM, bC, (by exact updT), (by exact dieT), bC, bC, (ow_edx0 Op4 KL4), (ow_edx0 Oj4 KL4)⟩
  ·
   obtain rfl | rfl | rfl := hway
   all_goals
    go_wp2_with fail
    refine wp_region_held_drew (S := fun w' => Upd w w' [g] ∧ Die B w' g ∧ Blk w' w.heap.size 39 #[.int .i64 s.Index, .int .i64 s.Time, .slice a2 n2 k2, .slice a3 n3 k3, .int .i64 s.Lease.Holder, .int .i64 s.Lease.Epoch, .int .i64 s.Lease.Until]) (by kernel_rfl) (by (try dsimp only); exact ⟨(by exact updT), (by exact dieT), bC⟩) (fun hHeld => ?_)
    refine wt 0 ?_
    (try simp only [redA, Act.put])
    refine wt 3 ?_
    (try simp only [redA, Act.put])
    refine wtq 4 (fun _ h => h.2.2.cell) ?_
    (try simp only [redA, Act.put])
    refine wt 5 ?_
    (try simp only [redA, Act.put])
    refine wt 8 ?_
    (try simp only [redA, Act.put])
    refine wt 10 ?_
    (try simp only [redA, Act.put])
    refine wr1 1 fun Kz hKz => ?_
    (try simp only [redA])
    go_simp
    go_at_call 8
    refine (below_c (show Die B _ g from by exact dieT) 9 oM).mono ?_
    rintro e w4 ⟨_, rfl, X4, hc4, x2, rfl, px2, qx2⟩
    have hz4 := X4.sz
    have E4 : Upd w w4 [g] := X4.up
    have KS4 := KS3.upv X4
    have KR4 := KR3.upv X4
    have KL4 := KL3.upv X4
    have Op4 := OwnI.drawn (ow_ex0n Op3 KL3) X4 oM
    have Oj4 := OwnI.drawn (ow_ex0n Oj3 KL3) X4 oM
    clear X4
    clear CS3 FS3 LS3 CR3 FR3 LR3 CL3 FL3 LL3
    obtain ⟨CS4, FS4, LS4⟩ := KS4.cfl
    obtain ⟨CR4, FR4, LR4⟩ := KR4.cfl
    obtain ⟨CL4, FL4, LL4⟩ := KL4.cfl
    refine hKz.out _ _ (by (try dsimp only); exact ⟨(by exact updT), (by exact dieT), bC⟩) (fun hHeld => ?_)
    clear hKz Kz
    (try simp only [redA, Act.put])
    refine wt 2 ?_
    (try simp only [redA, Act.put])
    refine wr1 6 fun Kz hKz => ?_
    (try simp only [redA])
    go_simp
    go_at_call 8
    refine (below_c (show Die B _ g from by exact dieT) 12 oM).mono ?_
    rintro e w5 ⟨_, rfl, X5, hc5, x3, rfl, px3, qx3⟩
    have hz5 := X5.sz
    have E5 : Upd w w5 [g] := X5.up
    have KS5 := KS4.upv X5
    have KR5 := KR4.upv X5
    have KL5 := KL4.upv X5
    have Op5 := OwnI.drawn (ow_ex0n Op4 KL4) X5 oM
    have Oj5 := OwnI.drawn (ow_ex0n Oj4 KL4) X5 oM
    clear X5
    clear CS4 FS4 LS4 CR4 FR4 LR4 CL4 FL4 LL4
    obtain ⟨CS5, FS5, LS5⟩ := KS5.cfl
    obtain ⟨CR5, FR5, LR5⟩ := KR5.cfl
    obtain ⟨CL5, FL5, LL5⟩ := KL5.cfl
    refine hKz.out _ _ (by (try dsimp only); exact ⟨(by exact updT), (by exact dieT), bC⟩) (fun hHeld => ?_)
    clear hKz Kz
    (try simp only [redA, Act.put])
    refine wt 7 ?_
    (try simp only [redA, Act.put])
    refine wr1 9 fun Kz hKz => ?_
    (try simp only [redA])
    go_simp
    go_at_call 8
    refine (below_c (show Die B _ g from by exact dieT) 5 oM).mono ?_
    rintro e w6 ⟨_, rfl, X6, hc6, x4, rfl, px4, qx4⟩
    have hz6 := X6.sz
    have E6 : Upd w w6 [g] := X6.up
    have KS6 := KS5.upv X6
    have KR6 := KR5.upv X6
    have KL6 := KL5.upv X6
    have Op6 := OwnI.drawn (ow_ex0n Op5 KL5) X6 oM
    have Oj6 := OwnI.drawn (ow_ex0n Oj5 KL5) X6 oM
    clear X6
    clear CS5 FS5 LS5 CR5 FR5 LR5 CL5 FL5 LL5
    obtain ⟨CS6, FS6, LS6⟩ := KS6.cfl
    obtain ⟨CR6, FR6, LR6⟩ := KR6.cfl
    obtain ⟨CL6, FL6, LL6⟩ := KL6.cfl
    refine hKz.out _ _ (by (try dsimp only); exact ⟨(by exact updT), (by exact dieT), bC⟩) (fun hHeld => ?_)
    clear hKz Kz
    (try simp only [redA, Act.put])
    refine wr1 11 fun Kz hKz => ?_
    (try simp only [redA])
    go_simp
    go_at_call 8
    refine (below_c (show Die B _ g from by exact dieT) 9 oM).mono ?_
    rintro e w7 ⟨_, rfl, X7, hc7, x5, rfl, px5, qx5⟩
    have hz7 := X7.sz
    have E7 : Upd w w7 [g] := X7.up
    have KS7 := KS6.upv X7
    have KR7 := KR6.upv X7
    have KL7 := KL6.upv X7
    have Op7 := OwnI.drawn (ow_ex0n Op6 KL6) X7 oM
    have Oj7 := OwnI.drawn (ow_ex0n Oj6 KL6) X7 oM
    clear X7
    clear CS6 FS6 LS6 CR6 FR6 LR6 CL6 FL6 LL6
    obtain ⟨CS7, FS7, LS7⟩ := KS7.cfl
    obtain ⟨CR7, FR7, LR7⟩ := KR7.cfl
    obtain ⟨CL7, FL7, LL7⟩ := KL7.cfl
    refine hKz.out _ _ (by (try dsimp only); exact ⟨(by exact updT), (by exact dieT), bC⟩) (fun hHeld => ?_)
    clear hKz Kz
    (try simp only [redA, Act.put])
    refine wt 12 ?_
    (try simp only [redA, Act.put])
    refine wt 13 ?_
    (try simp only [redA, Act.put])
    refine wr1 14 fun Kz hKz => ?_
    (try simp only [redA])
    go_simp
    refine hKz.out _ _ (by (try dsimp only); exact ⟨(by exact updT), (by exact dieT), bC⟩) (fun hHeld => ?_)
    clear hKz Kz
    (try simp only [redA, Act.put])
    refine wpAnyH_done (by kernel_rfl) ?_ _
    go_wp2_with fail
    go_meet
    case rel => exact ⟨_, _, _, _, _, _, (by first | rfl | trivial), oM, bC, (by exact updT), (by exact dieT), bC, bC, (ow_edx0 Op7 KL7), (ow_edx0 Oj7 KL7)⟩
  ·
   obtain rfl | rfl := hway
   all_goals
    go_wp2_with fail
    refine (below_c (show Die B _ g from by exact dieT) 25 oM).mono ?_
    rintro e w4 ⟨_, rfl, X4, hc4, x2, rfl, px2, qx2⟩
    have hz4 := X4.sz
    have E4 : Upd w w4 [g] := X4.up
    have KS4 := KS3.upv X4
    have KR4 := KR3.upv X4
    have KL4 := KL3.upv X4
    have Op4 := OwnI.drawn (ow_ex0n Op3 KL3) X4 oM
    have Oj4 := OwnI.drawn (ow_ex0n Oj3 KL3) X4 oM
    clear X4
    clear CS3 FS3 LS3 CR3 FR3 LR3 CL3 FL3 LL3
    obtain ⟨CS4, FS4, LS4⟩ := KS4.cfl
    obtain ⟨CR4, FR4, LR4⟩ := KR4.cfl
    obtain ⟨CL4, FL4, LL4⟩ := KL4.cfl
    go_upto_region 21 with (fail)
    go_wp2_with fail
    refine (below_c (show Die B _ g from by exact dieT) 2 oM).mono ?_
    rintro e w5 ⟨_, rfl, X5, hc5, x3, rfl, px3, qx3⟩
    have hz5 := X5.sz
    have E5 : Upd w w5 [g] := X5.up
    have KS5 := KS4.upv X5
    have KR5 := KR4.upv X5
    have KL5 : Blk w5 gg 52 #[.int .i64 5, .int .i64 (1 + x2), .int .i64 0, .int .i64 0, .int .i64 0] := bU X5
    have Op5 := OwnI.drawn (ow_ex0n Op4 KL4) X5 oM
    have Oj5 := OwnI.drawn (ow_ex0n Oj4 KL4) X5 oM
    clear X5
    clear CS4 FS4 LS4 CR4 FR4 LR4 CL4 FL4 LL4
    obtain ⟨CS5, FS5, LS5⟩ := KS5.cfl
    obtain ⟨CR5, FR5, LR5⟩ := KR5.cfl
    obtain ⟨CL5, FL5, LL5⟩ := KL5.cfl
    go_wp2_with fail
    go_meet
    case rel => exact ⟨_, _, _, _, _, _, (by first | rfl | trivial), oM, bC, (by exact updT), (by exact dieT), bC, bC, (ow_edx0 Op5 KL5), (ow_edx0 Oj5 KL5)⟩
  have hb0 : (m == 0) = false := by simp; omega
  have hb1 : (m == 1) = false := by simp; omega
  have hb2 : (m == 2) = false := by simp; omega
  have hb3 : (m == 3) = false := by simp; omega
  have hb4 : (m == 4) = false := by simp; omega
  have hb5 : (m == 5) = false := by simp; omega
  have hb6 : (m == 6) = false := by simp; omega
  have hb7 : (m == 7) = false := by simp; omega
  go_wp2_with fail
  refine (sOpenJobs_k _ _ s.Jobs (OwnI.ints (show OwnI M 95 5 _ _ (flJob s.Jobs) from by exact ownT))).mono ?_
  rintro e w4 ⟨_, rfl, hx4, Od4⟩
  have hz4 := hx4.size; (try simp only [szA] at hz4)
  have E4 : Upd w w4 [g] := Upd.ext (by exact updT) hx4
  have hc4 : Die B w4 g := Die.ext (by exact dieT) hx4
  have KS4 := KS3.exv hx4
  have KR4 := KR3.exv hx4
  have KL4 := KL3.exv hx4
  have Op4 := OwnI.ext1 (ow_ex0n Op3 KL3) hx4
  have Oj4 := OwnI.ext1 (ow_ex0n Oj3 KL3) hx4
  clear hx4
  clear CS3 FS3 LS3 CR3 FR3 LR3 CL3 FL3 LL3
  obtain ⟨CS4, FS4, LS4⟩ := KS4.cfl
  obtain ⟨CR4, FR4, LR4⟩ := KR4.cfl
  obtain ⟨CL4, FL4, LL4⟩ := KL4.cfl
  obtain ⟨q, hq⟩ : ∃ q, q = openD s.Jobs := ⟨_, rfl⟩
  rw [← hq] at Od4; clear hq
  obtain ⟨ta, tn, tc, rfl, hl0, hcc, hm0, hor⟩ := Own.open_ Od4
  have htn : tn = q.length := by simp only [List.length_map, length_dues] at hl0; omega
  subst htn; clear hl0
  rcases Nat.eq_zero_or_pos q.length with h00 | h00
  ·
   obtain rfl := List.length_eq_zero_iff.1 h00
   by_cases hh : 0 < s.Lease.Holder
   ·
    go_wp2_with fail
    refine (below_c (show Die B _ g from by exact dieT) 4 oM).mono ?_
    rintro e w5 ⟨_, rfl, X5, hc5, x9, rfl, px9, qx9⟩
    have hz5 := X5.sz
    have E5 : Upd w w5 [g] := X5.up
    have KS5 := KS4.upv X5
    have KR5 := KR4.upv X5
    have KL5 := KL4.upv X5
    have Op5 := OwnI.drawn (ow_ex0n Op4 KL4) X5 oM
    have Oj5 := OwnI.drawn (ow_ex0n Oj4 KL4) X5 oM
    clear X5
    clear CS4 FS4 LS4 CR4 FR4 LR4 CL4 FL4 LL4
    obtain ⟨CS5, FS5, LS5⟩ := KS5.cfl
    obtain ⟨CR5, FR5, LR5⟩ := KR5.cfl
    obtain ⟨CL5, FL5, LL5⟩ := KL5.cfl
    by_cases hx9 : 0 < x9
    ·
     go_wp2_with fail
     go_meet
     case rel => exact ⟨_, _, _, _, _, _, (by first | rfl | trivial), oM, bC, (by exact updT), (by exact dieT), bC, bC, (ow_edx0 Op5 KL5), (ow_edx0 Oj5 KL5)⟩
    go_wp2_with fail
    go_meet
    case rel => exact ⟨_, _, _, _, _, _, (by first | rfl | trivial), oM, bC, (by exact updT), (by exact dieT), bC, bC, (ow_edx0 Op5 KL5), (ow_edx0 Oj5 KL5)⟩
   go_wp2_with fail
   go_meet
   case rel => exact ⟨_, _, _, _, _, _, (by first | rfl | trivial), oM, bC, (by exact updT), (by exact dieT), bC, bC, (ow_edx0 Op4 KL4), (ow_edx0 Oj4 KL4)⟩
  rcases hor with h01 | ⟨X, cur, rfl, hXB, hX, hXs, hXp⟩
  ·
   omega
  have hd : decide (0 < (q.length : Int)) = true := by simp; omega
  obtain ⟨curd4, KXd4⟩ := Own.typed' Od4 (X := X) rfl
  have FXd4 := KXd4.frozen; have LXd4 := KXd4.lt
  obtain ⟨_, _, hsld, _, _, hrec⟩ := Od4.ints.recs (f := DDue.ints) (fun _ => rfl) dC
  obtain ⟨ddd, bbd, ood, hddd, hbad, _, hccd⟩ := hrec 0 oM
  injection hsld with hs1 hs2 hs3
  rw [← hs1] at hbad; injection hbad with hbad; injection hbad with hb1 hb2; subst hb1; subst hb2; clear hs1 hs2 hs3 hrec
  have hced0 := hccd 0 _ dC rfl; (try simp only [Nat.zero_mul, Nat.zero_add, Nat.add_zero] at hced0)
  clear hccd
  go_upto_region 7 with (fail)
  by_cases hh : 0 < s.Lease.Holder
  ·
   go_wp2_with fail
   refine (below_c (show Die B _ g from by exact dieT) 4 oM).mono ?_
   rintro e w5 ⟨_, rfl, X5, hc5, x9, rfl, px9, qx9⟩
   have hz5 := X5.sz
   have E5 : Upd w w5 [g] := X5.up
   have KS5 := KS4.upv X5
   have KR5 := KR4.upv X5
   have KL5 : Blk w5 gg 52 #[.int .i64 4, .int .i64 ddd.Id, .int .i64 s.Lease.Epoch, .int .i64 0, .int .i64 0] := bU X5
   have Op5 := OwnI.drawn (ow_ex0n Op4 KL4) X5 oM
   have Oj5 := OwnI.drawn (ow_ex0n Oj4 KL4) X5 oM
   have Od5 : OwnI w3.heap.size 86 2 w5 (.slice (some ⟨X, 0, none⟩) q.length tc) (dues q) := OwnI.drawn (ow_ex0n Od4 KL4) X5 oM
   clear X5
   clear CS4 FS4 LS4 CR4 FR4 LR4 CL4 FL4 LL4 FXd4 LXd4 hced0
   obtain ⟨CS5, FS5, LS5⟩ := KS5.cfl
   obtain ⟨CR5, FR5, LR5⟩ := KR5.cfl
   obtain ⟨CL5, FL5, LL5⟩ := KL5.cfl
   by_cases hx9 : 0 < x9
   ·
    go_wp2_with fail
    go_meet
    case rel => exact ⟨_, _, _, _, _, _, (by first | rfl | trivial), oM, bC, (by exact updT), (by exact dieT), bC, bC, (ow_edx0 Op5 KL5), (ow_edx0 Oj5 KL5)⟩
   go_wp2_with fail
   go_meet
   case rel => exact ⟨_, _, _, _, _, _, (by first | rfl | trivial), oM, bC, (by exact updT), (by exact dieT), bC, bC, (ow_edx0 Op5 KL5), (ow_edx0 Oj5 KL5)⟩
  go_wp2_with fail
  go_meet
  case rel => exact ⟨_, _, _, _, _, _, (by first | rfl | trivial), oM, bC, (by exact updT), (by exact dieT), bC, bC, (ow_edx0 Op4 KL4), (ow_edx0 Oj4 KL4)⟩
 revert wc; intro w4 hcut
 obtain ⟨cl, y0, y1, y2, y3, y4, rfl, hcl, KL4, E4, hc4, KS4, KR4, Op4, Oj4⟩ := hcut
 have hz4 := E4.size
 clear CS3 FS3 LS3 CR3 FR3 LR3 CL3 FL3 LL3
 obtain ⟨CS4, FS4, LS4⟩ := KS4.cfl
 obtain ⟨CR4, FR4, LR4⟩ := KR4.cfl
 obtain ⟨CL4, FL4, LL4⟩ := KL4.cfl
 go_upto_region 22 with (fail)
 refine wp_region_held_drew (S := fun w' => Upd w w' [g] ∧ Die B w' g ∧ Blk w' w.heap.size 39 #[.int .i64 s.Index, .int .i64 s.Time, .slice a2 n2 k2, .slice a3 n3 k3, .int .i64 s.Lease.Holder, .int .i64 s.Lease.Epoch, .int .i64 s.Lease.Until] ∧ Blk w' gg 52 #[.int .i64 y0, .int .i64 y1, .int .i64 y2, .int .i64 y3, .int .i64 y4]) (by kernel_rfl) (by (try dsimp only); exact ⟨(by exact updT), (by exact dieT), bC, bC⟩) (fun hHeld => ?_)
 refine wt 0 ?_
 (try simp only [redA, Act.put])
 refine wtq 1 (fun _ h => h.2.2.1.cell) ?_
 (try simp only [redA, Act.put])
 refine wt 2 ?_
 (try simp only [redA, Act.put])
 refine wt 3 ?_
 (try simp only [redA, Act.put])
 refine wtq 4 (fun _ h => h.2.2.1.cell) ?_
 (try simp only [redA, Act.put])
 refine wt 5 ?_
 (try simp only [redA, Act.put])
 refine wt 8 ?_
 (try simp only [redA, Act.put])
 refine wtq 9 (fun _ h => h.2.2.2.cell) ?_
 (try simp only [redA, Act.put])
 refine wr1 6 fun Kz hKz => ?_
 (try simp only [redA])
 go_simp
 go_at_call 8
 refine (below_c (show Die B _ g from by exact dieT) 6 oM).mono ?_
 rintro e w5 ⟨_, rfl, X5, hc5, z, rfl, pz, qz⟩
 have hz5 := X5.sz
 have E5 : Upd w w5 [g] := X5.up
 have KS5 : Blk w5 w.heap.size 39 #[.int .i64 s.Index, .int .i64 s.Time, .slice a2 n2 k2, .slice a3 n3 k3, .int .i64 s.Lease.Holder, .int .i64 s.Lease.Epoch, .int .i64 s.Lease.Until] := bU X5
 have KR5 : Blk w5 (w.heap.size + 1) 54 #[.int .i64 0, .int .i64 0, .int .i64 0, .int .i64 0, .int .i64 0, .int .i64 0, .int .i64 0, .int .i64 0, .int .i64 0] := bU X5
 have KL5 : Blk w5 gg 52 #[.int .i64 y0, .int .i64 y1, .int .i64 y2, .int .i64 y3, .int .i64 y4] := bU X5
 have Op5 : OwnI M 113 2 w5 (.slice a2 n2 k2) (flPair s.Pairs) := OwnI.drawn (ow_ex0n Op4 KL4) X5 oM
 have Oj5 : OwnI M 95 5 w5 (.slice a3 n3 k3) (flJob s.Jobs) := OwnI.drawn (ow_ex0n Oj4 KL4) X5 oM
 clear X5
 clear CS4 FS4 LS4 CR4 FR4 LR4 CL4 FL4 LL4
 obtain ⟨CS5, FS5, LS5⟩ := KS5.cfl
 obtain ⟨CR5, FR5, LR5⟩ := KR5.cfl
 obtain ⟨CL5, FL5, LL5⟩ := KL5.cfl
 refine hKz.out _ _ (by (try dsimp only); exact ⟨(by exact updT), (by exact dieT), bC, bC⟩) (fun hHeld => ?_)
 clear hKz Kz
 (try simp only [redA, Act.put])
 refine wt 7 ?_
 (try simp only [redA, Act.put])
 refine wt 10 ?_
 (try simp only [redA, Act.put])
 refine wr1 11 fun Kz hKz => ?_
 (try simp only [redA])
 go_simp
 refine hKz.out _ _ (by (try dsimp only); exact ⟨(by exact updT), (by exact dieT), bC, bC⟩) (fun hHeld => ?_)
 clear hKz Kz
 (try simp only [redA, Act.put])
 refine wpAnyH_done (by kernel_rfl) ?_ _
 go_wp2_with fail
 refine bodyPost_ret (by simp [results, Tryz.results16, go_sem, CS5, FS5, LS5, CR5, FR5, LR5, CL5, FL5, LL5]; try rfl) rfl ?_
 exact ⟨_, rfl, by exact updT, by exact dieT, _, _, _, _, _, _, _, _, _, rfl, hcl.1, hcl.2⟩
end Go.Proofs.YtlnkggpemdpemaaGreat
