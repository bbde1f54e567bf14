/- Contracts and plain laws: W7 W8. -/
import Derived.Test.YthihnangjghloaaSa
import Derived.Deep.DeepCutAuto
import Derived.Deep.CutBlock
import Derived.Test.YthihnangjghloaaTy
import Derived.Test.YthihnangjghloaaSp
import Derived.Test.YthihnangjghloaaSq
import Derived.Test.YthihnangjghloaaSx
import Derived.Test.YthihnangjghloaaSu
set_option linter.unusedSimpArgs false
set_option linter.unusedVariables false
-- Lists of entries drawn by dice, and their states.
set_option linter.unusedSimpArgs false
set_option linter.unusedVariables false
namespace Go.Proofs.Ythihnangjghloaa
open Go.RowKit Go.G8

end Go.Proofs.Ythihnangjghloaa
namespace Go.G8
open Go.RowKit
open Go.Proofs.Ythihnangjghloaa
theorem z0_ok : stateOk (⟨0, 0, [], [], ⟨0, 0, 0⟩⟩ : DState) = true := by
 simp [stateOk, pairsOk, jobsOk, leaseOk, leaseZ, timeOk, inb, PairsOk, JobsOk]
theorem foldS_index : ∀ (l : List DEntry) {s m : DState}, foldS s l = (m, true) → m.Index = s.Index + l.length
 | [], s, m, h => by simp [foldS] at h; rw [← h]; simp
 | e :: t, s, m, h => by
  unfold foldS at h
  split at h
  ·
   rename_i hn
   have h1 := foldS_index t h
   obtain ⟨_, h2, _⟩ := nextIn_parts hn
   have h3 := (stepS_at (s := s) (e := e)).1
   simp only [List.length_cons]; omega
  ·
   cases h
theorem foldS_take {l : List DEntry} {s m : DState} (h : foldS s l = (m, true)) (k : Nat) : ∃ m', foldS s (l.take k) = (m', true) := by
 rw [← List.take_append_drop k l, foldS_app] at h
 cases hk : foldS s (l.take k) with
 | mk a b =>
  cases b
  ·
   rw [hk] at h; simp at h
  ·
   exact ⟨a, rfl⟩
theorem foldS_snoc {l : List DEntry} {s m : DState} {e : DEntry} (h : foldS s l = (m, true)) (hn : nextIn m e = true) : foldS s (l ++ [e]) = (stepS m e, true) := by
 rw [foldS_app, h]; simp [foldS, hn]
theorem OwnI.setK {B : Nat} {e : TypeId} {w : World} {X n c : Nat} {l : List Int} (h : OwnI B e 1 w (.slice (some ⟨X, 0, none⟩) n c) l) {i : Nat} (hl : i < l.length) (u : Int) : OwnI B e 1 (w.setCell ⟨X, i, none⟩ (.int .i64 u)) (.slice (some ⟨X, 0, none⟩) n c) (l.set i u) := by
 obtain ⟨len, h0, h | ⟨g, cap, cur, hv, hb, hgg, h1, h2, h3, h4⟩⟩ := h
 ·
  cases h.1
 injection hv with e1 e2 e3
 injection e1 with e1; injection e1 with e1
 subst e1; subst e2; subst e3
 refine ⟨_, by simpa using h0, .inr ⟨_, _, cur.setIfInBounds i (.int .i64 u), rfl, hb, ?_, h1, h2, by simpa using h3, ?_⟩⟩
 ·
  exact Blk.set_ hgg i _
 ·
  have hlen : l.length = n := by simpa using h0
  rw [Array.toList_setIfInBounds, List.map_set, ← h4, List.take_set]
theorem OwnI.makeZ (w : World) (e : TypeId) (n : Nat) (hn : n ≤ 1000) : OwnI w.heap.size e 1 (w.alloc (.cells (madeCells #[.int .i64 0] n) e)) (.slice (some ⟨w.heap.size, 0, none⟩) n n) (List.replicate n 0) :=
 Own.of_blk (cap := n) (Blk.new _ _ _) (Nat.le_refl _) (by simp [size_madeCells]) (by simp) (Nat.le_refl _) (by unfold maxLen; omega) (by
  intro j hj
  have hj' : j < n := by omega
  simp [madeCells, hj', Nat.mod_one])
theorem OwnI.farN {B B' : Nat} {e : TypeId} {n : Nat} {w0 w : World} {v : Value} {xs ys : List Int} (h0 : OwnI B' e n w0 v ys) (h : OwnI B e n w v xs) {X i : Nat} {u : Value} (hX : w0.heap.size ≤ X) : OwnI B e n (w.setCell ⟨X, i, none⟩ u) v xs :=
 Own.upd h ((Upd.refl w [X]).setOne i u) (fun k hk hm => by have := (Own.lt h0 hk).2; simp at hm; omega)
theorem OwnI.farK {B B' : Nat} {e e1 : TypeId} {n : Nat} {w : World} {v : Value} {xs : List Int} {X m c : Nat} {ks : List Int} (h : OwnI B e n w v xs) (hq : OwnI B' e1 1 w (.slice (some ⟨X, 0, none⟩) m c) ks) (ht : e1 ≠ e) {i : Nat} {u : Value} : OwnI B e n (w.setCell ⟨X, i, none⟩ u) v xs := by
 obtain ⟨cur, hb⟩ := Own.typed' hq (X := X) rfl
 exact OwnI.boxD h hb ht i u
theorem OwnI.cellK {B : Nat} {e : TypeId} {w : World} {X n c : Nat} {l : List Int} (h : OwnI B e 1 w (.slice (some ⟨X, 0, none⟩) n c) l) {i : Nat} {x : Int} (hx : l[i]? = some x) : w.cell? ⟨X, i, none⟩ = some (.int .i64 x) := by
 obtain ⟨len, h0, h | ⟨g, cap, cur, hv, hb, hgg, h1, h2, h3, h4⟩⟩ := h
 ·
  cases h.1
 injection hv with e1 e2 e3
 injection e1 with e1; injection e1 with e1
 subst e1; subst e2; subst e3
 rw [Blk.cell hgg]
 have hm : (l.map (Value.int .i64))[i]? = some (.int .i64 x) := by rw [List.getElem?_map, hx]; rfl
 rw [← h4, List.getElem?_take] at hm
 split at hm
 ·
  rwa [Array.getElem?_toList] at hm
 ·
  cases hm
end Go.G8
namespace Go.Proofs.Ythihnangjghloaa
open Go.RowKit Go.G8
set_option maxHeartbeats 4000000 in
set_option maxRecDepth 100000 in
theorem w6List_c {B : Nat} {w : World} {g : Nat} (h : Die B w g) (N : Nat) (hN : N ≤ 64) : Calls Try.prog 9 #[.pointer (some ⟨g, 0, none⟩), .int .i64 N] w (Dd B w g fun v w' => ∃ (l : List DEntry) (m : DState), OwnI w.heap.size 89 9 w' v (flEntry l) ∧ l.length ≤ N ∧ foldS (⟨0, 0, [], [], ⟨0, 0, 0⟩⟩ : DState) l = (m, true) ∧ stateOk m = true) := by
 obtain ⟨i0, hi, hy0, hy1, hy2⟩ := info_parts info_Entry
 obtain ⟨j0, hj, hj0, hj1, hj2⟩ := info_parts info_Int64
 have hc0 := h; have E0 : Upd w w [g] := Upd.refl _ _
 have hg0 := h.lt
 go_enter Try.func9, Try.ntmps9
 have hmk := fun W => run_make (P := Try.prog) W 86 2 j0 _ Try.underlying86 hj hj0 .i64 .i64 6 6 (by omega) (by omega) (by rw [hj2]; omega) (by omega)
 have Ol0 : OwnI w.heap.size 89 9 (w.alloc (.cells #[] 89)) (.slice (some ⟨w.heap.size, 0, none⟩) 0 0) [] := OwnI.lit0 w _ _
 have Oq0 : OwnI w.heap.size 2 1 ((w.alloc (.cells #[] 89)).alloc (.cells (madeCells #[.int .i64 0] 6) 2)) (.slice (some ⟨w.heap.size + 1, 0, none⟩) 6 6) (List.replicate 6 0) := by
  have := OwnI.makeZ (w.alloc (.cells #[] 89)) 2 6 (by omega)
  simp only [World.size_alloc] at this
  exact this.mono (by omega)
 go_wp2_with fail
 refine (sNewState_c _).mono ?_
 rintro e w1 ⟨rfl, hx1⟩
 have hz1 := hx1.size; (try simp only [szA] at hz1)
 have E1 : Upd w w1 [g] := Upd.ext (by exact updT) hx1
 have hc1 : Die B w1 g := Die.ext (by exact dieT) hx1
 have Ol1 : OwnI w.heap.size 89 9 w1 (.slice (some ⟨w.heap.size, 0, none⟩) 0 0) [] := OwnI.ext1 (by exact ownT) hx1
 have Oq1 : OwnI w.heap.size 2 1 w1 (.slice (some ⟨w.heap.size + 1, 0, none⟩) 6 6) (List.replicate 6 0) := OwnI.ext1 (by exact ownT) hx1
 clear hx1
 clear hmk
 go_wp2_with fail
 go_loopw [1, 5] (fun kk out wr => ∃ (k : Nat) (l : List DEntry) (ks : List Int) (s' : DState) (b2 : Option Addr) (m2 c2 : Nat) (b3 : Option Addr) (m3 c3 : Nat), k ≤ N ∧ kk = .int .i64 k ∧ l.length + k ≤ N ∧ ks.length = 6 ∧ foldS (⟨0, 0, [], [], ⟨0, 0, 0⟩⟩ : DState) l = (s', true) ∧ stateOk s' = true ∧ Upd w wr [g] ∧ Die B wr g ∧ OwnI w.heap.size 89 9 wr out (flEntry l) ∧ OwnI w.heap.size 2 1 wr (.slice (some ⟨w.heap.size + 1, 0, none⟩) 6 6) ks ∧ Blk wr w1.heap.size 45 #[.int .i64 s'.Index, .int .i64 s'.Time, .slice b2 m2 c2, .slice b3 m3 c3, .int .i64 s'.Lease.Holder, .int .i64 s'.Lease.Epoch, .int .i64 s'.Lease.Until] ∧ OwnI w.heap.size 182 2 wr (.slice b2 m2 c2) (flPair s'.Pairs) ∧ OwnI w.heap.size 142 5 wr (.slice b3 m3 c3) (flJob s'.Jobs)) (fun kk _ _ => (intOf kk).toNat)
 case atStart => exact ⟨N, [], List.replicate 6 0, (⟨0, 0, [], [], ⟨0, 0, 0⟩⟩ : DState), none, 0, 0, none, 0, 0, Nat.le_refl _, rfl, by simp, by simp, by simp [foldS], z0_ok, by exact updT, by exact dieT, OwnI.ext1 Ol1 (by exact extT), OwnI.ext1 Oq1 (by exact extT), Blk.cast (by exact blkT) (by first | rfl | simp), OwnI.nil _ _ _ _, OwnI.nil _ _ _ _⟩
 case round =>
  obtain ⟨k, l, ks, s', b2, m2, c2, b3, m3, c3, hk, rfl, hl, hks, hfo, hso, E2, hc2, Ol2, Oq2, KS2, Op2, Oj2⟩ := hrel
  clear Ol0 Oq0
  obtain ⟨a0, n0, c0, rfl⟩ := Ol2.shape
  obtain ⟨w2, hw⟩ : ∃ w2, w2 = wr := ⟨_, rfl⟩
  subst hw
  have hz2 := E2.size
  have LS2 := KS2.lt; have hS12 := KS2.lt
  have CS2 := KS2.cell; have FS2 := KS2.frozen
  by_cases hlt : 0 < k
  ·
   skip
   have hlt2 : (0 : Int) < (k : Int) := by omega
   have hw9 : IntKind.i64.wrap ((k : Int) - 1) = (k : Int) - 1 := by rw [IntKind.wrap_i64]; omega
   go_wp2_with fail
   refine (w6Next_c (show Die B _ g from by exact dieT) (M := w.heap.size) (by omega) (s := s') ⟨_, _, rfl, (by exact ownT), (by exact ownT)⟩ hso).mono ?_
   rintro e w3 ⟨_, rfl, X3, hc3, ei, et, ec, es, ok, oa, ob, oc, od, rfl, hec0, hec1⟩
   have hz3 := X3.size; (try simp only [szA] at hz3)
   have E3 : Upd w w3 [g] := Upd.trans (by exact updT) X3
   have KS3 : Blk w3 w1.heap.size 45 #[.int .i64 s'.Index, .int .i64 s'.Time, .slice b2 m2 c2, .slice b3 m3 c3, .int .i64 s'.Lease.Holder, .int .i64 s'.Lease.Epoch, .int .i64 s'.Lease.Until] := Blk.upd1 (Blk.cast (by exact blkT) (by first | rfl | simp)) X3 (by omega)
   have Ol3 : OwnI w.heap.size 89 9 w3 (.slice a0 n0 c0) (flEntry l) := OwnI.drawn (by first | (with_reducible exact Ol2) | (refine OwnI.updX Ol2 KS2 (by decide) ?_; (exact updT); done) | (exact ownT)) X3 (by omega)
   have Oq3 : OwnI w.heap.size 2 1 w3 (.slice (some ⟨w.heap.size + 1, 0, none⟩) 6 6) ks := OwnI.drawn (by first | (with_reducible exact Oq2) | (refine OwnI.updX Oq2 KS2 (by decide) ?_; (exact updT); done) | (exact ownT)) X3 (by omega)
   have Op3 : OwnI w.heap.size 182 2 w3 (.slice b2 m2 c2) (flPair s'.Pairs) := OwnI.drawn (by first | (with_reducible exact Op2) | (refine OwnI.updX Op2 KS2 (by decide) ?_; (exact updT); done) | (exact ownT)) X3 (by omega)
   have Oj3 : OwnI w.heap.size 142 5 w3 (.slice b3 m3 c3) (flJob s'.Jobs) := OwnI.drawn (by first | (with_reducible exact Oj2) | (refine OwnI.updX Oj2 KS2 (by decide) ?_; (exact updT); done) | (exact ownT)) X3 (by omega)
   clear X3
   clear CS2 FS2 LS2
   have CS3 := KS3.cell; have FS3 := KS3.frozen; have LS3 := KS3.lt
   obtain ⟨kx, hkv⟩ : ∃ kx, ks[ec.toNat]? = some kx := ⟨_, List.getElem?_eq_getElem (by omega)⟩
   obtain ⟨ex, hex⟩ : ∃ ex : Nat, ec = (ex : Int) := ⟨ec.toNat, by omega⟩
   subst hex
   simp only [Int.toNat_natCast] at hkv
   have hex6 : ex < 6 := by omega
   go_upto_region 7 with (fail)
   go_cut [] (fun wx => ∃ ks2 : List Int, ks2.length = 6 ∧ OwnI w.heap.size 2 1 wx (.slice (some ⟨w.heap.size + 1, 0, none⟩) 6 6) ks2 ∧ Upd w wx [g] ∧ Die B wx g ∧ Blk wx w1.heap.size 45 #[.int .i64 s'.Index, .int .i64 s'.Time, .slice b2 m2 c2, .slice b3 m3 c3, .int .i64 s'.Lease.Holder, .int .i64 s'.Lease.Epoch, .int .i64 s'.Lease.Until] ∧ Blk wx w3.heap.size 89 #[.int .i64 ei, .int .i64 et, .int .i64 (ex : Int), .int .i64 es, .int .i64 ok, .int .i64 oa, .int .i64 ob, .int .i64 oc, .int .i64 od] ∧ OwnI w.heap.size 89 9 wx (.slice a0 n0 c0) (flEntry l) ∧ OwnI w.heap.size 182 2 wx (.slice b2 m2 c2) (flPair s'.Pairs) ∧ OwnI w.heap.size 142 5 wx (.slice b3 m3 c3) (flJob s'.Jobs))
   case first =>
    have hk93 := OwnI.cellK Oq3 hkv
    obtain ⟨curq3, KXq3⟩ := Own.typed' Oq3 (X := w.heap.size + 1) rfl
    have FXq3 := KXq3.frozen; have LXq3 := KXq3.lt
    refine wp_region_held_drew (S := fun w' => Upd w w' [g] ∧ Die B w' g ∧ Blk w' w3.heap.size 89 #[.int .i64 ei, .int .i64 et, .int .i64 (ex : Int), .int .i64 es, .int .i64 ok, .int .i64 oa, .int .i64 ob, .int .i64 oc, .int .i64 od]) (by kernel_rfl) (by (try dsimp only); exact ⟨(by exact updT), (by exact dieT), (Blk.cast (by exact blkT) setsT)⟩) (fun hHeld => ?_)
    refine wpAnyH_take (i := 0) (v := ?_) rfl (by kernel_rfl) (by kernel_rfl) (by kernel_rfl) (fun _ _ _ h => h) (Or.inl ⟨by rfl, ?_⟩) (by assumption) ?_
    rotate_left
    focus (intro w hSw; (try dsimp only at hSw); go_simp <;> with_reducible rfl)
    (try simp only [redA, Act.put])
    refine wpAnyH_take (i := 1) (v := ?_) rfl (by kernel_rfl) (by kernel_rfl) (by kernel_rfl) (fun _ _ _ h => h) (Or.inl ⟨by rfl, ?_⟩) (by assumption) ?_
    rotate_left
    focus (intro w hSw; (try dsimp only at hSw); go_simp <;> with_reducible rfl)
    (try simp only [redA, Act.put])
    refine wpAnyH_take (i := 2) (v := ?_) rfl (by kernel_rfl) (by kernel_rfl) (by kernel_rfl) (fun _ _ _ h => h) (Or.inl ⟨by rfl, ?_⟩) (by assumption) ?_
    rotate_left
    focus (intro w hSw; (try dsimp only at hSw); have hq := hSw.2.2.cell; go_simp <;> with_reducible rfl)
    (try simp only [redA, Act.put])
    refine wpAnyH_take (i := 3) (v := ?_) rfl (by kernel_rfl) (by kernel_rfl) (by kernel_rfl) (fun _ _ _ h => h) (Or.inl ⟨by rfl, ?_⟩) (by assumption) ?_
    rotate_left
    focus (intro w hSw; (try dsimp only at hSw); go_simp <;> with_reducible rfl)
    (try simp only [redA, Act.put])
    refine wpAnyH_take (i := 4) (v := ?_) rfl (by kernel_rfl) (by kernel_rfl) (by kernel_rfl) (fun _ _ _ h => h) (Or.inl ⟨by rfl, ?_⟩) (by assumption) ?_
    rotate_left
    focus (intro w hSw; (try dsimp only at hSw); go_simp <;> with_reducible rfl)
    (try simp only [redA, Act.put])
    refine wpAnyH_take (i := 5) (v := ?_) rfl (by kernel_rfl) (by kernel_rfl) (by kernel_rfl) (fun _ _ _ h => h) (Or.inl ⟨by rfl, ?_⟩) (by assumption) ?_
    rotate_left
    focus (intro w hSw; (try dsimp only at hSw); have hq := hSw.2.2.cell; go_simp <;> with_reducible rfl)
    (try simp only [redA, Act.put])
    refine wpAnyH_take (i := 6) (v := ?_) rfl (by kernel_rfl) (by kernel_rfl) (by kernel_rfl) (fun _ _ _ h => h) (Or.inl ⟨by rfl, ?_⟩) (by assumption) ?_
    rotate_left
    focus (intro w hSw; (try dsimp only at hSw); go_simp <;> with_reducible rfl)
    (try simp only [redA, Act.put])
    refine wpAnyH_take (i := 9) (v := ?_) rfl (by kernel_rfl) (by kernel_rfl) (by kernel_rfl) (fun _ _ _ h => h) (Or.inl ⟨by rfl, ?_⟩) (by assumption) ?_
    rotate_left
    focus (intro w hSw; (try dsimp only at hSw); go_simp <;> with_reducible rfl)
    (try simp only [redA, Act.put])
    refine wpAnyH_ready (rs := [7, 10]) (by kernel_rfl) (by simp) ?_
    refine AllReadyH.cons rfl (fun Kz hKz => ?_) (AllReadyH.cons rfl (fun Kz hKz => ?_) AllReadyH.nil)
    ·
     skip
     (try simp only [redA])
     go_simp
     refine hKz.out _ _ (by (try dsimp only); exact ⟨(by exact updT), (by exact dieT), (Blk.cast (by exact blkT) setsT)⟩) (fun hHeld => ?_)
     clear hKz Kz
     (try simp only [redA, Act.put])
     refine wpAnyH_take (i := 8) (v := ?_) rfl (by kernel_rfl) (by kernel_rfl) (by kernel_rfl) (fun _ _ _ h => h) (Or.inl ⟨by rfl, ?_⟩) (by assumption) ?_
     rotate_left
     focus (intro w hSw; (try dsimp only at hSw); go_simp <;> with_reducible rfl)
     (try simp only [redA, Act.put])
     refine wpAnyH_ready (rs := [10]) (by kernel_rfl) (by simp) ?_
     refine AllReadyH.cons rfl (fun Kz hKz => ?_) AllReadyH.nil
     (try simp only [redA])
     go_simp
     go_at_call 10
     refine (below_c (show Die B _ g from by exact dieT) 2 (by omega)).mono ?_
     rintro e w4 ⟨_, rfl, X4, hc4, zz, rfl, pzz, qzz⟩
     have hz4 := X4.size; (try simp only [szA] at hz4)
     have E4 : Upd w w4 [g] := Upd.trans (by exact updT) X4
     have KS4 : Blk w4 w1.heap.size 45 #[.int .i64 s'.Index, .int .i64 s'.Time, .slice b2 m2 c2, .slice b3 m3 c3, .int .i64 s'.Lease.Holder, .int .i64 s'.Lease.Epoch, .int .i64 s'.Lease.Until] := Blk.upd1 (Blk.cast (by exact blkT) (by first | rfl | simp)) X4 (by omega)
     have KE4 : Blk w4 w3.heap.size 89 #[.int .i64 ei, .int .i64 et, .int .i64 (ex : Int), .int .i64 es, .int .i64 ok, .int .i64 oa, .int .i64 ob, .int .i64 oc, .int .i64 od] := Blk.upd1 (Blk.cast (by exact blkT) (by first | rfl | simp)) X4 (by omega)
     have Ol4 : OwnI w.heap.size 89 9 w4 (.slice a0 n0 c0) (flEntry l) := OwnI.drawn (by first | (with_reducible exact Ol3) | (refine OwnI.updX Ol3 KS3 (by decide) ?_; (exact updT); done) | (exact ownT)) X4 (by omega)
     have Op4 : OwnI w.heap.size 182 2 w4 (.slice b2 m2 c2) (flPair s'.Pairs) := OwnI.drawn (by first | (with_reducible exact Op3) | (refine OwnI.updX Op3 KS3 (by decide) ?_; (exact updT); done) | (exact ownT)) X4 (by omega)
     have Oj4 : OwnI w.heap.size 142 5 w4 (.slice b3 m3 c3) (flJob s'.Jobs) := OwnI.drawn (by first | (with_reducible exact Oj3) | (refine OwnI.updX Oj3 KS3 (by decide) ?_; (exact updT); done) | (exact ownT)) X4 (by omega)
     have Oq4 : OwnI w.heap.size 2 1 w4 (.slice (some ⟨w.heap.size + 1, 0, none⟩) 6 6) ks := OwnI.drawn (by first | (with_reducible exact Oq3) | (refine OwnI.updX Oq3 KS3 (by decide) ?_; (exact updT); done) | (exact ownT)) X4 (by omega)
     clear X4
     clear CS3 FS3 LS3 hk93 FXq3 LXq3
     have CS4 := KS4.cell; have FS4 := KS4.frozen; have LS4 := KS4.lt
     have CE4 := KE4.cell; have FE4 := KE4.frozen; have LE4 := KE4.lt
     have hk94 := OwnI.cellK Oq4 hkv
     obtain ⟨curq4, KXq4⟩ := Own.typed' Oq4 (X := w.heap.size + 1) rfl
     have FXq4 := KXq4.frozen; have LXq4 := KXq4.lt
     refine hKz.out _ _ (by (try dsimp only); exact ⟨(by exact updT), (by exact dieT), (Blk.cast (by exact blkT) setsT)⟩) (fun hHeld => ?_)
     clear hKz Kz
     (try simp only [redA, Act.put])
     refine wpAnyH_take (i := 11) (v := ?_) rfl (by kernel_rfl) (by kernel_rfl) (by kernel_rfl) (fun _ _ _ h => h) (Or.inl ⟨by rfl, ?_⟩) (by assumption) ?_
     rotate_left
     focus (intro w hSw; (try dsimp only at hSw); go_simp <;> with_reducible rfl)
     (try simp only [redA, Act.put])
     refine wpAnyH_take (i := 12) (v := ?_) rfl (by kernel_rfl) (by kernel_rfl) (by kernel_rfl) (fun _ _ _ h => h) (Or.inl ⟨by rfl, ?_⟩) (by assumption) ?_
     rotate_left
     focus (intro w hSw; (try dsimp only at hSw); go_simp <;> with_reducible rfl)
     (try simp only [redA, Act.put])
     refine wpAnyH_ready (rs := [13]) (by kernel_rfl) (by simp) ?_
     refine AllReadyH.cons rfl (fun Kz hKz => ?_) AllReadyH.nil
     (try simp only [redA])
     go_simp
     refine hKz.out _ _ (by (try dsimp only); exact ⟨(by exact updT), (by exact dieT), (Blk.cast (by exact blkT) setsT)⟩) (fun hHeld => ?_)
     clear hKz Kz
     (try simp only [redA, Act.put])
     refine wpAnyH_done (by kernel_rfl) ?_ _
     go_wp2_with fail
     go_meet
     case rel => exact ⟨_, (by simp; omega), (OwnI.setK Oq4 (by omega) _), (by exact updT), (by exact dieT), (Blk.cast (by exact blkT) setsT), (Blk.cast (by exact blkT) setsT), (OwnI.farK Ol4 Oq4 (by decide)), (OwnI.farK Op4 Oq4 (by decide)), (OwnI.farK Oj4 Oq4 (by decide))⟩
    ·
     skip
     (try simp only [redA])
     go_simp
     go_at_call 10
     refine (below_c (show Die B _ g from by exact dieT) 2 (by omega)).mono ?_
     rintro e w4 ⟨_, rfl, X4, hc4, zz, rfl, pzz, qzz⟩
     have hz4 := X4.size; (try simp only [szA] at hz4)
     have E4 : Upd w w4 [g] := Upd.trans (by exact updT) X4
     have KS4 : Blk w4 w1.heap.size 45 #[.int .i64 s'.Index, .int .i64 s'.Time, .slice b2 m2 c2, .slice b3 m3 c3, .int .i64 s'.Lease.Holder, .int .i64 s'.Lease.Epoch, .int .i64 s'.Lease.Until] := Blk.upd1 (Blk.cast (by exact blkT) (by first | rfl | simp)) X4 (by omega)
     have KE4 : Blk w4 w3.heap.size 89 #[.int .i64 ei, .int .i64 et, .int .i64 (ex : Int), .int .i64 es, .int .i64 ok, .int .i64 oa, .int .i64 ob, .int .i64 oc, .int .i64 od] := Blk.upd1 (Blk.cast (by exact blkT) (by first | rfl | simp)) X4 (by omega)
     have Ol4 : OwnI w.heap.size 89 9 w4 (.slice a0 n0 c0) (flEntry l) := OwnI.drawn (by first | (with_reducible exact Ol3) | (refine OwnI.updX Ol3 KS3 (by decide) ?_; (exact updT); done) | (exact ownT)) X4 (by omega)
     have Op4 : OwnI w.heap.size 182 2 w4 (.slice b2 m2 c2) (flPair s'.Pairs) := OwnI.drawn (by first | (with_reducible exact Op3) | (refine OwnI.updX Op3 KS3 (by decide) ?_; (exact updT); done) | (exact ownT)) X4 (by omega)
     have Oj4 : OwnI w.heap.size 142 5 w4 (.slice b3 m3 c3) (flJob s'.Jobs) := OwnI.drawn (by first | (with_reducible exact Oj3) | (refine OwnI.updX Oj3 KS3 (by decide) ?_; (exact updT); done) | (exact ownT)) X4 (by omega)
     have Oq4 : OwnI w.heap.size 2 1 w4 (.slice (some ⟨w.heap.size + 1, 0, none⟩) 6 6) ks := OwnI.drawn (by first | (with_reducible exact Oq3) | (refine OwnI.updX Oq3 KS3 (by decide) ?_; (exact updT); done) | (exact ownT)) X4 (by omega)
     clear X4
     clear CS3 FS3 LS3 hk93 FXq3 LXq3
     have CS4 := KS4.cell; have FS4 := KS4.frozen; have LS4 := KS4.lt
     have CE4 := KE4.cell; have FE4 := KE4.frozen; have LE4 := KE4.lt
     have hk94 := OwnI.cellK Oq4 hkv
     obtain ⟨curq4, KXq4⟩ := Own.typed' Oq4 (X := w.heap.size + 1) rfl
     have FXq4 := KXq4.frozen; have LXq4 := KXq4.lt
     refine hKz.out _ _ (by (try dsimp only); exact ⟨(by exact updT), (by exact dieT), (Blk.cast (by exact blkT) setsT)⟩) (fun hHeld => ?_)
     clear hKz Kz
     (try simp only [redA, Act.put])
     refine wpAnyH_ready (rs := [7]) (by kernel_rfl) (by simp) ?_
     refine AllReadyH.cons rfl (fun Kz hKz => ?_) AllReadyH.nil
     (try simp only [redA])
     go_simp
     refine hKz.out _ _ (by (try dsimp only); exact ⟨(by exact updT), (by exact dieT), (Blk.cast (by exact blkT) setsT)⟩) (fun hHeld => ?_)
     clear hKz Kz
     (try simp only [redA, Act.put])
     refine wpAnyH_take (i := 8) (v := ?_) rfl (by kernel_rfl) (by kernel_rfl) (by kernel_rfl) (fun _ _ _ h => h) (Or.inl ⟨by rfl, ?_⟩) (by assumption) ?_
     rotate_left
     focus (intro w hSw; (try dsimp only at hSw); go_simp <;> with_reducible rfl)
     (try simp only [redA, Act.put])
     refine wpAnyH_take (i := 11) (v := ?_) rfl (by kernel_rfl) (by kernel_rfl) (by kernel_rfl) (fun _ _ _ h => h) (Or.inl ⟨by rfl, ?_⟩) (by assumption) ?_
     rotate_left
     focus (intro w hSw; (try dsimp only at hSw); go_simp <;> with_reducible rfl)
     (try simp only [redA, Act.put])
     refine wpAnyH_take (i := 12) (v := ?_) rfl (by kernel_rfl) (by kernel_rfl) (by kernel_rfl) (fun _ _ _ h => h) (Or.inl ⟨by rfl, ?_⟩) (by assumption) ?_
     rotate_left
     focus (intro w hSw; (try dsimp only at hSw); go_simp <;> with_reducible rfl)
     (try simp only [redA, Act.put])
     refine wpAnyH_ready (rs := [13]) (by kernel_rfl) (by simp) ?_
     refine AllReadyH.cons rfl (fun Kz hKz => ?_) AllReadyH.nil
     (try simp only [redA])
     go_simp
     refine hKz.out _ _ (by (try dsimp only); exact ⟨(by exact updT), (by exact dieT), (Blk.cast (by exact blkT) setsT)⟩) (fun hHeld => ?_)
     clear hKz Kz
     (try simp only [redA, Act.put])
     refine wpAnyH_done (by kernel_rfl) ?_ _
     go_wp2_with fail
     go_meet
     case rel => exact ⟨_, (by simp; omega), (OwnI.setK Oq4 (by omega) _), (by exact updT), (by exact dieT), (Blk.cast (by exact blkT) setsT), (Blk.cast (by exact blkT) setsT), (OwnI.farK Ol4 Oq4 (by decide)), (OwnI.farK Op4 Oq4 (by decide)), (OwnI.farK Oj4 Oq4 (by decide))⟩
   case rest =>
    revert wc; intro w4 hcut
    obtain ⟨ks2, hks2, Oq4, E4, hc4, KS4, KE4, Ol4, Op4, Oj4⟩ := hcut
    have hz4 := E4.size
    clear CS3 FS3 LS3
    have CS4 := KS4.cell; have FS4 := KS4.frozen; have LS4 := KS4.lt
    have CE4 := KE4.cell; have FE4 := KE4.frozen; have LE4 := KE4.lt
    obtain ⟨ky, hkv2⟩ : ∃ ky, ks2[ex]? = some ky := ⟨_, List.getElem?_eq_getElem (by omega)⟩
    have hk94 := OwnI.cellK Oq4 hkv2
    obtain ⟨curq4, KXq4⟩ := Own.typed' Oq4 (X := w.heap.size + 1) rfl
    have FXq4 := KXq4.frozen; have LXq4 := KXq4.lt
    go_upto_region 9 with (fail)
    go_cut [9, 10] (fun cx0 cx1 wx => ∃ nn : Nat, ∃ okb : Bool, ∃ s2 : DState, ∃ d2 : Option Addr, ∃ q2 : Nat, ∃ r2 : Nat, ∃ d3 : Option Addr, ∃ q3 : Nat, ∃ r3 : Nat, cx0 = .pointer (some ⟨nn, 0, none⟩) ∧ cx1 = .bool okb ∧ w4.heap.size ≤ nn ∧ (okb = true → foldS (⟨0, 0, [], [], ⟨0, 0, 0⟩⟩ : DState) (l ++ [⟨ei, et, (ex : Int), ky, ⟨ok, oa, ob, oc, od⟩⟩]) = (s2, true) ∧ stateOk s2 = true) ∧ Blk wx nn 45 #[.int .i64 s2.Index, .int .i64 s2.Time, .slice d2 q2 r2, .slice d3 q3 r3, .int .i64 s2.Lease.Holder, .int .i64 s2.Lease.Epoch, .int .i64 s2.Lease.Until] ∧ OwnI w.heap.size 182 2 wx (.slice d2 q2 r2) (flPair s2.Pairs) ∧ OwnI w.heap.size 142 5 wx (.slice d3 q3 r3) (flJob s2.Jobs) ∧ Upd w wx [g] ∧ Die B wx g ∧ Blk wx w1.heap.size 45 #[.int .i64 s'.Index, .int .i64 s'.Time, .slice b2 m2 c2, .slice b3 m3 c3, .int .i64 s'.Lease.Holder, .int .i64 s'.Lease.Epoch, .int .i64 s'.Lease.Until] ∧ Blk wx w3.heap.size 89 #[.int .i64 ei, .int .i64 et, .int .i64 (ex : Int), .int .i64 ky, .int .i64 ok, .int .i64 oa, .int .i64 ob, .int .i64 oc, .int .i64 od] ∧ OwnI w.heap.size 89 9 wx (.slice a0 n0 c0) (flEntry l) ∧ OwnI w.heap.size 182 2 wx (.slice b2 m2 c2) (flPair s'.Pairs) ∧ OwnI w.heap.size 142 5 wx (.slice b3 m3 c3) (flJob s'.Jobs) ∧ OwnI w.heap.size 2 1 wx (.slice (some ⟨w.heap.size + 1, 0, none⟩) 6 6) ks2)
    case first =>
     go_wp2_with fail
     refine (sApplied_k (s := s') (IsState.rd (B := w.heap.size) ⟨_, _, rfl, (by first | exact ownT | exact OwnI.updX Op4 KE4 (by decide) (by exact updT)), (by first | exact ownT | exact OwnI.updX Oj4 KE4 (by decide) (by exact updT))⟩) _ _ _ _ _ _ _ _ _).mono ?_
     rintro e w5 ⟨_, rfl, hx5, u, rfl, gu⟩
     have hz5 := hx5.size; (try simp only [szA] at hz5)
     have E5 : Upd w w5 [g] := Upd.ext (by exact updT) hx5
     have hc5 : Die B w5 g := Die.ext (by exact dieT) hx5
     have KS5 : Blk w5 w1.heap.size 45 #[.int .i64 s'.Index, .int .i64 s'.Time, .slice b2 m2 c2, .slice b3 m3 c3, .int .i64 s'.Lease.Holder, .int .i64 s'.Lease.Epoch, .int .i64 s'.Lease.Until] := Blk.ext (Blk.cast (by exact blkT) (by first | rfl | simp)) hx5
     have KE5 : Blk w5 w3.heap.size 89 #[.int .i64 ei, .int .i64 et, .int .i64 (ex : Int), .int .i64 ky, .int .i64 ok, .int .i64 oa, .int .i64 ob, .int .i64 oc, .int .i64 od] := Blk.ext (Blk.cast (by exact blkT) (by first | rfl | simp)) hx5
     have Ol5 : OwnI w.heap.size 89 9 w5 (.slice a0 n0 c0) (flEntry l) := OwnI.ext1 (OwnI.farN Ol3 Ol4 (Nat.le_refl _)) hx5
     have Op5 : OwnI w.heap.size 182 2 w5 (.slice b2 m2 c2) (flPair s'.Pairs) := OwnI.ext1 (by first | (with_reducible exact Op4) | (refine OwnI.updX Op4 KS4 (by decide) ?_; (exact updT); done) | (refine OwnI.updX Op4 KE4 (by decide) ?_; (exact updT); done) | (refine OwnI.updX2 Op4 KS4 KE4 (by decide) (by decide) ?_; (exact upd2T); done) | (exact ownT)) hx5
     have Oj5 : OwnI w.heap.size 142 5 w5 (.slice b3 m3 c3) (flJob s'.Jobs) := OwnI.ext1 (by first | (with_reducible exact Oj4) | (refine OwnI.updX Oj4 KS4 (by decide) ?_; (exact updT); done) | (refine OwnI.updX Oj4 KE4 (by decide) ?_; (exact updT); done) | (refine OwnI.updX2 Oj4 KS4 KE4 (by decide) (by decide) ?_; (exact upd2T); done) | (exact ownT)) hx5
     have Oq5 : OwnI w.heap.size 2 1 w5 (.slice (some ⟨w.heap.size + 1, 0, none⟩) 6 6) ks2 := OwnI.ext1 (by first | (with_reducible exact Oq4) | (refine OwnI.updX Oq4 KS4 (by decide) ?_; (exact updT); done) | (refine OwnI.updX Oq4 KE4 (by decide) ?_; (exact updT); done) | (refine OwnI.updX2 Oq4 KS4 KE4 (by decide) (by decide) ?_; (exact upd2T); done) | (exact ownT)) hx5
     clear hx5
     clear CS4 FS4 LS4 CE4 FE4 LE4 hk94 FXq4 LXq4
     have CS5 := KS5.cell; have FS5 := KS5.frozen; have LS5 := KS5.lt
     have CE5 := KE5.cell; have FE5 := KE5.frozen; have LE5 := KE5.lt
     obtain ⟨v2, v3, rfl, gp, gj⟩ := gu
     obtain ⟨d2, q2, r2, rfl⟩ := gp.shape
     obtain ⟨d3, q3, r3, rfl⟩ := gj.shape
     have Ox5 := gp.mono (B' := w.heap.size) (by simp only [World.size_alloc, World.size_setCell, size_setRow]; omega); have Oy5 := gj.mono (B' := w.heap.size) (by simp only [World.size_alloc, World.size_setCell, size_setRow]; omega)
     clear gp gj
     have hfin : appOk s' ⟨ei, et, (ex : Int), ky, ⟨ok, oa, ob, oc, od⟩⟩ = true → foldS (⟨0, 0, [], [], ⟨0, 0, 0⟩⟩ : DState) (l ++ [⟨ei, et, (ex : Int), ky, ⟨ok, oa, ob, oc, od⟩⟩]) = (appD s' ⟨ei, et, (ex : Int), ky, ⟨ok, oa, ob, oc, od⟩⟩, true) ∧ stateOk (appD s' ⟨ei, et, (ex : Int), ky, ⟨ok, oa, ob, oc, od⟩⟩) = true := by
      intro h9; unfold appOk at h9; rw [Bool.and_eq_true] at h9
      have eD : appD s' ⟨ei, et, (ex : Int), ky, ⟨ok, oa, ob, oc, od⟩⟩ = stepS s' ⟨ei, et, (ex : Int), ky, ⟨ok, oa, ob, oc, od⟩⟩ := by unfold appD; rw [if_pos h9.1, if_pos h9.2]
      rw [eD]; exact ⟨foldS_snoc hfo h9.2, stepS_ok h9.1 h9.2⟩
     go_wp2_with fail
     go_meet
     case rel => exact ⟨_, _, _, _, _, _, _, _, _, (by first | rfl | trivial), (by first | rfl | trivial), (by first | omega | (simp only [szA] at *; omega)), hfin, (Blk.cast (by exact blkT) setsT), (by first | (with_reducible exact Ox5) | (refine OwnI.drawn Ox5 ?_ (by omega); (exact updT); done) | (refine OwnI.updX Ox5 KS5 (by decide) ?_; (exact updT); done) | (refine OwnI.updX Ox5 KE5 (by decide) ?_; (exact updT); done) | (refine OwnI.updX2 Ox5 KS5 KE5 (by decide) (by decide) ?_; (exact upd2T); done)), (by first | (with_reducible exact Oy5) | (refine OwnI.drawn Oy5 ?_ (by omega); (exact updT); done) | (refine OwnI.updX Oy5 KS5 (by decide) ?_; (exact updT); done) | (refine OwnI.updX Oy5 KE5 (by decide) ?_; (exact updT); done) | (refine OwnI.updX2 Oy5 KS5 KE5 (by decide) (by decide) ?_; (exact upd2T); done)), (by exact updT), (by exact dieT), (Blk.cast (by exact blkT) setsT), (Blk.cast (by exact blkT) setsT), (by first | (with_reducible exact Ol5) | (refine OwnI.drawn Ol5 ?_ (by omega); (exact updT); done) | (refine OwnI.updX Ol5 KS5 (by decide) ?_; (exact updT); done) | (refine OwnI.updX Ol5 KE5 (by decide) ?_; (exact updT); done) | (refine OwnI.updX2 Ol5 KS5 KE5 (by decide) (by decide) ?_; (exact upd2T); done)), (by first | (with_reducible exact Op5) | (refine OwnI.drawn Op5 ?_ (by omega); (exact updT); done) | (refine OwnI.updX Op5 KS5 (by decide) ?_; (exact updT); done) | (refine OwnI.updX Op5 KE5 (by decide) ?_; (exact updT); done) | (refine OwnI.updX2 Op5 KS5 KE5 (by decide) (by decide) ?_; (exact upd2T); done)), (by first | (with_reducible exact Oj5) | (refine OwnI.drawn Oj5 ?_ (by omega); (exact updT); done) | (refine OwnI.updX Oj5 KS5 (by decide) ?_; (exact updT); done) | (refine OwnI.updX Oj5 KE5 (by decide) ?_; (exact updT); done) | (refine OwnI.updX2 Oj5 KS5 KE5 (by decide) (by decide) ?_; (exact upd2T); done)), (by first | (with_reducible exact Oq5) | (refine OwnI.drawn Oq5 ?_ (by omega); (exact updT); done) | (refine OwnI.updX Oq5 KS5 (by decide) ?_; (exact updT); done) | (refine OwnI.updX Oq5 KE5 (by decide) ?_; (exact updT); done) | (refine OwnI.updX2 Oq5 KS5 KE5 (by decide) (by decide) ?_; (exact upd2T); done))⟩
    case rest =>
     revert wc; intro w5 hcut
     obtain ⟨nn, okb, s2, d2, q2, r2, d3, q3, r3, rfl, rfl, hnn, hfin, KN5, Ox5, Oy5, E5, hc5, KS5, KE5, Ol5, Op5, Oj5, Oq5⟩ := hcut
     have hz5 := E5.size
     clear CS4 FS4 LS4 CE4 FE4 LE4 hk94 FXq4 LXq4
     have CS5 := KS5.cell; have FS5 := KS5.frozen; have LS5 := KS5.lt
     have CE5 := KE5.cell; have FE5 := KE5.frozen; have LE5 := KE5.lt
     have CN5 := KN5.cell; have FN5 := KN5.frozen; have LN5 := KN5.lt
     cases okb
     rotate_left
     ·
      skip
      obtain ⟨hfo2, hso2⟩ := hfin rfl
      have OO : OwnI w.heap.size 89 9 (w5.alloc (.cells #[.int .i64 ei, .int .i64 et, .int .i64 (ex : Int), .int .i64 ky, .int .i64 ok, .int .i64 oa, .int .i64 ob, .int .i64 oc, .int .i64 od] 89)) (.slice a0 n0 c0) (flEntry l) := OwnI.ext1 Ol5 ((Ext.refl _).alloc _)
      go_upto_region 12 with (first | (at_builtin; go_loud (refine wp_appendU rfl _ _ 27 rfl 89 i0 _ 9 72 Try.underlying27 hi hy0 hy1 hy2 rfl (by decide) w.heap.size _ _ rfl OO _ [ei, et, (ex : Int), ky, ok, oa, ob, oc, od] rfl (Sl.oneAt _ #[.int .i64 ei, .int .i64 et, .int .i64 (ex : Int), .int .i64 ky, .int .i64 ok, .int .i64 oa, .int .i64 ob, .int .i64 oc, .int .i64 od] _ 9 _ (by first | rfl | simp) rfl) 1000 (by simp only [length_flEntry, List.length_cons, List.length_nil]; omega) (by omega) (by omega) (by simp only [World.size_alloc]; omega) ?_; rotate_right; intro vv w6 On h3)))
      obtain ⟨a4, n4, c4, rfl⟩ := On.shape
      have Ol6 : OwnI w.heap.size 89 9 w6 (.slice a4 n4 c4) (flEntry (l ++ [DEntry.mk ei et (ex : Int) ky ⟨ok, oa, ob, oc, od⟩])) := by (have e9 : flEntry (l ++ [DEntry.mk ei et (ex : Int) ky ⟨ok, oa, ob, oc, od⟩]) = flEntry l ++ [ei, et, (ex : Int), ky, ok, oa, ob, oc, od] := (by simp [flEntry, DEntry.ints])); rw [e9]; exact On
      have hz6 := h3.size; (try simp only [World.size_alloc] at hz6)
      have E6 : Upd w w6 [g] := Upd.app (by exact updT) OO (.inr (by omega)) h3
      have hc6 : Die B w6 g := Die.app (by exact dieT) OO (by omega) h3
      have KS6 : Blk w6 w1.heap.size 45 #[.int .i64 s'.Index, .int .i64 s'.Time, .slice b2 m2 c2, .slice b3 m3 c3, .int .i64 s'.Lease.Holder, .int .i64 s'.Lease.Epoch, .int .i64 s'.Lease.Until] := Blk.app (Blk.cast (by exact blkT) (by first | rfl | simp)) OO (by decide) h3
      have KN6 : Blk w6 nn 45 #[.int .i64 s2.Index, .int .i64 s2.Time, .slice d2 q2 r2, .slice d3 q3 r3, .int .i64 s2.Lease.Holder, .int .i64 s2.Lease.Epoch, .int .i64 s2.Lease.Until] := Blk.app (Blk.cast (by exact blkT) (by first | rfl | simp)) OO (by decide) h3
      have Op6 : OwnI w.heap.size 182 2 w6 (.slice b2 m2 c2) (flPair s'.Pairs) := OwnI.app (by exact ownT) OO (by decide) h3
      have Oj6 : OwnI w.heap.size 142 5 w6 (.slice b3 m3 c3) (flJob s'.Jobs) := OwnI.app (by exact ownT) OO (by decide) h3
      have Oq6 : OwnI w.heap.size 2 1 w6 (.slice (some ⟨w.heap.size + 1, 0, none⟩) 6 6) ks2 := OwnI.app (by exact ownT) OO (by decide) h3
      have Ox6 : OwnI w.heap.size 182 2 w6 (.slice d2 q2 r2) (flPair s2.Pairs) := OwnI.app (by exact ownT) OO (by decide) h3
      have Oy6 : OwnI w.heap.size 142 5 w6 (.slice d3 q3 r3) (flJob s2.Jobs) := OwnI.app (by exact ownT) OO (by decide) h3
      clear OO h3 On
      clear CS5 FS5 LS5 CE5 FE5 LE5 CN5 FN5 LN5
      have CS6 := KS6.cell; have FS6 := KS6.frozen; have LS6 := KS6.lt
      have CN6 := KN6.cell; have FN6 := KN6.frozen; have LN6 := KN6.lt
      go_wp2_with fail
      go_roundw
      case rel => exact ⟨k - 1, l ++ [⟨ei, et, (ex : Int), ky, ⟨ok, oa, ob, oc, od⟩⟩], ks2, s2, d2, q2, r2, d3, q3, r3, by omega, by (try simp only [Value.int.injEq, true_and]); first | omega | (congr 1; omega), by simp; omega, hks2, hfo2, hso2, by exact updT, by exact dieT, (by first | (with_reducible exact Ol6) | (refine OwnI.drawn Ol6 ?_ (by omega); (exact updT); done) | (refine OwnI.updX Ol6 KN6 (by decide) ?_; (exact updT); done) | (refine OwnI.updX Ol6 KS6 (by decide) ?_; (exact updT); done) | (refine OwnI.updX2 Ol6 KN6 KS6 (by decide) (by decide) ?_; (exact upd2T); done)), (by first | (with_reducible exact Oq6) | (refine OwnI.drawn Oq6 ?_ (by omega); (exact updT); done) | (refine OwnI.updX Oq6 KN6 (by decide) ?_; (exact updT); done) | (refine OwnI.updX Oq6 KS6 (by decide) ?_; (exact updT); done) | (refine OwnI.updX2 Oq6 KN6 KS6 (by decide) (by decide) ?_; (exact upd2T); done)), Blk.cast (by exact blkT) (by first | rfl | simp), (by first | (with_reducible exact Ox6) | (refine OwnI.drawn Ox6 ?_ (by omega); (exact updT); done) | (refine OwnI.updX Ox6 KN6 (by decide) ?_; (exact updT); done) | (refine OwnI.updX Ox6 KS6 (by decide) ?_; (exact updT); done) | (refine OwnI.updX2 Ox6 KN6 KS6 (by decide) (by decide) ?_; (exact upd2T); done)), (by first | (with_reducible exact Oy6) | (refine OwnI.drawn Oy6 ?_ (by omega); (exact updT); done) | (refine OwnI.updX Oy6 KN6 (by decide) ?_; (exact updT); done) | (refine OwnI.updX Oy6 KS6 (by decide) ?_; (exact updT); done) | (refine OwnI.updX2 Oy6 KN6 KS6 (by decide) (by decide) ?_; (exact upd2T); done))⟩
      case measure => simp [intOf]; omega
     ·
      skip
      go_wp2_with fail
      go_roundw
      case rel => exact ⟨k - 1, l, ks2, s', b2, m2, c2, b3, m3, c3, by omega, by (try simp only [Value.int.injEq, true_and]); first | omega | (congr 1; omega), by omega, hks2, hfo, hso, by exact updT, by exact dieT, (by first | (with_reducible exact Ol5) | (refine OwnI.drawn Ol5 ?_ (by omega); (exact updT); done) | (refine OwnI.updX Ol5 KN5 (by decide) ?_; (exact updT); done) | (refine OwnI.updX Ol5 KS5 (by decide) ?_; (exact updT); done) | (refine OwnI.updX2 Ol5 KN5 KS5 (by decide) (by decide) ?_; (exact upd2T); done)), (by first | (with_reducible exact Oq5) | (refine OwnI.drawn Oq5 ?_ (by omega); (exact updT); done) | (refine OwnI.updX Oq5 KN5 (by decide) ?_; (exact updT); done) | (refine OwnI.updX Oq5 KS5 (by decide) ?_; (exact updT); done) | (refine OwnI.updX2 Oq5 KN5 KS5 (by decide) (by decide) ?_; (exact upd2T); done)), Blk.cast (by exact blkT) (by first | rfl | simp), (by first | (with_reducible exact Op5) | (refine OwnI.drawn Op5 ?_ (by omega); (exact updT); done) | (refine OwnI.updX Op5 KN5 (by decide) ?_; (exact updT); done) | (refine OwnI.updX Op5 KS5 (by decide) ?_; (exact updT); done) | (refine OwnI.updX2 Op5 KN5 KS5 (by decide) (by decide) ?_; (exact upd2T); done)), (by first | (with_reducible exact Oj5) | (refine OwnI.drawn Oj5 ?_ (by omega); (exact updT); done) | (refine OwnI.updX Oj5 KN5 (by decide) ?_; (exact updT); done) | (refine OwnI.updX Oj5 KS5 (by decide) ?_; (exact updT); done) | (refine OwnI.updX2 Oj5 KN5 KS5 (by decide) (by decide) ?_; (exact upd2T); done))⟩
      case measure => simp [intOf]; omega
  ·
   skip
   obtain rfl : k = 0 := by omega
   go_wp2_with fail
   go_ret
   exact ⟨_, rfl, by exact updT, by exact dieT, l, s', Ol2, by omega, hfo, hso⟩
set_option maxHeartbeats 4000000 in
set_option maxRecDepth 100000 in
theorem w6State_c {w : World} {v : Value} {l : List DEntry} (h : Ints 9 w v (flEntry l)) : Calls Try.prog 13 #[v] w (Ret w fun r w' => IsState w.heap.size w' r (fldD (⟨0, 0, [], [], ⟨0, 0, 0⟩⟩ : DState) l)) := by
 go_enter Try.func13, Try.ntmps13
 go_wp2_with fail
 refine (sNewState_c _).mono ?_
 rintro e w1 ⟨rfl, hx1⟩
 have KR1 : Blk w1 w.heap.size 45 #[.int .i64 0, .int .i64 0, .slice none 0 0, .slice none 0 0, .int .i64 0, .int .i64 0, .int .i64 0] := Blk.ext (by exact blkT) hx1
 have E1 : Ext w w1 := Ext.trans (by exact extT) hx1
 have hz1 := hx1.size; (try simp only [World.size_alloc] at hz1)
 clear hx1
 go_wp2_with fail
 refine (sFolded_k (s := (⟨0, 0, [], [], ⟨0, 0, 0⟩⟩ : DState)) (l := l) ⟨_, _, rfl, Ints.nil 2 _, Ints.nil 5 _⟩ (h.ext E1)).mono ?_
 rintro e w2 ⟨_, rfl, hx2, x, rfl, gx⟩
 obtain ⟨D, hD⟩ : ∃ D, D = fldD (⟨0, 0, [], [], ⟨0, 0, 0⟩⟩ : DState) l := ⟨_, rfl⟩
 rw [← hD] at gx
 obtain ⟨t2, t3, rfl, h2, h3⟩ := gx
 obtain ⟨a2, n2, k2, rfl⟩ := h2.shape
 obtain ⟨a3, n3, k3, rfl⟩ := h3.shape
 have KR2 := KR1.ext hx2
 have E2 : Ext w w2 := E1.trans hx2
 have hz2 := hx2.size
 have CR2 := KR2.cell; have FR2 := KR2.frozen; have LR2 := KR2.lt
 clear hx2 KR1
 go_wp2_with fail
 refine bodyPost_ret (by simp [results, Try.results13, go_sem, CR2, FR2, LR2]; try rfl) rfl ?_
 exact ⟨_, rfl, by exact extT, by rw [← hD]; exact ⟨_, _, rfl, (OwnI.updX2 h2 KR2 KR2 (by decide) (by decide) (by exact upd2T)).mono (by omega), (OwnI.updX2 h3 KR2 KR2 (by decide) (by decide) (by exact upd2T)).mono (by omega)⟩⟩

end Go.Proofs.Ythihnangjghloaa

-- The dice cast; lists of entries and their states.
set_option linter.unusedSimpArgs false
set_option linter.unusedVariables false
namespace Go.Proofs.Ythihnangjghloaa
open Go.RowKit Go.G8

end Go.Proofs.Ythihnangjghloaa
namespace Go.G8
open Go.RowKit
open Go.Proofs.Ythihnangjghloaa
theorem Upd.toExt {w w' : World} {g : Nat} (h : Upd w w' [g]) (hg : w.heap.size ≤ g) : Ext w w' := h.below (by simp; omega) (Nat.le_refl _)
theorem flEntry_take (l : List DEntry) (k : Nat) : flEntry (l.take k) = (flEntry l).take (k * 9) := by
 induction l generalizing k with
 | nil => simp [flEntry]
 | cons e t ih =>
  cases k with
  | zero => simp [flEntry]
  | succ k =>
   have e1 : flEntry (e :: t) = e.ints ++ flEntry t := by simp [flEntry]
   have e2 : flEntry (e :: t.take k) = e.ints ++ flEntry (t.take k) := by simp [flEntry]
   have h9 : e.ints.length = 9 := rfl
   have e3 : (k + 1) * 9 = e.ints.length + k * 9 := by rw [h9]; omega
   rw [List.take_succ_cons, e2, e1, ih, e3, List.take_length_add_append]
theorem fld_take {l : List DEntry} {m : DState} (h : foldS (⟨0, 0, [], [], ⟨0, 0, 0⟩⟩ : DState) l = (m, true)) (hl : l.length ≤ 2000) {k : Nat} (hk : k ≤ l.length) : stateOk (fldD (⟨0, 0, [], [], ⟨0, 0, 0⟩⟩ : DState) (l.take k)) = true ∧ (fldD (⟨0, 0, [], [], ⟨0, 0, 0⟩⟩ : DState) (l.take k)).Index = k := by
 obtain ⟨m', h'⟩ := foldS_take h k
 have hlen : (l.take k).length = k := by simp; omega
 have e : fldD (⟨0, 0, [], [], ⟨0, 0, 0⟩⟩ : DState) (l.take k) = m' := (fld_yes z0_ok (by omega) h').2
 rw [e]
 have h1 := foldS_ok (l.take k) (⟨0, 0, [], [], ⟨0, 0, 0⟩⟩ : DState) z0_ok
 rw [h'] at h1
 have h2 := foldS_index _ h'
 refine ⟨h1, ?_⟩
 rw [h2, hlen]; simp
end Go.G8
namespace Go.Proofs.Ythihnangjghloaa
open Go.RowKit Go.G8
theorem IsDisk.drawn {B : Nat} {w w' : World} {v : Value} {d : DDisk} {g : Nat} (h : IsDisk B w v d) (x : Upd w w' [g]) (hg : g < B) : IsDisk B w' v d := by
 obtain ⟨F, hO⟩ := h.ow
 have := hO.upd x (fun k hk hm => by have := hO.low k hk; simp at hm; omega)
 obtain ⟨t0, t1, s0, s1, e, h0, h1, hd, _⟩ := this
 exact ⟨t0, t1, s0, s1, e, h0, h1, hd⟩
set_option maxHeartbeats 4000000 in
set_option maxRecDepth 100000 in
theorem roll_c {w : World} {v : Value} (h : Bytes w v) (seed : Int) : Calls Try.prog 8 #[v, .int .u64 seed] w (Ret w fun r w' => ∃ g : Nat, r = .pointer (some ⟨g, 0, none⟩) ∧ Die w.heap.size w' g) := by
 obtain ⟨bs, h, hb⟩ := h
 have HB := Lib.hid hb
 clear hb
 obtain ⟨a, n, k, rfl, hl, hnk, hkm, hc⟩ := h.open_
 clear h
 have HC := Lib.hid hc
 clear hc
 have hl2 : bs.length = n := by simpa using hl
 have HL := Lib.hid hl2
 clear hl hl2
 go_enter Try.func8, Try.ntmps8
 go_wp2_with fail
 go_loopw [6] (fun ii wr => ∃ (x : Int) (i : Nat), ii = .int .i64 i ∧ i ≤ n ∧ Ext w wr ∧ Blk wr w.heap.size 85 #[.slice a n k, .int .i64 0, .int .u64 x]) (fun ii _ => n - (intOf ii).toNat)
 case atStart => exact ⟨_, 0, rfl, Nat.zero_le _, by exact extT, Blk.new _ _ _⟩
 case round =>
  obtain ⟨x, i, rfl, hi, hE, hK⟩ := hrel
  have CK := hK.cell; have FK := hK.frozen; have LK := hK.lt
  by_cases hlt : i < n
  ·
   obtain ⟨b, off, rfl, hbl, hcl⟩ := HC.out i hlt
   have hy := List.getElem?_eq_getElem (l := bs) (i := i) (by rw [HL.out]; exact hlt)
   have hce := hcl 0 _ (by simp only [Nat.mul_one, Nat.add_zero, List.getElem?_map, hy]; rfl)
   simp only [Nat.mul_one, Nat.add_zero] at hce
   obtain ⟨y, hyy⟩ : ∃ y : Int, w.cell? ⟨b, off + i, none⟩ = some (.int .u8 y) := ⟨_, hce⟩
   clear hce hcl hy
   have hlt2 : (i : Int) < (n : Int) := by omega
   unfold maxLen at hkm
   go_wp2_with fail
   refine wp_region_held_drew (S := fun w' => Ext w w') (by kernel_rfl) (by (try dsimp only); exact extT) (fun hHeld => ?_)
   refine wpAnyH_take (i := 0) (v := ?_) rfl (by kernel_rfl) (by kernel_rfl) (by kernel_rfl) (fun _ _ _ h => h) (Or.inl ⟨by rfl, ?_⟩) (by assumption) ?_
   rotate_left
   focus (intro w hSw; (try dsimp only at hSw); go_simp <;> with_reducible rfl)
   (try simp only [redA, Act.put])
   refine wpAnyH_take (i := 1) (v := ?_) rfl (by kernel_rfl) (by kernel_rfl) (by kernel_rfl) (fun _ _ _ h => h) (Or.inl ⟨by rfl, ?_⟩) (by assumption) ?_
   rotate_left
   focus (intro w hSw; (try dsimp only at hSw); go_simp <;> with_reducible rfl)
   (try simp only [redA, Act.put])
   refine wpAnyH_take (i := 2) (v := ?_) rfl (by kernel_rfl) (by kernel_rfl) (by kernel_rfl) (fun _ _ _ h => h) (Or.inl ⟨by rfl, ?_⟩) (by assumption) ?_
   rotate_left
   focus (intro w hSw; (try dsimp only at hSw); go_simp <;> with_reducible rfl)
   (try simp only [redA, Act.put])
   refine wpAnyH_take (i := 3) (v := ?_) rfl (by kernel_rfl) (by kernel_rfl) (by kernel_rfl) (fun _ _ _ h => h) (Or.inl ⟨by rfl, ?_⟩) (by assumption) ?_
   rotate_left
   focus (intro w hSw; (try dsimp only at hSw); go_simp <;> with_reducible rfl)
   (try simp only [redA, Act.put])
   refine wpAnyH_take (i := 6) (v := ?_) rfl (by kernel_rfl) (by kernel_rfl) (by kernel_rfl) (fun _ _ _ h => h) (Or.inl ⟨by rfl, ?_⟩) (by assumption) ?_
   rotate_left
   focus (intro w hSw; (try dsimp only at hSw); go_simp <;> with_reducible rfl)
   (try simp only [redA, Act.put])
   refine wpAnyH_take (i := 7) (v := ?_) rfl (by kernel_rfl) (by kernel_rfl) (by kernel_rfl) (fun _ _ _ h => h) (Or.inl ⟨by rfl, ?_⟩) (by assumption) ?_
   rotate_left
   focus (intro w hSw; (try dsimp only at hSw); go_simp <;> with_reducible rfl)
   (try simp only [redA, Act.put])
   refine wpAnyH_take (i := 8) (v := ?_) rfl (by kernel_rfl) (by kernel_rfl) (by kernel_rfl) (fun _ _ _ h => h) (Or.inl ⟨by rfl, ?_⟩) (by assumption) ?_
   rotate_left
   focus (intro w hSw; (try dsimp only at hSw); go_simp <;> with_reducible rfl)
   (try simp only [redA, Act.put])
   refine wpAnyH_take (i := 9) (v := ?_) rfl (by kernel_rfl) (by kernel_rfl) (by kernel_rfl) (fun _ _ _ h => h) (Or.inl ⟨by rfl, ?_⟩) (by assumption) ?_
   rotate_left
   focus (intro w hSw; (try dsimp only at hSw); have hq := (hSw.cells.1 _ _ hbl).trans hyy; go_simp <;> with_reducible rfl)
   (try simp only [redA, Act.put])
   refine wpAnyH_take (i := 10) (v := ?_) rfl (by kernel_rfl) (by kernel_rfl) (by kernel_rfl) (fun _ _ _ h => h) (Or.inl ⟨by rfl, ?_⟩) (by assumption) ?_
   rotate_left
   focus (intro w hSw; (try dsimp only at hSw); go_simp <;> with_reducible rfl)
   (try simp only [redA, Act.put])
   refine wpAnyH_ready (rs := [4]) (by kernel_rfl) (by simp) ?_
   refine AllReadyH.cons rfl (fun Kz hKz => ?_) AllReadyH.nil
   (try simp only [redA])
   go_simp
   refine hKz.out _ _ (by (try dsimp only); exact extT) (fun hHeld => ?_)
   clear hKz Kz
   (try simp only [redA, Act.put])
   refine wpAnyH_take (i := 5) (v := ?_) rfl (by kernel_rfl) (by kernel_rfl) (by kernel_rfl) (fun _ _ _ h => h) (Or.inl ⟨by rfl, ?_⟩) (by assumption) ?_
   rotate_left
   focus (intro w hSw; (try dsimp only at hSw); go_simp <;> with_reducible rfl)
   (try simp only [redA, Act.put])
   refine wpAnyH_take (i := 11) (v := ?_) rfl (by kernel_rfl) (by kernel_rfl) (by kernel_rfl) (fun _ _ _ h => h) (Or.inl ⟨by rfl, ?_⟩) (by assumption) ?_
   rotate_left
   focus (intro w hSw; (try dsimp only at hSw); go_simp <;> with_reducible rfl)
   (try simp only [redA, Act.put])
   refine wpAnyH_take (i := 12) (v := ?_) rfl (by kernel_rfl) (by kernel_rfl) (by kernel_rfl) (fun _ _ _ h => h) (Or.inl ⟨by rfl, ?_⟩) (by assumption) ?_
   rotate_left
   focus (intro w hSw; (try dsimp only at hSw); go_simp <;> with_reducible rfl)
   (try simp only [redA, Act.put])
   refine wpAnyH_take (i := 13) (v := ?_) rfl (by kernel_rfl) (by kernel_rfl) (by kernel_rfl) (fun _ _ _ h => h) (Or.inl ⟨by rfl, ?_⟩) (by assumption) ?_
   rotate_left
   focus (intro w hSw; (try dsimp only at hSw); go_simp <;> with_reducible rfl)
   (try simp only [redA, Act.put])
   refine wpAnyH_take (i := 14) (v := ?_) rfl (by kernel_rfl) (by kernel_rfl) (by kernel_rfl) (fun _ _ _ h => h) (Or.inl ⟨by rfl, ?_⟩) (by assumption) ?_
   rotate_left
   focus (intro w hSw; (try dsimp only at hSw); go_simp <;> with_reducible rfl)
   (try simp only [redA, Act.put])
   refine wpAnyH_ready (rs := [15]) (by kernel_rfl) (by simp) ?_
   refine AllReadyH.cons rfl (fun Kz hKz => ?_) AllReadyH.nil
   (try simp only [redA])
   go_simp
   refine hKz.out _ _ (by (try dsimp only); exact extT) (fun hHeld => ?_)
   clear hKz Kz
   (try simp only [redA, Act.put])
   refine wpAnyH_done (by kernel_rfl) ?_ _
   go_wp2_with fail
   go_roundw
   case rel => exact ⟨_, i + 1, by go_num, by omega, by exact extT, Blk.cast (by exact blkT) setsT⟩
   case measure => simp [intOf]; omega
  ·
   have hin : i = n := by omega
   have hlt2 : ¬ (i : Int) < (n : Int) := by omega
   go_wp2_with fail
   go_ret
   refine ⟨_, rfl, by exact extT, _, rfl, a, n, k, 0, x, hK, Nat.le_refl _, Nat.zero_le _, hnk, hkm, fun j hj => ?_⟩
   obtain ⟨b, off, ha, hbl, hcl⟩ := HC.out j hj
   have hy := List.getElem?_eq_getElem (l := bs) (i := j) (by rw [HL.out]; exact hj)
   have hce := hcl 0 _ (by simp only [Nat.mul_one, Nat.add_zero, List.getElem?_map, hy]; rfl)
   simp only [Nat.mul_one, Nat.add_zero] at hce
   exact ⟨b, off, _, ha, hbl, (HB.out _ (List.getElem_mem _)).1, (HB.out _ (List.getElem_mem _)).2, (hE.cells.1 _ _ hbl).trans hce⟩

end Go.Proofs.Ythihnangjghloaa
