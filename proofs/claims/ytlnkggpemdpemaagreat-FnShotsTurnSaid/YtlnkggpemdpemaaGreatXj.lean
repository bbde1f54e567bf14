/- Contracts and plain laws: W7 W8. -/
import Derived.Test.YtlnkggpemdpemaaGreatYa
import Derived.Deep.DeepCutAuto
import Derived.Deep.CutBlock
import Derived.Test.YtlnkggpemdpemaaGreatXi
import Derived.Test.YtlnkggpemdpemaaGreatYp
import Derived.Test.YtlnkggpemdpemaaGreatYq
import Derived.Test.YtlnkggpemdpemaaGreatXx
import Derived.Test.YtlnkggpemdpemaaGreatYu
set_option linter.unusedSimpArgs false
set_option linter.unusedVariables false
set_option maxHeartbeats 8000000
set_option maxRecDepth 100000
namespace Go.G8
open Go.RowKit
open Go.Proofs.YtlnkggpemdpemaaGreat
theorem z0_ok : stateOk (⟨0, 0, [], [], ⟨0, 0, 0⟩⟩ : DState) = true := by
 simp [stateOk, pairsOk, jobsOk, leaseOk, leaseZ, timeOk, inb, PairsOk, JobsOk]
theorem foldS_index : ∀ (l : List DEntry) {s m : DState}, foldS s l = (m, true) → m.Index = s.Index + l.length
 | [], s, m, h => by simp [foldS] at h; rw [← h]; simp
 | e :: t, s, m, h => by
  unfold foldS at h
  split at h
  ·
   rename_i hn
   have h1 := foldS_index t h
   obtain ⟨_, h2, _⟩ := nextIn_parts hn
   have h3 := (stepS_at (s := s) (e := e)).1
   simp only [List.length_cons]; omega
  cases h
theorem foldS_take {l : List DEntry} {s m : DState} (h : foldS s l = (m, true)) (k : Nat) : ∃ m', foldS s (l.take k) = (m', true) := by
 rw [← List.take_append_drop k l, foldS_app] at h
 cases hk : foldS s (l.take k) with
 | mk a b =>
  cases b
  ·
   rw [hk] at h; simp at h
  exact ⟨a, rfl⟩
theorem foldS_snoc {l : List DEntry} {s m : DState} {e : DEntry} (h : foldS s l = (m, true)) (hn : nextIn m e = true) : foldS s (l ++ [e]) = (stepS m e, true) := by
 rw [foldS_app, h]; simp [foldS, hn]
theorem OwnI.setK {B : Nat} {e : TypeId} {w : World} {X n c : Nat} {l : List Int} (h : OwnI B e 1 w (.slice (some ⟨X, 0, none⟩) n c) l) {i : Nat} (hl : i < l.length) (u : Int) : OwnI B e 1 (w.setCell ⟨X, i, none⟩ (.int .i64 u)) (.slice (some ⟨X, 0, none⟩) n c) (l.set i u) := by
 obtain ⟨len, h0, h | ⟨g, cap, cur, hv, hb, hgg, h1, h2, h3, h4⟩⟩ := h
 ·
  cases h.1
 injection hv with e1 e2 e3
 injection e1 with e1; injection e1 with e1
 subst e1; subst e2; subst e3
 refine ⟨_, by simpa using h0, .inr ⟨_, _, cur.setIfInBounds i (.int .i64 u), rfl, hb, ?_, h1, h2, by simpa using h3, ?_⟩⟩
 ·
  exact Blk.set_ hgg i _
 have hlen : l.length = n := by simpa using h0
 rw [Array.toList_setIfInBounds, List.map_set, ← h4, List.take_set]
theorem OwnI.makeZ (w : World) (e : TypeId) (n : Nat) (hn : n ≤ 1000) : OwnI w.heap.size e 1 (w.alloc (.cells (madeCells #[.int .i64 0] n) e)) (.slice (some ⟨w.heap.size, 0, none⟩) n n) (List.replicate n 0) :=
 Own.of_blk (cap := n) (Blk.new _ _ _) (Nat.le_refl _) (by simp [size_madeCells]) (by simp) (Nat.le_refl _) (by unfold maxLen; omega) (by
  intro j hj
  have hj' : j < n := by omega
  simp [madeCells, hj', Nat.mod_one])
theorem OwnI.farN {B B' : Nat} {e : TypeId} {n : Nat} {w0 w : World} {v : Value} {xs ys : List Int} (h0 : OwnI B' e n w0 v ys) (h : OwnI B e n w v xs) {X i : Nat} {u : Value} (hX : w0.heap.size ≤ X) : OwnI B e n (w.setCell ⟨X, i, none⟩ u) v xs :=
 Own.upd h ((Upd.refl w [X]).setOne i u) (fun k hk hm => by have := (Own.lt h0 hk).2; simp at hm; omega)
theorem OwnI.farK {B B' : Nat} {e e1 : TypeId} {n : Nat} {w : World} {v : Value} {xs : List Int} {X m c : Nat} {ks : List Int} (h : OwnI B e n w v xs) (hq : OwnI B' e1 1 w (.slice (some ⟨X, 0, none⟩) m c) ks) (ht : e1 ≠ e) {i : Nat} {u : Value} : OwnI B e n (w.setCell ⟨X, i, none⟩ u) v xs := by
 obtain ⟨cur, hb⟩ := Own.typed' hq (X := X) rfl
 exact OwnI.boxD h hb ht i u
theorem OwnI.cellK {B : Nat} {e : TypeId} {w : World} {X n c : Nat} {l : List Int} (h : OwnI B e 1 w (.slice (some ⟨X, 0, none⟩) n c) l) {i : Nat} {x : Int} (hx : l[i]? = some x) : w.cell? ⟨X, i, none⟩ = some (.int .i64 x) := by
 obtain ⟨len, h0, h | ⟨g, cap, cur, hv, hb, hgg, h1, h2, h3, h4⟩⟩ := h
 ·
  cases h.1
 injection hv with e1 e2 e3
 injection e1 with e1; injection e1 with e1
 subst e1; subst e2; subst e3
 rw [Blk.cell hgg]
 have hm : (l.map (Value.int .i64))[i]? = some (.int .i64 x) := by rw [List.getElem?_map, hx]; rfl
 rw [← h4, List.getElem?_take] at hm
 split at hm
 ·
  rwa [Array.getElem?_toList] at hm
 cases hm
end Go.G8
namespace Go.Proofs.YtlnkggpemdpemaaGreat
open Go.RowKit Go.G8
theorem w6List_c {B : Nat} {w : World} {g : Nat} (h : Die B w g) (N : Nat) (hN : N ≤ 64) : Calls Tryz.prog 7 #[.pointer (some ⟨g, 0, none⟩), .int .i64 N] w (Dd B w g fun v w' => ∃ (l : List DEntry) (m : DState), OwnI w.heap.size 54 9 w' v (flEntry l) ∧ l.length ≤ N ∧ foldS (⟨0, 0, [], [], ⟨0, 0, 0⟩⟩ : DState) l = (m, true) ∧ stateOk m = true) := by
 obtain ⟨i0, hi, hy0, hy1, hy2⟩ := info_parts info_Entry
 obtain ⟨j0, hj, hj0, hj1, hj2⟩ := info_parts info_Int64
 have hc0 := h; have E0 : Upd w w [g] := Upd.refl _ _
 have hg0 := h.lt
 go_enter Tryz.func7, Tryz.ntmps7
 have hmk := fun W => run_make (P := Tryz.prog) W 49 2 j0 _ Tryz.underlying49 hj hj0 .i64 .i64 6 6 oM oM (by rw [hj2]; omega) oM
 have Ol0 : OwnI w.heap.size 54 9 (w.alloc (.cells #[] 54)) (.slice (some ⟨w.heap.size, 0, none⟩) 0 0) [] := OwnI.lit0 w _ _
 have Oq0 : OwnI w.heap.size 2 1 ((w.alloc (.cells #[] 54)).alloc (.cells (madeCells #[.int .i64 0] 6) 2)) (.slice (some ⟨w.heap.size + 1, 0, none⟩) 6 6) (List.replicate 6 0) := by
  have := OwnI.makeZ (w.alloc (.cells #[] 54)) 2 6 oM
  simp only [World.size_alloc] at this
  exact this.mono oM
 go_wp2_with fail
 refine (sNewState_c _).mono ?_
 rintro e w1 ⟨rfl, hx1⟩
 have hz1 := hx1.size; (try simp only [szA] at hz1)
 have E1 : Upd w w1 [g] := Upd.ext (by exact updT) hx1
 have hc1 : Die B w1 g := Die.ext (by exact dieT) hx1
 have Ol1 : OwnI w.heap.size 54 9 w1 (.slice (some ⟨w.heap.size, 0, none⟩) 0 0) [] := OwnI.ext1 (by exact ownT) hx1
 have Oq1 : OwnI w.heap.size 2 1 w1 (.slice (some ⟨w.heap.size + 1, 0, none⟩) 6 6) (List.replicate 6 0) := OwnI.ext1 (by exact ownT) hx1
 clear hx1
 clear hmk
 go_wp2_with fail
 go_loopw [1, 5] (fun kk out wr => ∃ (k : Nat) (l : List DEntry) (ks : List Int) (s' : DState) (b2 : Option Addr) (m2 c2 : Nat) (b3 : Option Addr) (m3 c3 : Nat), k ≤ N ∧ kk = .int .i64 k ∧ l.length + k ≤ N ∧ ks.length = 6 ∧ foldS (⟨0, 0, [], [], ⟨0, 0, 0⟩⟩ : DState) l = (s', true) ∧ stateOk s' = true ∧ Upd w wr [g] ∧ Die B wr g ∧ OwnI w.heap.size 54 9 wr out (flEntry l) ∧ OwnI w.heap.size 2 1 wr (.slice (some ⟨w.heap.size + 1, 0, none⟩) 6 6) ks ∧ Blk wr w1.heap.size 39 #[.int .i64 s'.Index, .int .i64 s'.Time, .slice b2 m2 c2, .slice b3 m3 c3, .int .i64 s'.Lease.Holder, .int .i64 s'.Lease.Epoch, .int .i64 s'.Lease.Until] ∧ OwnI w.heap.size 113 2 wr (.slice b2 m2 c2) (flPair s'.Pairs) ∧ OwnI w.heap.size 95 5 wr (.slice b3 m3 c3) (flJob s'.Jobs)) (fun kk _ _ => (intOf kk).toNat)
 case atStart => exact ⟨N, [], List.replicate 6 0, (⟨0, 0, [], [], ⟨0, 0, 0⟩⟩ : DState), none, 0, 0, none, 0, 0, Nat.le_refl _, rfl, by simp, by simp, by simp [foldS], z0_ok, by exact updT, by exact dieT, OwnI.ext1 Ol1 (by exact extT), OwnI.ext1 Oq1 (by exact extT), Blk.cast (by exact blkT) (by first | rfl | simp), OwnI.nil _ _ _ _, OwnI.nil _ _ _ _⟩
 case round =>
  obtain ⟨k, l, ks, s', b2, m2, c2, b3, m3, c3, hk, rfl, hl, hks, hfo, hso, E2, hc2, Ol2, Oq2, KS2, Op2, Oj2⟩ := hrel
  clear Ol0 Oq0
  obtain ⟨a0, n0, c0, rfl⟩ := Ol2.shape
  obtain ⟨w2, hw⟩ : ∃ w2, w2 = wr := ⟨_, rfl⟩
  subst hw
  have hz2 := E2.size
  have LS2 := KS2.lt; have hS12 := KS2.lt
  have CS2 := KS2.cell; have FS2 := KS2.frozen
  by_cases hlt : 0 < k
  ·
   have hlt2 : (0 : Int) < (k : Int) := by omega
   have hw9 : IntKind.i64.wrap ((k : Int) - 1) = (k : Int) - 1 := by rw [IntKind.wrap_i64]; omega
   go_wp2_with fail
   refine (w6Next_c (show Die B _ g from by exact dieT) (M := w.heap.size) oM (s := s') ⟨_, _, rfl, (by exact ownT), (by exact ownT)⟩ hso).mono ?_
   rintro e w3 ⟨_, rfl, X3, hc3, ei, et, ec, es, ok, oa, ob, oc, od, rfl, hec0, hec1⟩
   have hz3 := X3.sz
   have E3 : Upd w w3 [g] := X3.up
   have KS3 : Blk w3 w1.heap.size 39 #[.int .i64 s'.Index, .int .i64 s'.Time, .slice b2 m2 c2, .slice b3 m3 c3, .int .i64 s'.Lease.Holder, .int .i64 s'.Lease.Epoch, .int .i64 s'.Lease.Until] := bU X3
   have Ol3 : OwnI w.heap.size 54 9 w3 (.slice a0 n0 c0) (flEntry l) := OwnI.drawn (ow_ex0n Ol2 KS2) X3 oM
   have Oq3 : OwnI w.heap.size 2 1 w3 (.slice (some ⟨w.heap.size + 1, 0, none⟩) 6 6) ks := OwnI.drawn (ow_ex0n Oq2 KS2) X3 oM
   have Op3 : OwnI w.heap.size 113 2 w3 (.slice b2 m2 c2) (flPair s'.Pairs) := OwnI.drawn (ow_ex0n Op2 KS2) X3 oM
   have Oj3 : OwnI w.heap.size 95 5 w3 (.slice b3 m3 c3) (flJob s'.Jobs) := OwnI.drawn (ow_ex0n Oj2 KS2) X3 oM
   clear X3
   clear CS2 FS2 LS2
   obtain ⟨CS3, FS3, LS3⟩ := KS3.cfl
   obtain ⟨kx, hkv⟩ : ∃ kx, ks[ec.toNat]? = some kx := ⟨_, List.getElem?_eq_getElem oM⟩
   obtain ⟨ex, hex⟩ : ∃ ex : Nat, ec = (ex : Int) := ⟨ec.toNat, by omega⟩
   subst hex
   simp only [Int.toNat_natCast] at hkv
   have hex6 : ex < 6 := by omega
   go_upto_region 7 with (fail)
   go_cut [] (fun wx => ∃ ks2 : List Int, ks2.length = 6 ∧ OwnI w.heap.size 2 1 wx (.slice (some ⟨w.heap.size + 1, 0, none⟩) 6 6) ks2 ∧ Upd w wx [g] ∧ Die B wx g ∧ Blk wx w1.heap.size 39 #[.int .i64 s'.Index, .int .i64 s'.Time, .slice b2 m2 c2, .slice b3 m3 c3, .int .i64 s'.Lease.Holder, .int .i64 s'.Lease.Epoch, .int .i64 s'.Lease.Until] ∧ Blk wx w3.heap.size 54 #[.int .i64 ei, .int .i64 et, .int .i64 (ex : Int), .int .i64 es, .int .i64 ok, .int .i64 oa, .int .i64 ob, .int .i64 oc, .int .i64 od] ∧ OwnI w.heap.size 54 9 wx (.slice a0 n0 c0) (flEntry l) ∧ OwnI w.heap.size 113 2 wx (.slice b2 m2 c2) (flPair s'.Pairs) ∧ OwnI w.heap.size 95 5 wx (.slice b3 m3 c3) (flJob s'.Jobs))
   case first =>
    have hk93 := OwnI.cellK Oq3 hkv
    obtain ⟨curq3, KXq3⟩ := Own.typed' Oq3 (X := w.heap.size + 1) rfl
    have FXq3 := KXq3.frozen; have LXq3 := KXq3.lt
    refine wp_region_held_drew (S := fun w' => Upd w w' [g] ∧ Die B w' g ∧ Blk w' w3.heap.size 54 #[.int .i64 ei, .int .i64 et, .int .i64 (ex : Int), .int .i64 es, .int .i64 ok, .int .i64 oa, .int .i64 ob, .int .i64 oc, .int .i64 od]) (by kernel_rfl) (by (try dsimp only); exact ⟨(by exact updT), (by exact dieT), bC⟩) (fun hHeld => ?_)
    refine wt 0 ?_
    (try simp only [redA, Act.put])
    refine wt 1 ?_
    (try simp only [redA, Act.put])
    refine wtq 2 (fun _ h => h.2.2.cell) ?_
    (try simp only [redA, Act.put])
    refine wt 3 ?_
    (try simp only [redA, Act.put])
    refine wt 4 ?_
    (try simp only [redA, Act.put])
    refine wtq 5 (fun _ h => h.2.2.cell) ?_
    (try simp only [redA, Act.put])
    refine wt 6 ?_
    (try simp only [redA, Act.put])
    refine wt 9 ?_
    (try simp only [redA, Act.put])
    refine wr2 7 10 (fun Kz hKz => ?_) fun Kz hKz => ?_
    ·
     (try simp only [redA])
     go_simp
     refine hKz.out _ _ (by (try dsimp only); exact ⟨(by exact updT), (by exact dieT), bC⟩) (fun hHeld => ?_)
     clear hKz Kz
     (try simp only [redA, Act.put])
     refine wt 8 ?_
     (try simp only [redA, Act.put])
     refine wr1 10 fun Kz hKz => ?_
     (try simp only [redA])
     go_simp
     go_at_call 8
     refine (below_c (show Die B _ g from by exact dieT) 2 oM).mono ?_
     rintro e w4 ⟨_, rfl, X4, hc4, zz, rfl, pzz, qzz⟩
     have hz4 := X4.sz
     have E4 : Upd w w4 [g] := X4.up
     have KS4 := KS3.upv X4
     have KE4 : Blk w4 w3.heap.size 54 #[.int .i64 ei, .int .i64 et, .int .i64 (ex : Int), .int .i64 es, .int .i64 ok, .int .i64 oa, .int .i64 ob, .int .i64 oc, .int .i64 od] := bU X4
     have Ol4 := OwnI.drawn (ow_ex0n Ol3 KS3) X4 oM
     have Op4 := OwnI.drawn (ow_ex0n Op3 KS3) X4 oM
     have Oj4 := OwnI.drawn (ow_ex0n Oj3 KS3) X4 oM
     have Oq4 := OwnI.drawn (ow_ex0n Oq3 KS3) X4 oM
     clear X4
     clear CS3 FS3 LS3 hk93 FXq3 LXq3
     obtain ⟨CS4, FS4, LS4⟩ := KS4.cfl
     obtain ⟨CE4, FE4, LE4⟩ := KE4.cfl
     have hk94 := OwnI.cellK Oq4 hkv
     obtain ⟨curq4, KXq4⟩ := Own.typed' Oq4 (X := w.heap.size + 1) rfl
     have FXq4 := KXq4.frozen; have LXq4 := KXq4.lt
     refine hKz.out _ _ (by (try dsimp only); exact ⟨(by exact updT), (by exact dieT), bC⟩) (fun hHeld => ?_)
     clear hKz Kz
     (try simp only [redA, Act.put])
     refine wt 11 ?_
     (try simp only [redA, Act.put])
     refine wt 12 ?_
     (try simp only [redA, Act.put])
     refine wr1 13 fun Kz hKz => ?_
     (try simp only [redA])
     go_simp
     refine hKz.out _ _ (by (try dsimp only); exact ⟨(by exact updT), (by exact dieT), bC⟩) (fun hHeld => ?_)
     clear hKz Kz
     (try simp only [redA, Act.put])
     refine wpAnyH_done (by kernel_rfl) ?_ _
     go_wp2_with fail
     go_meet
     case rel => exact ⟨_, (by simp; omega), (OwnI.setK Oq4 oM _), (by exact updT), (by exact dieT), bC, bC, (OwnI.farK Ol4 Oq4 dC), (OwnI.farK Op4 Oq4 dC), (OwnI.farK Oj4 Oq4 dC)⟩
    (try simp only [redA])
    go_simp
    go_at_call 8
    refine (below_c (show Die B _ g from by exact dieT) 2 oM).mono ?_
    rintro e w4 ⟨_, rfl, X4, hc4, zz, rfl, pzz, qzz⟩
    have hz4 := X4.sz
    have E4 : Upd w w4 [g] := X4.up
    have KS4 := KS3.upv X4
    have KE4 : Blk w4 w3.heap.size 54 #[.int .i64 ei, .int .i64 et, .int .i64 (ex : Int), .int .i64 es, .int .i64 ok, .int .i64 oa, .int .i64 ob, .int .i64 oc, .int .i64 od] := bU X4
    have Ol4 := OwnI.drawn (ow_ex0n Ol3 KS3) X4 oM
    have Op4 := OwnI.drawn (ow_ex0n Op3 KS3) X4 oM
    have Oj4 := OwnI.drawn (ow_ex0n Oj3 KS3) X4 oM
    have Oq4 := OwnI.drawn (ow_ex0n Oq3 KS3) X4 oM
    clear X4
    clear CS3 FS3 LS3 hk93 FXq3 LXq3
    obtain ⟨CS4, FS4, LS4⟩ := KS4.cfl
    obtain ⟨CE4, FE4, LE4⟩ := KE4.cfl
    have hk94 := OwnI.cellK Oq4 hkv
    obtain ⟨curq4, KXq4⟩ := Own.typed' Oq4 (X := w.heap.size + 1) rfl
    have FXq4 := KXq4.frozen; have LXq4 := KXq4.lt
    refine hKz.out _ _ (by (try dsimp only); exact ⟨(by exact updT), (by exact dieT), bC⟩) (fun hHeld => ?_)
    clear hKz Kz
    (try simp only [redA, Act.put])
    refine wr1 7 fun Kz hKz => ?_
    (try simp only [redA])
    go_simp
    refine hKz.out _ _ (by (try dsimp only); exact ⟨(by exact updT), (by exact dieT), bC⟩) (fun hHeld => ?_)
    clear hKz Kz
    (try simp only [redA, Act.put])
    refine wt 8 ?_
    (try simp only [redA, Act.put])
    refine wt 11 ?_
    (try simp only [redA, Act.put])
    refine wt 12 ?_
    (try simp only [redA, Act.put])
    refine wr1 13 fun Kz hKz => ?_
    (try simp only [redA])
    go_simp
    refine hKz.out _ _ (by (try dsimp only); exact ⟨(by exact updT), (by exact dieT), bC⟩) (fun hHeld => ?_)
    clear hKz Kz
    (try simp only [redA, Act.put])
    refine wpAnyH_done (by kernel_rfl) ?_ _
    go_wp2_with fail
    go_meet
    case rel => exact ⟨_, (by simp; omega), (OwnI.setK Oq4 oM _), (by exact updT), (by exact dieT), bC, bC, (OwnI.farK Ol4 Oq4 dC), (OwnI.farK Op4 Oq4 dC), (OwnI.farK Oj4 Oq4 dC)⟩
   revert wc; intro w4 hcut
   obtain ⟨ks2, hks2, Oq4, E4, hc4, KS4, KE4, Ol4, Op4, Oj4⟩ := hcut
   have hz4 := E4.size
   clear CS3 FS3 LS3
   obtain ⟨CS4, FS4, LS4⟩ := KS4.cfl
   obtain ⟨CE4, FE4, LE4⟩ := KE4.cfl
   obtain ⟨ky, hkv2⟩ : ∃ ky, ks2[ex]? = some ky := ⟨_, List.getElem?_eq_getElem oM⟩
   have hk94 := OwnI.cellK Oq4 hkv2
   obtain ⟨curq4, KXq4⟩ := Own.typed' Oq4 (X := w.heap.size + 1) rfl
   have FXq4 := KXq4.frozen; have LXq4 := KXq4.lt
   go_upto_region 9 with (fail)
   go_cut [9, 10] (fun cx0 cx1 wx => ∃ nn : Nat, ∃ okb : Bool, ∃ s2 : DState, ∃ d2 : Option Addr, ∃ q2 : Nat, ∃ r2 : Nat, ∃ d3 : Option Addr, ∃ q3 : Nat, ∃ r3 : Nat, cx0 = .pointer (some ⟨nn, 0, none⟩) ∧ cx1 = .bool okb ∧ w4.heap.size ≤ nn ∧ (okb = true → foldS (⟨0, 0, [], [], ⟨0, 0, 0⟩⟩ : DState) (l ++ [⟨ei, et, (ex : Int), ky, ⟨ok, oa, ob, oc, od⟩⟩]) = (s2, true) ∧ stateOk s2 = true) ∧ Blk wx nn 39 #[.int .i64 s2.Index, .int .i64 s2.Time, .slice d2 q2 r2, .slice d3 q3 r3, .int .i64 s2.Lease.Holder, .int .i64 s2.Lease.Epoch, .int .i64 s2.Lease.Until] ∧ OwnI w.heap.size 113 2 wx (.slice d2 q2 r2) (flPair s2.Pairs) ∧ OwnI w.heap.size 95 5 wx (.slice d3 q3 r3) (flJob s2.Jobs) ∧ Upd w wx [g] ∧ Die B wx g ∧ Blk wx w1.heap.size 39 #[.int .i64 s'.Index, .int .i64 s'.Time, .slice b2 m2 c2, .slice b3 m3 c3, .int .i64 s'.Lease.Holder, .int .i64 s'.Lease.Epoch, .int .i64 s'.Lease.Until] ∧ Blk wx w3.heap.size 54 #[.int .i64 ei, .int .i64 et, .int .i64 (ex : Int), .int .i64 ky, .int .i64 ok, .int .i64 oa, .int .i64 ob, .int .i64 oc, .int .i64 od] ∧ OwnI w.heap.size 54 9 wx (.slice a0 n0 c0) (flEntry l) ∧ OwnI w.heap.size 113 2 wx (.slice b2 m2 c2) (flPair s'.Pairs) ∧ OwnI w.heap.size 95 5 wx (.slice b3 m3 c3) (flJob s'.Jobs) ∧ OwnI w.heap.size 2 1 wx (.slice (some ⟨w.heap.size + 1, 0, none⟩) 6 6) ks2)
   case first =>
    go_wp2_with fail
    refine (sApplied_k (s := s') (IsState.rd (B := w.heap.size) ⟨_, _, rfl, (by first | exact ownT | exact OwnI.updX Op4 KE4 dC (by exact updT)), (by first | exact ownT | exact OwnI.updX Oj4 KE4 dC (by exact updT))⟩) _ _ _ _ _ _ _ _ _).mono ?_
    rintro e w5 ⟨_, rfl, hx5, u, rfl, gu⟩
    have hz5 := hx5.size; (try simp only [szA] at hz5)
    have E5 : Upd w w5 [g] := Upd.ext (by exact updT) hx5
    have hc5 : Die B w5 g := Die.ext (by exact dieT) hx5
    have KS5 : Blk w5 w1.heap.size 39 #[.int .i64 s'.Index, .int .i64 s'.Time, .slice b2 m2 c2, .slice b3 m3 c3, .int .i64 s'.Lease.Holder, .int .i64 s'.Lease.Epoch, .int .i64 s'.Lease.Until] := Blk.ext bD hx5
    have KE5 : Blk w5 w3.heap.size 54 #[.int .i64 ei, .int .i64 et, .int .i64 (ex : Int), .int .i64 ky, .int .i64 ok, .int .i64 oa, .int .i64 ob, .int .i64 oc, .int .i64 od] := Blk.ext bD hx5
    have Ol5 : OwnI w.heap.size 54 9 w5 (.slice a0 n0 c0) (flEntry l) := OwnI.ext1 (OwnI.farN Ol3 Ol4 (Nat.le_refl _)) hx5
    have Op5 : OwnI w.heap.size 113 2 w5 (.slice b2 m2 c2) (flPair s'.Pairs) := OwnI.ext1 (ow_ex0x1y01n Op4 KS4 KE4) hx5
    have Oj5 : OwnI w.heap.size 95 5 w5 (.slice b3 m3 c3) (flJob s'.Jobs) := OwnI.ext1 (ow_ex0x1y01n Oj4 KS4 KE4) hx5
    have Oq5 : OwnI w.heap.size 2 1 w5 (.slice (some ⟨w.heap.size + 1, 0, none⟩) 6 6) ks2 := OwnI.ext1 (ow_ex0x1y01n Oq4 KS4 KE4) hx5
    clear hx5
    clear CS4 FS4 LS4 CE4 FE4 LE4 hk94 FXq4 LXq4
    obtain ⟨CS5, FS5, LS5⟩ := KS5.cfl
    obtain ⟨CE5, FE5, LE5⟩ := KE5.cfl
    obtain ⟨v2, v3, rfl, gp, gj⟩ := gu
    obtain ⟨d2, q2, r2, rfl⟩ := gp.shape
    obtain ⟨d3, q3, r3, rfl⟩ := gj.shape
    have Ox5 := gp.mono (B' := w.heap.size) (by simp only [World.size_alloc, World.size_setCell, size_setRow]; omega); have Oy5 := gj.mono (B' := w.heap.size) (by simp only [World.size_alloc, World.size_setCell, size_setRow]; omega)
    clear gp gj
    have hfin : appOk s' ⟨ei, et, (ex : Int), ky, ⟨ok, oa, ob, oc, od⟩⟩ = true → foldS (⟨0, 0, [], [], ⟨0, 0, 0⟩⟩ : DState) (l ++ [⟨ei, et, (ex : Int), ky, ⟨ok, oa, ob, oc, od⟩⟩]) = (appD s' ⟨ei, et, (ex : Int), ky, ⟨ok, oa, ob, oc, od⟩⟩, true) ∧ stateOk (appD s' ⟨ei, et, (ex : Int), ky, ⟨ok, oa, ob, oc, od⟩⟩) = true := by
     intro h9; unfold appOk at h9; rw [Bool.and_eq_true] at h9
     have eD : appD s' ⟨ei, et, (ex : Int), ky, ⟨ok, oa, ob, oc, od⟩⟩ = stepS s' ⟨ei, et, (ex : Int), ky, ⟨ok, oa, ob, oc, od⟩⟩ := by unfold appD; rw [if_pos h9.1, if_pos h9.2]
     rw [eD]; exact ⟨foldS_snoc hfo h9.2, stepS_ok h9.1 h9.2⟩
    go_wp2_with fail
    go_meet
    case rel => exact ⟨_, _, _, _, _, _, _, _, _, (by first | rfl | trivial), (by first | rfl | trivial), (by first | omega | (simp only [szA] at *; omega)), hfin, bC, (ow_edx0x1y01 Ox5 KS5 KE5), (ow_edx0x1y01 Oy5 KS5 KE5), (by exact updT), (by exact dieT), bC, bC, (ow_edx0x1y01 Ol5 KS5 KE5), (ow_edx0x1y01 Op5 KS5 KE5), (ow_edx0x1y01 Oj5 KS5 KE5), (ow_edx0x1y01 Oq5 KS5 KE5)⟩
   revert wc; intro w5 hcut
   obtain ⟨nn, okb, s2, d2, q2, r2, d3, q3, r3, rfl, rfl, hnn, hfin, KN5, Ox5, Oy5, E5, hc5, KS5, KE5, Ol5, Op5, Oj5, Oq5⟩ := hcut
   have hz5 := E5.size
   clear CS4 FS4 LS4 CE4 FE4 LE4 hk94 FXq4 LXq4
   obtain ⟨CS5, FS5, LS5⟩ := KS5.cfl
   obtain ⟨CE5, FE5, LE5⟩ := KE5.cfl
   obtain ⟨CN5, FN5, LN5⟩ := KN5.cfl
   cases okb
   rotate_left
   ·
    obtain ⟨hfo2, hso2⟩ := hfin rfl
    have OO : OwnI w.heap.size 54 9 (w5.alloc (.cells #[.int .i64 ei, .int .i64 et, .int .i64 (ex : Int), .int .i64 ky, .int .i64 ok, .int .i64 oa, .int .i64 ob, .int .i64 oc, .int .i64 od] 54)) (.slice a0 n0 c0) (flEntry l) := OwnI.ext1 Ol5 ((Ext.refl _).alloc _)
    go_upto_region 12 with (first | (at_builtin; go_loud (refine wp_appendU rfl _ _ 27 rfl 54 i0 _ 9 72 Tryz.underlying27 hi hy0 hy1 hy2 rfl dC w.heap.size _ _ rfl OO _ [ei, et, (ex : Int), ky, ok, oa, ob, oc, od] rfl (Sl.oneAt _ #[.int .i64 ei, .int .i64 et, .int .i64 (ex : Int), .int .i64 ky, .int .i64 ok, .int .i64 oa, .int .i64 ob, .int .i64 oc, .int .i64 od] _ 9 _ (by first | rfl | simp) rfl) 1000 (by simp only [length_flEntry, List.length_cons, List.length_nil]; omega) oM oM (by simp only [World.size_alloc]; omega) ?_; rotate_right; intro vv w6 On h3)))
    obtain ⟨a4, n4, c4, rfl⟩ := On.shape
    have Ol6 : OwnI w.heap.size 54 9 w6 (.slice a4 n4 c4) (flEntry (l ++ [DEntry.mk ei et (ex : Int) ky ⟨ok, oa, ob, oc, od⟩])) := by (have e9 : flEntry (l ++ [DEntry.mk ei et (ex : Int) ky ⟨ok, oa, ob, oc, od⟩]) = flEntry l ++ [ei, et, (ex : Int), ky, ok, oa, ob, oc, od] := (by simp [flEntry, DEntry.ints])); rw [e9]; exact On
    have hz6 := h3.size; (try simp only [World.size_alloc] at hz6)
    have E6 : Upd w w6 [g] := Upd.app (by exact updT) OO (.inr oM) h3
    have hc6 : Die B w6 g := Die.app (by exact dieT) OO oM h3
    have KS6 : Blk w6 w1.heap.size 39 #[.int .i64 s'.Index, .int .i64 s'.Time, .slice b2 m2 c2, .slice b3 m3 c3, .int .i64 s'.Lease.Holder, .int .i64 s'.Lease.Epoch, .int .i64 s'.Lease.Until] := Blk.app bD OO dC h3
    have KN6 : Blk w6 nn 39 #[.int .i64 s2.Index, .int .i64 s2.Time, .slice d2 q2 r2, .slice d3 q3 r3, .int .i64 s2.Lease.Holder, .int .i64 s2.Lease.Epoch, .int .i64 s2.Lease.Until] := Blk.app bD OO dC h3
    have Op6 : OwnI w.heap.size 113 2 w6 (.slice b2 m2 c2) (flPair s'.Pairs) := OwnI.app (by exact ownT) OO dC h3
    have Oj6 : OwnI w.heap.size 95 5 w6 (.slice b3 m3 c3) (flJob s'.Jobs) := OwnI.app (by exact ownT) OO dC h3
    have Oq6 : OwnI w.heap.size 2 1 w6 (.slice (some ⟨w.heap.size + 1, 0, none⟩) 6 6) ks2 := OwnI.app (by exact ownT) OO dC h3
    have Ox6 : OwnI w.heap.size 113 2 w6 (.slice d2 q2 r2) (flPair s2.Pairs) := OwnI.app (by exact ownT) OO dC h3
    have Oy6 : OwnI w.heap.size 95 5 w6 (.slice d3 q3 r3) (flJob s2.Jobs) := OwnI.app (by exact ownT) OO dC h3
    clear OO h3 On
    clear CS5 FS5 LS5 CE5 FE5 LE5 CN5 FN5 LN5
    obtain ⟨CS6, FS6, LS6⟩ := KS6.cfl
    obtain ⟨CN6, FN6, LN6⟩ := KN6.cfl
    go_wp2_with fail
    go_roundw
    case rel => exact ⟨k - 1, l ++ [⟨ei, et, (ex : Int), ky, ⟨ok, oa, ob, oc, od⟩⟩], ks2, s2, d2, q2, r2, d3, q3, r3, by omega, by (try simp only [Value.int.injEq, true_and]); first | omega | (congr 1; omega), by simp; omega, hks2, hfo2, hso2, by exact updT, by exact dieT, (ow_edx0x1y01 Ol6 KN6 KS6), (ow_edx0x1y01 Oq6 KN6 KS6), Blk.cast (by exact blkT) (by first | rfl | simp), (ow_edx0x1y01 Ox6 KN6 KS6), (ow_edx0x1y01 Oy6 KN6 KS6)⟩
    case measure => simp [intOf]; omega
   go_wp2_with fail
   go_roundw
   case rel => exact ⟨k - 1, l, ks2, s', b2, m2, c2, b3, m3, c3, by omega, by (try simp only [Value.int.injEq, true_and]); first | omega | (congr 1; omega), by omega, hks2, hfo, hso, by exact updT, by exact dieT, (ow_edx0x1y01 Ol5 KN5 KS5), (ow_edx0x1y01 Oq5 KN5 KS5), Blk.cast (by exact blkT) (by first | rfl | simp), (ow_edx0x1y01 Op5 KN5 KS5), (ow_edx0x1y01 Oj5 KN5 KS5)⟩
   case measure => simp [intOf]; omega
  obtain rfl : k = 0 := by omega
  go_wp2_with fail
  go_ret
  exact ⟨_, rfl, by exact updT, by exact dieT, l, s', Ol2, by omega, hfo, hso⟩
theorem w6State_c {w : World} {v : Value} {l : List DEntry} (h : Ints 9 w v (flEntry l)) : Calls Tryz.prog 11 #[v] w (Ret w fun r w' => IsState w.heap.size w' r (fldD (⟨0, 0, [], [], ⟨0, 0, 0⟩⟩ : DState) l)) := by
 go_enter Tryz.func11, Tryz.ntmps11
 go_wp2_with fail
 refine (sNewState_c _).mono ?_
 rintro e w1 ⟨rfl, hx1⟩
 have KR1 : Blk w1 w.heap.size 39 #[.int .i64 0, .int .i64 0, .slice none 0 0, .slice none 0 0, .int .i64 0, .int .i64 0, .int .i64 0] := Blk.ext (by exact blkT) hx1
 have E1 : Ext w w1 := Ext.trans (by exact extT) hx1
 have hz1 := hx1.size; (try simp only [World.size_alloc] at hz1)
 clear hx1
 go_wp2_with fail
 refine (sFolded_k (s := (⟨0, 0, [], [], ⟨0, 0, 0⟩⟩ : DState)) (l := l) ⟨_, _, rfl, Ints.nil 2 _, Ints.nil 5 _⟩ (h.ext E1)).mono ?_
 rintro e w2 ⟨_, rfl, hx2, x, rfl, gx⟩
 obtain ⟨D, hD⟩ : ∃ D, D = fldD (⟨0, 0, [], [], ⟨0, 0, 0⟩⟩ : DState) l := ⟨_, rfl⟩
 rw [← hD] at gx
 obtain ⟨t2, t3, rfl, h2, h3⟩ := gx
 obtain ⟨a2, n2, k2, rfl⟩ := h2.shape
 obtain ⟨a3, n3, k3, rfl⟩ := h3.shape
 have KR2 := KR1.ext hx2
 have E2 : Ext w w2 := E1.trans hx2
 have hz2 := hx2.size
 obtain ⟨CR2, FR2, LR2⟩ := KR2.cfl
 clear hx2 KR1
 go_wp2_with fail
 refine bodyPost_ret (by simp [results, Tryz.results11, go_sem, CR2, FR2, LR2]; try rfl) rfl ?_
 exact ⟨_, rfl, by exact extT, by rw [← hD]; exact ⟨_, _, rfl, (OwnI.updX2 h2 KR2 KR2 dC dC (by exact upd2T)).mono oM, (OwnI.updX2 h3 KR2 KR2 dC dC (by exact upd2T)).mono oM⟩⟩
end Go.Proofs.YtlnkggpemdpemaaGreat
namespace Go.G8
open Go.RowKit
open Go.Proofs.YtlnkggpemdpemaaGreat
theorem Upd.toExt {w w' : World} {g : Nat} (h : Upd w w' [g]) (hg : w.heap.size ≤ g) : Ext w w' := h.below (by simp; omega) (Nat.le_refl _)
theorem flEntry_take (l : List DEntry) (k : Nat) : flEntry (l.take k) = (flEntry l).take (k * 9) := by
 induction l generalizing k with
 | nil => simp [flEntry]
 | cons e t ih =>
  cases k with
  | zero => simp [flEntry]
  | succ k =>
   have e1 : flEntry (e :: t) = e.ints ++ flEntry t := by simp [flEntry]
   have e2 : flEntry (e :: t.take k) = e.ints ++ flEntry (t.take k) := by simp [flEntry]
   have h9 : e.ints.length = 9 := rfl
   have e3 : (k + 1) * 9 = e.ints.length + k * 9 := by rw [h9]; omega
   rw [List.take_succ_cons, e2, e1, ih, e3, List.take_length_add_append]
theorem fld_take {l : List DEntry} {m : DState} (h : foldS (⟨0, 0, [], [], ⟨0, 0, 0⟩⟩ : DState) l = (m, true)) (hl : l.length ≤ 2000) {k : Nat} (hk : k ≤ l.length) : stateOk (fldD (⟨0, 0, [], [], ⟨0, 0, 0⟩⟩ : DState) (l.take k)) = true ∧ (fldD (⟨0, 0, [], [], ⟨0, 0, 0⟩⟩ : DState) (l.take k)).Index = k := by
 obtain ⟨m', h'⟩ := foldS_take h k
 have hlen : (l.take k).length = k := by simp; omega
 have e : fldD (⟨0, 0, [], [], ⟨0, 0, 0⟩⟩ : DState) (l.take k) = m' := (fld_yes z0_ok oM h').2
 rw [e]
 have h1 := foldS_ok (l.take k) (⟨0, 0, [], [], ⟨0, 0, 0⟩⟩ : DState) z0_ok
 rw [h'] at h1
 have h2 := foldS_index _ h'
 refine ⟨h1, ?_⟩
 rw [h2, hlen]; simp
end Go.G8
namespace Go.Proofs.YtlnkggpemdpemaaGreat
open Go.RowKit Go.G8
theorem IsDisk.drawn {B : Nat} {w w' : World} {v : Value} {d : DDisk} {g : Nat} (h : IsDisk B w v d) (x : Upd w w' [g]) (hg : g < B) : IsDisk B w' v d := by
 obtain ⟨F, hO⟩ := h.ow
 have := hO.upd x (fun k hk hm => by have := hO.low k hk; simp at hm; omega)
 obtain ⟨t0, t1, s0, s1, e, h0, h1, hd, _⟩ := this
 exact ⟨t0, t1, s0, s1, e, h0, h1, hd⟩
theorem roll_c {w : World} {v : Value} (h : Bytes w v) (seed : Int) : Calls Tryz.prog 6 #[v, .int .u64 seed] w (Ret w fun r w' => ∃ g : Nat, r = .pointer (some ⟨g, 0, none⟩) ∧ Die w.heap.size w' g) := by
 obtain ⟨bs, h, hb⟩ := h
 have HB := Lib.hid hb
 clear hb
 obtain ⟨a, n, k, rfl, hl, hnk, hkm, hc⟩ := h.open_
 clear h
 have HC := Lib.hid hc
 clear hc
 have hl2 : bs.length = n := by simpa using hl
 have HL := Lib.hid hl2
 clear hl hl2
 go_enter Tryz.func6, Tryz.ntmps6
 go_wp2_with fail
 go_loopw [6] (fun ii wr => ∃ (x : Int) (i : Nat), ii = .int .i64 i ∧ i ≤ n ∧ Ext w wr ∧ Blk wr w.heap.size 48 #[.slice a n k, .int .i64 0, .int .u64 x]) (fun ii _ => n - (intOf ii).toNat)
 case atStart => exact ⟨_, 0, rfl, Nat.zero_le _, by exact extT, Blk.new _ _ _⟩
 case round =>
  obtain ⟨x, i, rfl, hi, hE, hK⟩ := hrel
  have CK := hK.cell; have FK := hK.frozen; have LK := hK.lt
  by_cases hlt : i < n
  ·
   obtain ⟨b, off, rfl, hbl, hcl⟩ := HC.out i hlt
   have hy := List.getElem?_eq_getElem (l := bs) (i := i) (by rw [HL.out]; exact hlt)
   have hce := hcl 0 _ (by simp only [Nat.mul_one, Nat.add_zero, List.getElem?_map, hy]; rfl)
   simp only [Nat.mul_one, Nat.add_zero] at hce
   obtain ⟨y, hyy⟩ : ∃ y : Int, w.cell? ⟨b, off + i, none⟩ = some (.int .u8 y) := ⟨_, hce⟩
   clear hce hcl hy
   have hlt2 : (i : Int) < (n : Int) := by omega
   unfold maxLen at hkm
   go_wp2_with fail
   refine wp_region_held_drew (S := fun w' => Ext w w') (by kernel_rfl) (by (try dsimp only); exact extT) (fun hHeld => ?_)
   refine wt 0 ?_
   (try simp only [redA, Act.put])
   refine wt 1 ?_
   (try simp only [redA, Act.put])
   refine wt 2 ?_
   (try simp only [redA, Act.put])
   refine wt 3 ?_
   (try simp only [redA, Act.put])
   refine wt 6 ?_
   (try simp only [redA, Act.put])
   refine wt 7 ?_
   (try simp only [redA, Act.put])
   refine wt 8 ?_
   (try simp only [redA, Act.put])
   refine wpAnyH_take (i := 9) (v := ?_) rfl (by kernel_rfl) (by kernel_rfl) (by kernel_rfl) (fun _ _ _ h => h) (Or.inl ⟨by rfl, ?_⟩) (by assumption) ?_
   rotate_left
   focus (intro w hSw; (try dsimp only at hSw); have hq := (hSw.cells.1 _ _ hbl).trans hyy; go_simp <;> with_reducible rfl)
   (try simp only [redA, Act.put])
   refine wt 10 ?_
   (try simp only [redA, Act.put])
   refine wr1 4 fun Kz hKz => ?_
   (try simp only [redA])
   go_simp
   refine hKz.out _ _ (by (try dsimp only); exact extT) (fun hHeld => ?_)
   clear hKz Kz
   (try simp only [redA, Act.put])
   refine wt 5 ?_
   (try simp only [redA, Act.put])
   refine wt 11 ?_
   (try simp only [redA, Act.put])
   refine wt 12 ?_
   (try simp only [redA, Act.put])
   refine wt 13 ?_
   (try simp only [redA, Act.put])
   refine wt 14 ?_
   (try simp only [redA, Act.put])
   refine wr1 15 fun Kz hKz => ?_
   (try simp only [redA])
   go_simp
   refine hKz.out _ _ (by (try dsimp only); exact extT) (fun hHeld => ?_)
   clear hKz Kz
   (try simp only [redA, Act.put])
   refine wpAnyH_done (by kernel_rfl) ?_ _
   go_wp2_with fail
   go_roundw
   case rel => exact ⟨_, i + 1, by go_num, by omega, by exact extT, bC⟩
   case measure => simp [intOf]; omega
  have hin : i = n := by omega
  have hlt2 : ¬ (i : Int) < (n : Int) := by omega
  go_wp2_with fail
  go_ret
  refine ⟨_, rfl, by exact extT, _, rfl, a, n, k, 0, x, hK, Nat.le_refl _, Nat.zero_le _, hnk, hkm, fun j hj => ?_⟩
  obtain ⟨b, off, ha, hbl, hcl⟩ := HC.out j hj
  have hy := List.getElem?_eq_getElem (l := bs) (i := j) (by rw [HL.out]; exact hj)
  have hce := hcl 0 _ (by simp only [Nat.mul_one, Nat.add_zero, List.getElem?_map, hy]; rfl)
  simp only [Nat.mul_one, Nat.add_zero] at hce
  exact ⟨b, off, _, ha, hbl, (HB.out _ (List.getElem_mem _)).1, (HB.out _ (List.getElem_mem _)).2, (hE.cells.1 _ _ hbl).trans hce⟩
end Go.Proofs.YtlnkggpemdpemaaGreat
