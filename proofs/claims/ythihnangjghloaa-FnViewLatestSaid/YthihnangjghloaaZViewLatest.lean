/- The statement FnViewLatest: the walk and the row. -/
import Derived.Test.YthihnangjghloaaSa
import Derived.Deep.DeepCutAuto
import Derived.Test.YthihnangjghloaaTb
import Derived.Test.YthihnangjghloaaSq
import Derived.Test.YthihnangjghloaaTz
import Derived.Test.YthihnangjghloaaTv
import Derived.Test.YthihnangjghloaaSc
set_option linter.unusedSimpArgs false
set_option linter.unusedVariables false
-- The statement's walk: FnViewLatest.
set_option linter.unusedSimpArgs false
set_option linter.unusedVariables false
namespace Go.Proofs.Ythihnangjghloaa
open Go.RowKit Go.G8

theorem IsDisk.monoQ {B B' : Nat} {w : World} {v : Value} {d : DDisk} (h : IsDisk B w v d) (x : B' ≤ B) : IsDisk B' w v d := let ⟨t0, t1, s0, s1, e, h0, h1, hd⟩ := h; ⟨t0, t1, s0, s1, e, h0.mono x, h1.mono x, hd⟩
theorem IsDisk.extQ {B : Nat} {w w' : World} {v : Value} {d : DDisk} (h : IsDisk B w v d) (x : Ext w w') : IsDisk B w' v d := let ⟨t0, t1, s0, s1, e, h0, h1, hd⟩ := h; ⟨t0, t1, s0, s1, e, h0.ext x, h1.ext x, hd⟩
theorem IsDisk.boxQ {B : Nat} {w : World} {v : Value} {d : DDisk} (h : IsDisk B w v d) {X : Nat} {a : Array Value} (hX : Blk w X 47 a) (i : Nat) (u : Value) : IsDisk B (w.setCell ⟨X, i, none⟩ u) v d := let ⟨t0, t1, s0, s1, e, h0, h1, hd⟩ := h; ⟨t0, t1, s0, s1, e, h0.box hX (by decide) (by decide) i u, h1.box hX (by decide) (by decide) i u, hd⟩
theorem IsDisk.drewQ {B : Nat} {w : World} {v : Value} {d : DDisk} (h : IsDisk B w v d) : IsDisk B w.drew v d := h.extQ (Ext.drew (Ext.refl _))
theorem IsDisk.drewNQ {B : Nat} {w : World} {v : Value} {d : DDisk} (h : IsDisk B w v d) (k : Nat) : IsDisk B (w.drewN k) v d := h.extQ (Ext.drewN (Ext.refl _) _)
theorem diskR {B : Nat} {w : World} {v : Value} {d : DDisk} (h : IsDisk B w v d := by ((repeat' (first | (with_reducible assumption) | (with_reducible refine IsDisk.drewQ ?_) | (with_reducible refine IsDisk.drewNQ ?_ _) | (with_reducible refine IsDisk.boxQ ?_ blkT _ _))); first | done | fail)) : IsDisk B w v d := h
theorem IsDisk.extS {B : Nat} {w w' w'' : World} {v : Value} {d : DDisk} (h : IsDisk B w v d) (hx : Ext w' w'') (h0 : Ext w w' := by exact extT) : IsDisk B w'' v d := by
 obtain ⟨t0, t1, s0, s1, e, h1, h2, hd⟩ := h
 exact ⟨t0, t1, s0, s1, e, h1.ext (h0.trans hx), h2.ext (h0.trans hx), hd⟩
theorem dues_size {B : Nat} {e : TypeId} {w : World} {a : Option Addr} {n k : Nat} {l : List DDue} (h : OwnI B e 2 w (.slice a n k) (dues l)) : n = l.length := by
 obtain ⟨ta, tn, tc, hs, hl0, _⟩ := Own.open_ h
 injection hs with _ h1 _
 simp only [List.length_map, length_dues] at hl0
 omega
theorem staleIn_v {w : World} (j : DJobs) (R : Nat) (x : Int) {b : Bool} {s : Value} (hi : j.Index = (R : Int)) (hb : staleIn ⟨j⟩ x = b) (h : Ints 2 w s (dues j.Open)) : Calls Try.prog 16 #[.agg #[.int .i64 (R : Int), .int .i64 j.Time, .int .i64 j.Holder, .int .i64 j.Epoch, .int .i64 j.Until, s], .int .i64 x] w (RetV w (.bool b)) := by
 have c := staleIn_c w ⟨j⟩ s x h
 rw [hb] at c
 simp only [hi] at c
 exact c
set_option maxHeartbeats 4000000 in
set_option maxRecDepth 100000 in
theorem law_ViewLatest (w : World) (v : Value) (h : Bytes w v) : Calls Try.prog 3 #[v] w (RetV w (.bool true)) := by
 obtain ⟨bs, hbs, hbo⟩ := h
 obtain ⟨a, n, k, rfl⟩ := hbs.shape
 have HB : Bytes w (.slice a n k) := ⟨bs, hbs, hbo⟩
 clear hbs hbo
 go_enter Try.func3, Try.ntmps3
 go_wp2_with fail
 refine (big_c _ a n k).mono ?_
 rintro e9 w9 ⟨rfl, rfl⟩
 by_cases hbig : (4096 : Int) < (n : Int)
 ·
  go_wp2_with fail
  go_ret
  exact ⟨rfl, Ext.refl _⟩
 go_wp2_with fail
 refine (roll_c HB 21).mono ?_
 rintro e w1 ⟨_, rfl, hx1, g, rfl, hc1⟩
 obtain ⟨B, hB⟩ : ∃ B, B = w.heap.size := ⟨_, rfl⟩
 rw [← hB] at hc1
 have hg0 := hc1.lt; have hgw : w.heap.size ≤ g := by omega
 have hz1 := hx1.size; have E1 : Upd w w1 [g] := Upd.ofExt hx1 _
 clear hx1 HB
 go_wp2_with fail
 refine (below_c (show Die B _ g from by exact dieT) 16 (by omega)).mono ?_
 rintro e w2 ⟨_, rfl, X2, hc2, x0, rfl, px0, qx0⟩
 have hz2 := X2.size; (try simp only [szA] at hz2)
 have E2 : Upd w w2 [g] := Upd.trans (by exact updT) X2
 clear X2
 obtain ⟨N, hN⟩ : ∃ N : Nat, 2 + x0 = (N : Int) := ⟨(2 + x0).toNat, by omega⟩
 go_wp2_with fail
 refine (w6List_c (show Die B _ g from by exact dieT) N (by omega)).mono ?_
 rintro e w3 ⟨_, rfl, X3, hc3, l, m, Ol3, hl, hfo, hmo⟩
 have hz3 := X3.size; (try simp only [szA] at hz3)
 have E3 : Upd w w3 [g] := Upd.trans (by exact updT) X3
 clear X3
 obtain ⟨a0, n0, c0, rfl⟩ := Ol3.shape
 have hn0 : n0 = l.length := by obtain ⟨_, q, _, e, hl9, _⟩ := Ol3.ints; injection e with _ e _; simp only [List.length_map, length_flEntry] at hl9; omega
 subst hn0
 have hcap : l.length ≤ c0 := by obtain ⟨_, q, _, e, _, hle, _⟩ := Ol3.ints; injection e with _ e1 e2; omega
 have hl64 : l.length ≤ 64 := by omega
 have HFO := Lib.hid hfo; clear hfo hmo hN hl
 obtain ⟨BL, hBL⟩ : ∃ B, B = w2.heap.size := ⟨_, rfl⟩
 rw [← hBL] at Ol3
 have hgBL : g < BL := by omega
 go_wp2_with fail
 refine (newView_k _).mono ?_
 rintro e w4 ⟨rfl, hx4⟩
 have hz4 := hx4.size; (try simp only [szA] at hz4)
 have E4 : Upd w w4 [g] := Upd.ext (by exact updT) hx4
 have hc4 : Die B w4 g := Die.ext (by exact dieT) hx4
 have Ol4 : OwnI BL 89 9 w4 (.slice a0 l.length c0) (flEntry l) := OwnI.ext1 (by exact ownR) hx4
 clear hx4
 obtain ⟨VA, hVA⟩ : ∃ B, B = w4.heap.size := ⟨_, rfl⟩
 go_wp2_with fail
 refine (below_c (show Die B _ g from by exact dieT) 10 (by omega)).mono ?_
 rintro e w5 ⟨_, rfl, X5, hc5, x1, rfl, px1, qx1⟩
 have hz5 := X5.size; (try simp only [szA] at hz5)
 have E5 : Upd w w5 [g] := Upd.trans (by exact updT) X5
 have KV5 : Blk w5 w4.heap.size 34 #[.int .i64 0, .int .i64 0, .int .i64 0, .int .i64 0, .int .i64 0, .slice none 0 0] := Blk.upd1 (Blk.cast (by exact blkT) (by first | rfl | simp)) X5 (by omega)
 have Ol5 : OwnI BL 89 9 w5 (.slice a0 l.length c0) (flEntry l) := OwnI.drawn (by exact ownR) X5 (by omega)
 clear X5
 have CV5 := KV5.cell; have FV5 := KV5.frozen; have LV5 := KV5.lt
 rw [← hVA] at KV5 CV5 FV5 LV5 ⊢
 have hBV : BL ≤ VA := by omega
 have hgVA : g < VA := by omega
 have HVA := Lib.hid hVA; have HBL := Lib.hid hBL; clear hVA hBL
 obtain ⟨N1, hN1⟩ : ∃ N : Nat, 1 + x1 = (N : Int) := ⟨(1 + x1).toNat, by omega⟩
 have hN10 : N1 ≤ 10 := by omega
 have OQ0 : OwnI BL 132 2 w5 (.slice none 0 0) (dues (jV l 0).Open) := by rw [jV_zero]; exact OwnI.nil _ _ _ _
 have KQ0 : Blk w5 VA 34 #[.int .i64 (jV l 0).Index, .int .i64 (jV l 0).Time, .int .i64 (jV l 0).Holder, .int .i64 (jV l 0).Epoch, .int .i64 (jV l 0).Until, .slice none 0 0] := by rw [jV_zero]; exact KV5
 go_wp2_with fail
 go_loopw [6, 7] (fun mm kk wr => ∃ (M k : Nat) (av : Option Addr) (nv kv : Nat), M ≤ l.length ∧ k ≤ 10 ∧ mm = .int .i64 M ∧ kk = .int .i64 k ∧ Upd w wr [g] ∧ Die B wr g ∧ Blk wr VA 34 #[.int .i64 (jV l M).Index, .int .i64 (jV l M).Time, .int .i64 (jV l M).Holder, .int .i64 (jV l M).Epoch, .int .i64 (jV l M).Until, .slice av nv kv] ∧ OwnI BL 89 9 wr (.slice a0 l.length c0) (flEntry l) ∧ OwnI BL 132 2 wr (.slice av nv kv) (dues (jV l M).Open)) (fun _ kk _ => (intOf kk).toNat)
 case atStart => exact ⟨0, N1, none, 0, 0, by omega, hN10, rfl, by first | rfl | (congr 1; omega), E5, hc5, KQ0, Ol5, OQ0⟩
 case round =>
  obtain ⟨M, k, av, nv, kv, hM, hk, rfl, rfl, E6, hc6, KV6, Ol6, Oq6⟩ := hrel
  obtain ⟨w6, hw⟩ : ∃ w6, w6 = wr := ⟨_, rfl⟩
  subst hw
  have hz6 := E6.size
  clear CV5 FV5 LV5
  have CV6 := KV6.cell; have FV6 := KV6.frozen; have LV6 := KV6.lt
  have hgr := hc6.lt; have hVr := LV6
  by_cases hlt : 0 < k
  ·
   skip
   have hlt2 : (0 : Int) < (k : Int) := by omega
   have hw9 : IntKind.i64.wrap ((k : Int) - 1) = (k : Int) - 1 := by rw [IntKind.wrap_i64]; omega
   have hwl : IntKind.i64.wrap ((l.length : Int) + 1) = (l.length : Int) + 1 := by rw [IntKind.wrap_i64]; omega
   go_wp2_with fail
   refine (below_c (show Die B _ g from by exact dieT) ((l.length : Int) + 1) (by omega)).mono ?_
   rintro e w7 ⟨_, rfl, X7, hc7, x2, rfl, px2, qx2⟩
   have hz7 := X7.size; (try simp only [szA] at hz7)
   have E7 : Upd w w7 [g] := Upd.trans (by exact updT) X7
   have KV7 : Blk w7 VA 34 #[.int .i64 (jV l M).Index, .int .i64 (jV l M).Time, .int .i64 (jV l M).Holder, .int .i64 (jV l M).Epoch, .int .i64 (jV l M).Until, .slice av nv kv] := Blk.upd1 (Blk.cast (by exact blkT) (by first | rfl | simp)) X7 (by omega)
   have Ol7 : OwnI BL 89 9 w7 (.slice a0 l.length c0) (flEntry l) := OwnI.drawn (by exact ownR) X7 (by omega)
   have Oq7 : OwnI BL 132 2 w7 (.slice av nv kv) (dues (jV l M).Open) := OwnI.drawn (by exact ownR) X7 (by omega)
   clear X7
   clear CV6 FV6 LV6
   have CV7 := KV7.cell; have FV7 := KV7.frozen; have LV7 := KV7.lt
   obtain ⟨K, rfl⟩ := Int.eq_ofNat_of_zero_le px2
   have hK : K ≤ l.length := by omega
   have hKc : K ≤ c0 := by omega
   go_wp2_with fail
   refine (sNewStore_n _).mono ?_
   rintro e w8 ⟨_, rfl, hx8, t0, t1, rfl, gD⟩
   have hz8 := hx8.size; (try simp only [szA] at hz8)
   have E8 : Upd w w8 [g] := Upd.ext (by exact updT) hx8
   have hc8 : Die B w8 g := Die.ext (by exact dieT) hx8
   have KV8 : Blk w8 VA 34 #[.int .i64 (jV l M).Index, .int .i64 (jV l M).Time, .int .i64 (jV l M).Holder, .int .i64 (jV l M).Epoch, .int .i64 (jV l M).Until, .slice av nv kv] := Blk.ext (Blk.cast (by exact blkT) (by first | rfl | simp)) hx8
   have Ol8 : OwnI BL 89 9 w8 (.slice a0 l.length c0) (flEntry l) := OwnI.ext1 (by exact ownR) hx8
   have Oq8 : OwnI BL 132 2 w8 (.slice av nv kv) (dues (jV l M).Open) := OwnI.ext1 (by exact ownR) hx8
   clear hx8
   clear CV7 FV7 LV7
   have CV8 := KV8.cell; have FV8 := KV8.frozen; have LV8 := KV8.lt
   obtain ⟨D0, hD0⟩ : ∃ q, q = newDisk 8 := ⟨_, rfl⟩
   rw [← hD0] at gD
   have HS0 := Lib.hid hD0; clear hD0
   obtain ⟨ad0, nd0, kd0, ad1, nd1, kd1, eD⟩ := gD.rd.shape
   injection eD with eD; simp only [Array.mk.injEq, List.cons.injEq, and_true] at eD; obtain ⟨rfl, rfl⟩ := eD
   go_wp2_with fail
   refine (w6State_c (l := l.take K) (by rw [flEntry_take]; exact Ints.takeN (OwnI.ints (show OwnI BL 89 9 _ _ (flEntry l) from by exact ownR)) (by omega))).mono ?_
   rintro e w9 ⟨_, rfl, hx9, gs⟩
   have gD := IsDisk.extS gD hx9
   have hz9 := hx9.size; (try simp only [szA] at hz9)
   have E9 : Upd w w9 [g] := Upd.ext (by exact updT) hx9
   have hc9 : Die B w9 g := Die.ext (by exact dieT) hx9
   have KV9 : Blk w9 VA 34 #[.int .i64 (jV l M).Index, .int .i64 (jV l M).Time, .int .i64 (jV l M).Holder, .int .i64 (jV l M).Epoch, .int .i64 (jV l M).Until, .slice av nv kv] := Blk.ext (Blk.cast (by exact blkT) (by first | rfl | simp)) hx9
   have KT9 : Blk w9 w8.heap.size 47 #[.slice ad0 nd0 kd0, .slice ad1 nd1 kd1, .int .i64 0, .int .i64 0, .slice none 0 0, .slice none 0 0, .int .i64 0, .int .i64 0, .int .i64 0, .int .i64 0, .int .i64 0, .int .i64 0] := Blk.ext (Blk.cast (by exact blkT) (by first | rfl | simp)) hx9
   have Ol9 : OwnI BL 89 9 w9 (.slice a0 l.length c0) (flEntry l) := OwnI.ext1 (by exact ownR) hx9
   have Oq9 : OwnI BL 132 2 w9 (.slice av nv kv) (dues (jV l M).Open) := OwnI.ext1 (by exact ownR) hx9
   clear hx9
   clear CV8 FV8 LV8
   have CV9 := KV9.cell; have FV9 := KV9.frozen; have LV9 := KV9.lt
   have CT9 := KT9.cell; have FT9 := KT9.frozen; have LT9 := KT9.lt
   obtain ⟨sK, hsK⟩ : ∃ s, s = fldD (⟨0, 0, [], [], ⟨0, 0, 0⟩⟩ : DState) (l.take K) := ⟨_, rfl⟩
   rw [← hsK] at gs
   have HsK := Lib.hid hsK; clear hsK
   obtain ⟨t2, t3, rfl, h2, h3⟩ := gs
   obtain ⟨ap, np, kp, rfl⟩ := h2.shape
   obtain ⟨aj, nj, kj, rfl⟩ := h3.shape
   replace gD := IsDisk.monoQ (B' := BL) gD (by first | omega | (simp only [szA]; omega))
   replace h2 := OwnI.mono (B' := BL) h2 (by first | omega | (simp only [szA]; omega))
   replace h3 := OwnI.mono (B' := BL) h3 (by first | omega | (simp only [szA]; omega))
   have hjV : jN sK = jV l K := by rw [HsK.out]; rfl
   have HJ := Lib.hid hjV; clear hjV
   go_wp2_with fail
   have hT : True := trivial
   refine wp_region_held_drew (S := fun w' => Upd w w' [g] ∧ Die B w' g ∧ Blk w' w8.heap.size 47 #[.slice ad0 nd0 kd0, .slice ad1 nd1 kd1, .int .i64 sK.Index, .int .i64 sK.Time, .slice ap np kp, .slice aj nj kj, .int .i64 sK.Lease.Holder, .int .i64 sK.Lease.Epoch, .int .i64 sK.Lease.Until, .int .i64 0, .int .i64 0, .int .i64 0]) (by kernel_rfl) (by (try dsimp only); exact ⟨(by exact updT), (by exact dieT), (Blk.cast (by exact blkT) setsT)⟩) (fun hHeld => ?_)
   refine wpAnyH_take (i := 1) (v := ?_) rfl (by kernel_rfl) (by kernel_rfl) (by kernel_rfl) (fun _ _ _ h => h) (Or.inl ⟨by rfl, ?_⟩) (by assumption) ?_
   rotate_left
   focus (intro w hSw; (try dsimp only at hSw); have hq := hSw.2.2.cell; go_simp <;> with_reducible rfl)
   (try simp only [redA, Act.put])
   refine wpAnyH_ready (rs := [0, 2]) (by kernel_rfl) (by simp) ?_
   refine AllReadyH.cons rfl (fun Kz hKz => ?_) (AllReadyH.cons rfl (fun Kz hKz => ?_) AllReadyH.nil)
   ·
    skip
    (try simp only [redA])
    go_simp
    refine hKz.out _ _ (by (try dsimp only); exact ⟨(by exact updT), (by exact dieT), (Blk.cast (by exact blkT) setsT)⟩) (fun hHeld => ?_)
    clear hKz Kz
    (try simp only [redA, Act.put])
    refine wpAnyH_ready (rs := [2]) (by kernel_rfl) (by simp) ?_
    refine AllReadyH.cons rfl (fun Kz hKz => ?_) AllReadyH.nil
    (try simp only [redA])
    go_simp
    go_at_call 15
    refine (sJobsOf_k (s := ⟨D0, sK, 0, 0, 0⟩) ⟨_, _, _, _, rfl, (RdDisk.get (show IsDisk BL _ (.agg #[.slice ad0 nd0 kd0, .slice ad1 nd1 kd1]) D0 from by exact diskR).rd).1, (RdDisk.get (show IsDisk BL _ (.agg #[.slice ad0 nd0 kd0, .slice ad1 nd1 kd1]) D0 from by exact diskR).rd).2, OwnI.ints (show OwnI BL 182 2 _ (.slice ap np kp) (flPair sK.Pairs) from by exact ownR), OwnI.ints (show OwnI BL 142 5 _ (.slice aj nj kj) (flJob sK.Jobs) from by exact ownR)⟩).mono ?_
    rintro e w10 ⟨_, rfl, hx10, FJ, gj0⟩
    have hz10 := hx10.size; (try simp only [szA] at hz10)
    have E10 : Upd w w10 [g] := Upd.ext (by exact updT) hx10
    have hc10 : Die B w10 g := Die.ext (by exact dieT) hx10
    have KV10 : Blk w10 VA 34 #[.int .i64 (jV l M).Index, .int .i64 (jV l M).Time, .int .i64 (jV l M).Holder, .int .i64 (jV l M).Epoch, .int .i64 (jV l M).Until, .slice av nv kv] := Blk.ext (Blk.cast (by exact blkT) (by first | rfl | simp)) hx10
    have KT10 : Blk w10 w8.heap.size 47 #[.slice ad0 nd0 kd0, .slice ad1 nd1 kd1, .int .i64 sK.Index, .int .i64 sK.Time, .slice ap np kp, .slice aj nj kj, .int .i64 sK.Lease.Holder, .int .i64 sK.Lease.Epoch, .int .i64 sK.Lease.Until, .int .i64 0, .int .i64 0, .int .i64 0] := Blk.ext (Blk.cast (by exact blkT) (by first | rfl | simp)) hx10
    have Ol10 : OwnI BL 89 9 w10 (.slice a0 l.length c0) (flEntry l) := OwnI.ext1 (by exact ownR) hx10
    have Oq10 : OwnI BL 132 2 w10 (.slice av nv kv) (dues (jV l M).Open) := OwnI.ext1 (by exact ownR) hx10
    clear hx10
    clear CV9 FV9 LV9 CT9 FT9 LT9
    have CV10 := KV10.cell; have FV10 := KV10.frozen; have LV10 := KV10.lt
    have CT10 := KT10.cell; have FT10 := KT10.frozen; have LT10 := KT10.lt
    rw [show joD (⟨D0, sK, 0, 0, 0⟩ : DStore) = jV l K from by rw [← HJ.out]; unfold jN; rw [← HS0.out]] at gj0
    have gj := gj0; clear gj0
    obtain ⟨t5, rfl, gq, -⟩ := gj
    obtain ⟨ay, ny, ky, rfl⟩ := gq.shape
    refine hKz.out _ _ (by (try dsimp only); exact ⟨(by exact updT), (by exact dieT), (Blk.cast (by exact blkT) setsT)⟩) (fun hHeld => ?_)
    clear hKz Kz
    (try simp only [redA, Act.put])
    refine wpAnyH_ready (rs := [3]) (by kernel_rfl) (by simp) ?_
    refine AllReadyH.cons rfl (fun Kz hKz => ?_) AllReadyH.nil
    (try simp only [redA])
    go_simp
    go_at_call 14
    refine (heardJobs_c _ (jV l M) (jV l K) _ _ (OwnI.ints (show OwnI BL 132 2 _ (.slice av nv kv) _ from by exact ownR)) (gq.ints.ext (by exact extT))).mono ?_
    rintro e w11 ⟨_, rfl, hx11, t6, rfl, gr⟩
    have hz11 := hx11.size; (try simp only [szA] at hz11)
    have E11 : Upd w w11 [g] := Upd.ext (by exact updT) hx11
    have hc11 : Die B w11 g := Die.ext (by exact dieT) hx11
    have KV11 : Blk w11 VA 34 #[.int .i64 (jV l M).Index, .int .i64 (jV l M).Time, .int .i64 (jV l M).Holder, .int .i64 (jV l M).Epoch, .int .i64 (jV l M).Until, .slice av nv kv] := Blk.ext (Blk.cast (by exact blkT) (by first | rfl | simp)) hx11
    have KT11 : Blk w11 w8.heap.size 47 #[.slice ad0 nd0 kd0, .slice ad1 nd1 kd1, .int .i64 sK.Index, .int .i64 sK.Time, .slice ap np kp, .slice aj nj kj, .int .i64 sK.Lease.Holder, .int .i64 sK.Lease.Epoch, .int .i64 sK.Lease.Until, .int .i64 0, .int .i64 0, .int .i64 0] := Blk.ext (Blk.cast (by exact blkT) (by first | rfl | simp)) hx11
    have Ol11 : OwnI BL 89 9 w11 (.slice a0 l.length c0) (flEntry l) := OwnI.ext1 (by exact ownR) hx11
    have Oq11 : OwnI BL 132 2 w11 (.slice av nv kv) (dues (jV l M).Open) := OwnI.ext1 (by exact ownR) hx11
    clear hx11
    clear CV10 FV10 LV10 CT10 FT10 LT10
    have CV11 := KV11.cell; have FV11 := KV11.frozen; have LV11 := KV11.lt
    have CT11 := KT11.cell; have FT11 := KT11.frozen; have LT11 := KT11.lt
    obtain ⟨ar, nr, kr, rfl⟩ := gr.shape
    have Or11 : OwnI BL 132 2 w11 (.slice ar nr kr) (dues (heardJobs (jV l M) (jV l K)).Open) := OwnI.mono gr (by first | omega | (simp only [szA]; omega))
    clear gr gq
    refine hKz.out _ _ (by (try dsimp only); exact ⟨(by exact updT), (by exact dieT), (Blk.cast (by exact blkT) setsT)⟩) (fun hHeld => ?_)
    clear hKz Kz
    (try simp only [redA, Act.put])
    refine wpAnyH_ready (rs := [4]) (by kernel_rfl) (by simp) ?_
    refine AllReadyH.cons rfl (fun Kz hKz => ?_) AllReadyH.nil
    (try simp only [redA])
    go_simp
    refine hKz.out _ _ (by (try dsimp only); exact ⟨(by exact updT), (by exact dieT), (Blk.cast (by exact blkT) setsT)⟩) (fun hHeld => ?_)
    clear hKz Kz
    (try simp only [redA, Act.put])
    refine wpAnyH_done (by kernel_rfl) ?_ _
    clear Oq11
    rcases Nat.lt_or_ge M K with hMK | hMK
    ·
     skip
     have eJ : heardJobs (jV l M) (jV l K) = jV l K := jV_take HFO.out (by omega) hM hK (by omega)
     have hd9 : decide ((M : Int) < (K : Int)) = true := by simp; omega
     rw [eJ] at Or11 ⊢; clear eJ
     have eI := jV_index HFO.out (by omega) (k := K) (by omega)
     obtain ⟨f1, f2⟩ := jV_fresh HFO.out (by omega) (k := K) (by omega)
     rw [eI]
     have hw8 : IntKind.i64.wrap ((K : Int) + 1) = (K : Int) + 1 := by rw [IntKind.wrap_i64]; omega
     have hne : ((K : Int) != (K : Int)) = false := by simp
     go_wp2_with fail
     skip
     refine (staleIn_v (jV l K) K (K : Int) eI f1 (OwnI.ints (show OwnI BL 132 2 _ (.slice ar nr kr) (dues (jV l K).Open) from by exact ownR))).mono ?_
     rintro e w12 ⟨rfl, hx12⟩
     have hz12 := hx12.size; (try simp only [szA] at hz12)
     have E12 : Upd w w12 [g] := Upd.ext (by exact updT) hx12
     have hc12 : Die B w12 g := Die.ext (by exact dieT) hx12
     have KV12 : Blk w12 VA 34 #[.int .i64 (K : Int), .int .i64 (jV l K).Time, .int .i64 (jV l K).Holder, .int .i64 (jV l K).Epoch, .int .i64 (jV l K).Until, .slice ar nr kr] := Blk.ext (Blk.cast (by exact blkT) (by first | rfl | simp)) hx12
     have KT12 : Blk w12 w8.heap.size 47 #[.slice ad0 nd0 kd0, .slice ad1 nd1 kd1, .int .i64 sK.Index, .int .i64 sK.Time, .slice ap np kp, .slice aj nj kj, .int .i64 sK.Lease.Holder, .int .i64 sK.Lease.Epoch, .int .i64 sK.Lease.Until, .int .i64 0, .int .i64 0, .int .i64 0] := Blk.ext (Blk.cast (by exact blkT) (by first | rfl | simp)) hx12
     have Ol12 : OwnI BL 89 9 w12 (.slice a0 l.length c0) (flEntry l) := OwnI.ext1 (by exact ownR) hx12
     have Or12 : OwnI BL 132 2 w12 (.slice ar nr kr) (dues (jV l K).Open) := OwnI.ext1 (by exact ownR) hx12
     clear hx12
     clear CV11 FV11 LV11 CT11 FT11 LT11
     have CV12 := KV12.cell; have FV12 := KV12.frozen; have LV12 := KV12.lt
     have CT12 := KT12.cell; have FT12 := KT12.frozen; have LT12 := KT12.lt
     go_wp2_with fail
     skip
     refine (staleIn_v (jV l K) K ((K : Int) + 1) eI f2 (OwnI.ints (show OwnI BL 132 2 _ (.slice ar nr kr) (dues (jV l K).Open) from by exact ownR))).mono ?_
     rintro e w13 ⟨rfl, hx13⟩
     have hz13 := hx13.size; (try simp only [szA] at hz13)
     have E13 : Upd w w13 [g] := Upd.ext (by exact updT) hx13
     have hc13 : Die B w13 g := Die.ext (by exact dieT) hx13
     have KV13 : Blk w13 VA 34 #[.int .i64 (K : Int), .int .i64 (jV l K).Time, .int .i64 (jV l K).Holder, .int .i64 (jV l K).Epoch, .int .i64 (jV l K).Until, .slice ar nr kr] := Blk.ext (Blk.cast (by exact blkT) (by first | rfl | simp)) hx13
     have KT13 : Blk w13 w8.heap.size 47 #[.slice ad0 nd0 kd0, .slice ad1 nd1 kd1, .int .i64 sK.Index, .int .i64 sK.Time, .slice ap np kp, .slice aj nj kj, .int .i64 sK.Lease.Holder, .int .i64 sK.Lease.Epoch, .int .i64 sK.Lease.Until, .int .i64 0, .int .i64 0, .int .i64 0] := Blk.ext (Blk.cast (by exact blkT) (by first | rfl | simp)) hx13
     have Ol13 : OwnI BL 89 9 w13 (.slice a0 l.length c0) (flEntry l) := OwnI.ext1 (by exact ownR) hx13
     have Or13 : OwnI BL 132 2 w13 (.slice ar nr kr) (dues (jV l K).Open) := OwnI.ext1 (by exact ownR) hx13
     clear hx13
     clear CV12 FV12 LV12 CT12 FT12 LT12
     have CV13 := KV13.cell; have FV13 := KV13.frozen; have LV13 := KV13.lt
     have CT13 := KT13.cell; have FT13 := KT13.frozen; have LT13 := KT13.lt
     go_wp2_with fail
     go_roundw
     case rel => exact ⟨K, k - 1, ar, nr, kr, by omega, by omega, by first | rfl | (congr 1; omega), by (try simp only [Value.int.injEq, true_and]); first | omega | (congr 1; omega), by exact updT, by exact dieT, (by rw [eI]; exact KV13), Ol13, Or13⟩
     case measure => simp [intOf]; omega
    ·
     skip
     have hd9 : decide ((M : Int) < (K : Int)) = false := by simp; omega
     have eJ : heardJobs (jV l M) (jV l K) = jV l M := by
       rcases Nat.lt_or_ge K M with h9 | h9
       ·
        exact jV_keep HFO.out (by omega) hM hK h9
       ·
        have : K = M := by omega
        subst this; exact jV_take HFO.out (by omega) hM hK h9
     rw [eJ] at Or11 ⊢; clear eJ
     have eI := jV_index HFO.out (by omega) (k := M) (by omega)
     obtain ⟨f1, f2⟩ := jV_fresh HFO.out (by omega) (k := M) (by omega)
     rw [eI]
     have hw8 : IntKind.i64.wrap ((M : Int) + 1) = (M : Int) + 1 := by rw [IntKind.wrap_i64]; omega
     have hne : ((M : Int) != (M : Int)) = false := by simp
     go_wp2_with fail
     skip
     refine (staleIn_v (jV l M) M (M : Int) eI f1 (OwnI.ints (show OwnI BL 132 2 _ (.slice ar nr kr) (dues (jV l M).Open) from by exact ownR))).mono ?_
     rintro e w12 ⟨rfl, hx12⟩
     have hz12 := hx12.size; (try simp only [szA] at hz12)
     have E12 : Upd w w12 [g] := Upd.ext (by exact updT) hx12
     have hc12 : Die B w12 g := Die.ext (by exact dieT) hx12
     have KV12 : Blk w12 VA 34 #[.int .i64 (M : Int), .int .i64 (jV l M).Time, .int .i64 (jV l M).Holder, .int .i64 (jV l M).Epoch, .int .i64 (jV l M).Until, .slice ar nr kr] := Blk.ext (Blk.cast (by exact blkT) (by first | rfl | simp)) hx12
     have KT12 : Blk w12 w8.heap.size 47 #[.slice ad0 nd0 kd0, .slice ad1 nd1 kd1, .int .i64 sK.Index, .int .i64 sK.Time, .slice ap np kp, .slice aj nj kj, .int .i64 sK.Lease.Holder, .int .i64 sK.Lease.Epoch, .int .i64 sK.Lease.Until, .int .i64 0, .int .i64 0, .int .i64 0] := Blk.ext (Blk.cast (by exact blkT) (by first | rfl | simp)) hx12
     have Ol12 : OwnI BL 89 9 w12 (.slice a0 l.length c0) (flEntry l) := OwnI.ext1 (by exact ownR) hx12
     have Or12 : OwnI BL 132 2 w12 (.slice ar nr kr) (dues (jV l M).Open) := OwnI.ext1 (by exact ownR) hx12
     clear hx12
     clear CV11 FV11 LV11 CT11 FT11 LT11
     have CV12 := KV12.cell; have FV12 := KV12.frozen; have LV12 := KV12.lt
     have CT12 := KT12.cell; have FT12 := KT12.frozen; have LT12 := KT12.lt
     go_wp2_with fail
     skip
     refine (staleIn_v (jV l M) M ((M : Int) + 1) eI f2 (OwnI.ints (show OwnI BL 132 2 _ (.slice ar nr kr) (dues (jV l M).Open) from by exact ownR))).mono ?_
     rintro e w13 ⟨rfl, hx13⟩
     have hz13 := hx13.size; (try simp only [szA] at hz13)
     have E13 : Upd w w13 [g] := Upd.ext (by exact updT) hx13
     have hc13 : Die B w13 g := Die.ext (by exact dieT) hx13
     have KV13 : Blk w13 VA 34 #[.int .i64 (M : Int), .int .i64 (jV l M).Time, .int .i64 (jV l M).Holder, .int .i64 (jV l M).Epoch, .int .i64 (jV l M).Until, .slice ar nr kr] := Blk.ext (Blk.cast (by exact blkT) (by first | rfl | simp)) hx13
     have KT13 : Blk w13 w8.heap.size 47 #[.slice ad0 nd0 kd0, .slice ad1 nd1 kd1, .int .i64 sK.Index, .int .i64 sK.Time, .slice ap np kp, .slice aj nj kj, .int .i64 sK.Lease.Holder, .int .i64 sK.Lease.Epoch, .int .i64 sK.Lease.Until, .int .i64 0, .int .i64 0, .int .i64 0] := Blk.ext (Blk.cast (by exact blkT) (by first | rfl | simp)) hx13
     have Ol13 : OwnI BL 89 9 w13 (.slice a0 l.length c0) (flEntry l) := OwnI.ext1 (by exact ownR) hx13
     have Or13 : OwnI BL 132 2 w13 (.slice ar nr kr) (dues (jV l M).Open) := OwnI.ext1 (by exact ownR) hx13
     clear hx13
     clear CV12 FV12 LV12 CT12 FT12 LT12
     have CV13 := KV13.cell; have FV13 := KV13.frozen; have LV13 := KV13.lt
     have CT13 := KT13.cell; have FT13 := KT13.frozen; have LT13 := KT13.lt
     go_wp2_with fail
     go_roundw
     case rel => exact ⟨M, k - 1, ar, nr, kr, by omega, by omega, by first | rfl | (congr 1; omega), by (try simp only [Value.int.injEq, true_and]); first | omega | (congr 1; omega), by exact updT, by exact dieT, (by rw [eI]; exact KV13), Ol13, Or13⟩
     case measure => simp [intOf]; omega
   ·
    skip
    (try simp only [redA])
    go_simp
    go_at_call 15
    refine (sJobsOf_k (s := ⟨D0, sK, 0, 0, 0⟩) ⟨_, _, _, _, rfl, (RdDisk.get (show IsDisk BL _ (.agg #[.slice ad0 nd0 kd0, .slice ad1 nd1 kd1]) D0 from by exact diskR).rd).1, (RdDisk.get (show IsDisk BL _ (.agg #[.slice ad0 nd0 kd0, .slice ad1 nd1 kd1]) D0 from by exact diskR).rd).2, OwnI.ints (show OwnI BL 182 2 _ (.slice ap np kp) (flPair sK.Pairs) from by exact ownR), OwnI.ints (show OwnI BL 142 5 _ (.slice aj nj kj) (flJob sK.Jobs) from by exact ownR)⟩).mono ?_
    rintro e w10 ⟨_, rfl, hx10, FJ, gj0⟩
    have hz10 := hx10.size; (try simp only [szA] at hz10)
    have E10 : Upd w w10 [g] := Upd.ext (by exact updT) hx10
    have hc10 : Die B w10 g := Die.ext (by exact dieT) hx10
    have KV10 : Blk w10 VA 34 #[.int .i64 (jV l M).Index, .int .i64 (jV l M).Time, .int .i64 (jV l M).Holder, .int .i64 (jV l M).Epoch, .int .i64 (jV l M).Until, .slice av nv kv] := Blk.ext (Blk.cast (by exact blkT) (by first | rfl | simp)) hx10
    have KT10 : Blk w10 w8.heap.size 47 #[.slice ad0 nd0 kd0, .slice ad1 nd1 kd1, .int .i64 sK.Index, .int .i64 sK.Time, .slice ap np kp, .slice aj nj kj, .int .i64 sK.Lease.Holder, .int .i64 sK.Lease.Epoch, .int .i64 sK.Lease.Until, .int .i64 0, .int .i64 0, .int .i64 0] := Blk.ext (Blk.cast (by exact blkT) (by first | rfl | simp)) hx10
    have Ol10 : OwnI BL 89 9 w10 (.slice a0 l.length c0) (flEntry l) := OwnI.ext1 (by exact ownR) hx10
    have Oq10 : OwnI BL 132 2 w10 (.slice av nv kv) (dues (jV l M).Open) := OwnI.ext1 (by exact ownR) hx10
    clear hx10
    clear CV9 FV9 LV9 CT9 FT9 LT9
    have CV10 := KV10.cell; have FV10 := KV10.frozen; have LV10 := KV10.lt
    have CT10 := KT10.cell; have FT10 := KT10.frozen; have LT10 := KT10.lt
    rw [show joD (⟨D0, sK, 0, 0, 0⟩ : DStore) = jV l K from by rw [← HJ.out]; unfold jN; rw [← HS0.out]] at gj0
    have gj := gj0; clear gj0
    obtain ⟨t5, rfl, gq, -⟩ := gj
    obtain ⟨ay, ny, ky, rfl⟩ := gq.shape
    refine hKz.out _ _ (by (try dsimp only); exact ⟨(by exact updT), (by exact dieT), (Blk.cast (by exact blkT) setsT)⟩) (fun hHeld => ?_)
    clear hKz Kz
    (try simp only [redA, Act.put])
    refine wpAnyH_ready (rs := [0]) (by kernel_rfl) (by simp) ?_
    refine AllReadyH.cons rfl (fun Kz hKz => ?_) AllReadyH.nil
    (try simp only [redA])
    go_simp
    refine hKz.out _ _ (by (try dsimp only); exact ⟨(by exact updT), (by exact dieT), (Blk.cast (by exact blkT) setsT)⟩) (fun hHeld => ?_)
    clear hKz Kz
    (try simp only [redA, Act.put])
    refine wpAnyH_ready (rs := [3]) (by kernel_rfl) (by simp) ?_
    refine AllReadyH.cons rfl (fun Kz hKz => ?_) AllReadyH.nil
    (try simp only [redA])
    go_simp
    go_at_call 14
    refine (heardJobs_c _ (jV l M) (jV l K) _ _ (OwnI.ints (show OwnI BL 132 2 _ (.slice av nv kv) _ from by exact ownR)) (gq.ints.ext (by exact extT))).mono ?_
    rintro e w11 ⟨_, rfl, hx11, t6, rfl, gr⟩
    have hz11 := hx11.size; (try simp only [szA] at hz11)
    have E11 : Upd w w11 [g] := Upd.ext (by exact updT) hx11
    have hc11 : Die B w11 g := Die.ext (by exact dieT) hx11
    have KV11 : Blk w11 VA 34 #[.int .i64 (jV l M).Index, .int .i64 (jV l M).Time, .int .i64 (jV l M).Holder, .int .i64 (jV l M).Epoch, .int .i64 (jV l M).Until, .slice av nv kv] := Blk.ext (Blk.cast (by exact blkT) (by first | rfl | simp)) hx11
    have KT11 : Blk w11 w8.heap.size 47 #[.slice ad0 nd0 kd0, .slice ad1 nd1 kd1, .int .i64 sK.Index, .int .i64 sK.Time, .slice ap np kp, .slice aj nj kj, .int .i64 sK.Lease.Holder, .int .i64 sK.Lease.Epoch, .int .i64 sK.Lease.Until, .int .i64 0, .int .i64 0, .int .i64 0] := Blk.ext (Blk.cast (by exact blkT) (by first | rfl | simp)) hx11
    have Ol11 : OwnI BL 89 9 w11 (.slice a0 l.length c0) (flEntry l) := OwnI.ext1 (by exact ownR) hx11
    have Oq11 : OwnI BL 132 2 w11 (.slice av nv kv) (dues (jV l M).Open) := OwnI.ext1 (by exact ownR) hx11
    clear hx11
    clear CV10 FV10 LV10 CT10 FT10 LT10
    have CV11 := KV11.cell; have FV11 := KV11.frozen; have LV11 := KV11.lt
    have CT11 := KT11.cell; have FT11 := KT11.frozen; have LT11 := KT11.lt
    obtain ⟨ar, nr, kr, rfl⟩ := gr.shape
    have Or11 : OwnI BL 132 2 w11 (.slice ar nr kr) (dues (heardJobs (jV l M) (jV l K)).Open) := OwnI.mono gr (by first | omega | (simp only [szA]; omega))
    clear gr gq
    refine hKz.out _ _ (by (try dsimp only); exact ⟨(by exact updT), (by exact dieT), (Blk.cast (by exact blkT) setsT)⟩) (fun hHeld => ?_)
    clear hKz Kz
    (try simp only [redA, Act.put])
    refine wpAnyH_ready (rs := [4]) (by kernel_rfl) (by simp) ?_
    refine AllReadyH.cons rfl (fun Kz hKz => ?_) AllReadyH.nil
    (try simp only [redA])
    go_simp
    refine hKz.out _ _ (by (try dsimp only); exact ⟨(by exact updT), (by exact dieT), (Blk.cast (by exact blkT) setsT)⟩) (fun hHeld => ?_)
    clear hKz Kz
    (try simp only [redA, Act.put])
    refine wpAnyH_done (by kernel_rfl) ?_ _
    clear Oq11
    rcases Nat.lt_or_ge M K with hMK | hMK
    ·
     skip
     have eJ : heardJobs (jV l M) (jV l K) = jV l K := jV_take HFO.out (by omega) hM hK (by omega)
     have hd9 : decide ((M : Int) < (K : Int)) = true := by simp; omega
     rw [eJ] at Or11 ⊢; clear eJ
     have eI := jV_index HFO.out (by omega) (k := K) (by omega)
     obtain ⟨f1, f2⟩ := jV_fresh HFO.out (by omega) (k := K) (by omega)
     rw [eI]
     have hw8 : IntKind.i64.wrap ((K : Int) + 1) = (K : Int) + 1 := by rw [IntKind.wrap_i64]; omega
     have hne : ((K : Int) != (K : Int)) = false := by simp
     go_wp2_with fail
     skip
     refine (staleIn_v (jV l K) K (K : Int) eI f1 (OwnI.ints (show OwnI BL 132 2 _ (.slice ar nr kr) (dues (jV l K).Open) from by exact ownR))).mono ?_
     rintro e w12 ⟨rfl, hx12⟩
     have hz12 := hx12.size; (try simp only [szA] at hz12)
     have E12 : Upd w w12 [g] := Upd.ext (by exact updT) hx12
     have hc12 : Die B w12 g := Die.ext (by exact dieT) hx12
     have KV12 : Blk w12 VA 34 #[.int .i64 (K : Int), .int .i64 (jV l K).Time, .int .i64 (jV l K).Holder, .int .i64 (jV l K).Epoch, .int .i64 (jV l K).Until, .slice ar nr kr] := Blk.ext (Blk.cast (by exact blkT) (by first | rfl | simp)) hx12
     have KT12 : Blk w12 w8.heap.size 47 #[.slice ad0 nd0 kd0, .slice ad1 nd1 kd1, .int .i64 sK.Index, .int .i64 sK.Time, .slice ap np kp, .slice aj nj kj, .int .i64 sK.Lease.Holder, .int .i64 sK.Lease.Epoch, .int .i64 sK.Lease.Until, .int .i64 0, .int .i64 0, .int .i64 0] := Blk.ext (Blk.cast (by exact blkT) (by first | rfl | simp)) hx12
     have Ol12 : OwnI BL 89 9 w12 (.slice a0 l.length c0) (flEntry l) := OwnI.ext1 (by exact ownR) hx12
     have Or12 : OwnI BL 132 2 w12 (.slice ar nr kr) (dues (jV l K).Open) := OwnI.ext1 (by exact ownR) hx12
     clear hx12
     clear CV11 FV11 LV11 CT11 FT11 LT11
     have CV12 := KV12.cell; have FV12 := KV12.frozen; have LV12 := KV12.lt
     have CT12 := KT12.cell; have FT12 := KT12.frozen; have LT12 := KT12.lt
     go_wp2_with fail
     skip
     refine (staleIn_v (jV l K) K ((K : Int) + 1) eI f2 (OwnI.ints (show OwnI BL 132 2 _ (.slice ar nr kr) (dues (jV l K).Open) from by exact ownR))).mono ?_
     rintro e w13 ⟨rfl, hx13⟩
     have hz13 := hx13.size; (try simp only [szA] at hz13)
     have E13 : Upd w w13 [g] := Upd.ext (by exact updT) hx13
     have hc13 : Die B w13 g := Die.ext (by exact dieT) hx13
     have KV13 : Blk w13 VA 34 #[.int .i64 (K : Int), .int .i64 (jV l K).Time, .int .i64 (jV l K).Holder, .int .i64 (jV l K).Epoch, .int .i64 (jV l K).Until, .slice ar nr kr] := Blk.ext (Blk.cast (by exact blkT) (by first | rfl | simp)) hx13
     have KT13 : Blk w13 w8.heap.size 47 #[.slice ad0 nd0 kd0, .slice ad1 nd1 kd1, .int .i64 sK.Index, .int .i64 sK.Time, .slice ap np kp, .slice aj nj kj, .int .i64 sK.Lease.Holder, .int .i64 sK.Lease.Epoch, .int .i64 sK.Lease.Until, .int .i64 0, .int .i64 0, .int .i64 0] := Blk.ext (Blk.cast (by exact blkT) (by first | rfl | simp)) hx13
     have Ol13 : OwnI BL 89 9 w13 (.slice a0 l.length c0) (flEntry l) := OwnI.ext1 (by exact ownR) hx13
     have Or13 : OwnI BL 132 2 w13 (.slice ar nr kr) (dues (jV l K).Open) := OwnI.ext1 (by exact ownR) hx13
     clear hx13
     clear CV12 FV12 LV12 CT12 FT12 LT12
     have CV13 := KV13.cell; have FV13 := KV13.frozen; have LV13 := KV13.lt
     have CT13 := KT13.cell; have FT13 := KT13.frozen; have LT13 := KT13.lt
     go_wp2_with fail
     go_roundw
     case rel => exact ⟨K, k - 1, ar, nr, kr, by omega, by omega, by first | rfl | (congr 1; omega), by (try simp only [Value.int.injEq, true_and]); first | omega | (congr 1; omega), by exact updT, by exact dieT, (by rw [eI]; exact KV13), Ol13, Or13⟩
     case measure => simp [intOf]; omega
    ·
     skip
     have hd9 : decide ((M : Int) < (K : Int)) = false := by simp; omega
     have eJ : heardJobs (jV l M) (jV l K) = jV l M := by
       rcases Nat.lt_or_ge K M with h9 | h9
       ·
        exact jV_keep HFO.out (by omega) hM hK h9
       ·
        have : K = M := by omega
        subst this; exact jV_take HFO.out (by omega) hM hK h9
     rw [eJ] at Or11 ⊢; clear eJ
     have eI := jV_index HFO.out (by omega) (k := M) (by omega)
     obtain ⟨f1, f2⟩ := jV_fresh HFO.out (by omega) (k := M) (by omega)
     rw [eI]
     have hw8 : IntKind.i64.wrap ((M : Int) + 1) = (M : Int) + 1 := by rw [IntKind.wrap_i64]; omega
     have hne : ((M : Int) != (M : Int)) = false := by simp
     go_wp2_with fail
     skip
     refine (staleIn_v (jV l M) M (M : Int) eI f1 (OwnI.ints (show OwnI BL 132 2 _ (.slice ar nr kr) (dues (jV l M).Open) from by exact ownR))).mono ?_
     rintro e w12 ⟨rfl, hx12⟩
     have hz12 := hx12.size; (try simp only [szA] at hz12)
     have E12 : Upd w w12 [g] := Upd.ext (by exact updT) hx12
     have hc12 : Die B w12 g := Die.ext (by exact dieT) hx12
     have KV12 : Blk w12 VA 34 #[.int .i64 (M : Int), .int .i64 (jV l M).Time, .int .i64 (jV l M).Holder, .int .i64 (jV l M).Epoch, .int .i64 (jV l M).Until, .slice ar nr kr] := Blk.ext (Blk.cast (by exact blkT) (by first | rfl | simp)) hx12
     have KT12 : Blk w12 w8.heap.size 47 #[.slice ad0 nd0 kd0, .slice ad1 nd1 kd1, .int .i64 sK.Index, .int .i64 sK.Time, .slice ap np kp, .slice aj nj kj, .int .i64 sK.Lease.Holder, .int .i64 sK.Lease.Epoch, .int .i64 sK.Lease.Until, .int .i64 0, .int .i64 0, .int .i64 0] := Blk.ext (Blk.cast (by exact blkT) (by first | rfl | simp)) hx12
     have Ol12 : OwnI BL 89 9 w12 (.slice a0 l.length c0) (flEntry l) := OwnI.ext1 (by exact ownR) hx12
     have Or12 : OwnI BL 132 2 w12 (.slice ar nr kr) (dues (jV l M).Open) := OwnI.ext1 (by exact ownR) hx12
     clear hx12
     clear CV11 FV11 LV11 CT11 FT11 LT11
     have CV12 := KV12.cell; have FV12 := KV12.frozen; have LV12 := KV12.lt
     have CT12 := KT12.cell; have FT12 := KT12.frozen; have LT12 := KT12.lt
     go_wp2_with fail
     skip
     refine (staleIn_v (jV l M) M ((M : Int) + 1) eI f2 (OwnI.ints (show OwnI BL 132 2 _ (.slice ar nr kr) (dues (jV l M).Open) from by exact ownR))).mono ?_
     rintro e w13 ⟨rfl, hx13⟩
     have hz13 := hx13.size; (try simp only [szA] at hz13)
     have E13 : Upd w w13 [g] := Upd.ext (by exact updT) hx13
     have hc13 : Die B w13 g := Die.ext (by exact dieT) hx13
     have KV13 : Blk w13 VA 34 #[.int .i64 (M : Int), .int .i64 (jV l M).Time, .int .i64 (jV l M).Holder, .int .i64 (jV l M).Epoch, .int .i64 (jV l M).Until, .slice ar nr kr] := Blk.ext (Blk.cast (by exact blkT) (by first | rfl | simp)) hx13
     have KT13 : Blk w13 w8.heap.size 47 #[.slice ad0 nd0 kd0, .slice ad1 nd1 kd1, .int .i64 sK.Index, .int .i64 sK.Time, .slice ap np kp, .slice aj nj kj, .int .i64 sK.Lease.Holder, .int .i64 sK.Lease.Epoch, .int .i64 sK.Lease.Until, .int .i64 0, .int .i64 0, .int .i64 0] := Blk.ext (Blk.cast (by exact blkT) (by first | rfl | simp)) hx13
     have Ol13 : OwnI BL 89 9 w13 (.slice a0 l.length c0) (flEntry l) := OwnI.ext1 (by exact ownR) hx13
     have Or13 : OwnI BL 132 2 w13 (.slice ar nr kr) (dues (jV l M).Open) := OwnI.ext1 (by exact ownR) hx13
     clear hx13
     clear CV12 FV12 LV12 CT12 FT12 LT12
     have CV13 := KV13.cell; have FV13 := KV13.frozen; have LV13 := KV13.lt
     have CT13 := KT13.cell; have FT13 := KT13.frozen; have LT13 := KT13.lt
     go_wp2_with fail
     go_roundw
     case rel => exact ⟨M, k - 1, ar, nr, kr, by omega, by omega, by first | rfl | (congr 1; omega), by (try simp only [Value.int.injEq, true_and]); first | omega | (congr 1; omega), by exact updT, by exact dieT, (by rw [eI]; exact KV13), Ol13, Or13⟩
     case measure => simp [intOf]; omega
  ·
   skip
   obtain rfl : k = 0 := by omega
   clear hlt hk
   have hMc : M ≤ c0 := by omega
   go_wp2_with fail
   refine (sNewStore_n _).mono ?_
   rintro e w7 ⟨_, rfl, hx7, t0, t1, rfl, gD⟩
   have hz7 := hx7.size; (try simp only [szA] at hz7)
   have E7 : Upd w w7 [g] := Upd.ext (by exact updT) hx7
   have hc7 : Die B w7 g := Die.ext (by exact dieT) hx7
   have KV7 : Blk w7 VA 34 #[.int .i64 (jV l M).Index, .int .i64 (jV l M).Time, .int .i64 (jV l M).Holder, .int .i64 (jV l M).Epoch, .int .i64 (jV l M).Until, .slice av nv kv] := Blk.ext (Blk.cast (by exact blkT) (by first | rfl | simp)) hx7
   have Ol7 : OwnI BL 89 9 w7 (.slice a0 l.length c0) (flEntry l) := OwnI.ext1 (by exact ownR) hx7
   have Oq7 : OwnI BL 132 2 w7 (.slice av nv kv) (dues (jV l M).Open) := OwnI.ext1 (by exact ownR) hx7
   clear hx7
   clear CV6 FV6 LV6
   have CV7 := KV7.cell; have FV7 := KV7.frozen; have LV7 := KV7.lt
   obtain ⟨D0, hD0⟩ : ∃ q, q = newDisk 8 := ⟨_, rfl⟩
   rw [← hD0] at gD
   have HS0 := Lib.hid hD0; clear hD0
   obtain ⟨ad0, nd0, kd0, ad1, nd1, kd1, eD⟩ := gD.rd.shape
   injection eD with eD; simp only [Array.mk.injEq, List.cons.injEq, and_true] at eD; obtain ⟨rfl, rfl⟩ := eD
   go_wp2_with fail
   refine (w6State_c (l := l.take M) (by rw [flEntry_take]; exact Ints.takeN (OwnI.ints (show OwnI BL 89 9 _ _ (flEntry l) from by exact ownR)) (by omega))).mono ?_
   rintro e w8 ⟨_, rfl, hx8, gs⟩
   have gD := IsDisk.extS gD hx8
   have hz8 := hx8.size; (try simp only [szA] at hz8)
   have E8 : Upd w w8 [g] := Upd.ext (by exact updT) hx8
   have hc8 : Die B w8 g := Die.ext (by exact dieT) hx8
   have KV8 : Blk w8 VA 34 #[.int .i64 (jV l M).Index, .int .i64 (jV l M).Time, .int .i64 (jV l M).Holder, .int .i64 (jV l M).Epoch, .int .i64 (jV l M).Until, .slice av nv kv] := Blk.ext (Blk.cast (by exact blkT) (by first | rfl | simp)) hx8
   have KT8 : Blk w8 w7.heap.size 47 #[.slice ad0 nd0 kd0, .slice ad1 nd1 kd1, .int .i64 0, .int .i64 0, .slice none 0 0, .slice none 0 0, .int .i64 0, .int .i64 0, .int .i64 0, .int .i64 0, .int .i64 0, .int .i64 0] := Blk.ext (Blk.cast (by exact blkT) (by first | rfl | simp)) hx8
   have Ol8 : OwnI BL 89 9 w8 (.slice a0 l.length c0) (flEntry l) := OwnI.ext1 (by exact ownR) hx8
   have Oq8 : OwnI BL 132 2 w8 (.slice av nv kv) (dues (jV l M).Open) := OwnI.ext1 (by exact ownR) hx8
   clear hx8
   clear CV7 FV7 LV7
   have CV8 := KV8.cell; have FV8 := KV8.frozen; have LV8 := KV8.lt
   have CT8 := KT8.cell; have FT8 := KT8.frozen; have LT8 := KT8.lt
   obtain ⟨sK, hsK⟩ : ∃ s, s = fldD (⟨0, 0, [], [], ⟨0, 0, 0⟩⟩ : DState) (l.take M) := ⟨_, rfl⟩
   rw [← hsK] at gs
   have HsK := Lib.hid hsK; clear hsK
   obtain ⟨t2, t3, rfl, h2, h3⟩ := gs
   obtain ⟨ap, np, kp, rfl⟩ := h2.shape
   obtain ⟨aj, nj, kj, rfl⟩ := h3.shape
   replace gD := IsDisk.monoQ (B' := BL) gD (by first | omega | (simp only [szA]; omega))
   replace h2 := OwnI.mono (B' := BL) h2 (by first | omega | (simp only [szA]; omega))
   replace h3 := OwnI.mono (B' := BL) h3 (by first | omega | (simp only [szA]; omega))
   have hjV : jN sK = jV l M := by rw [HsK.out]; rfl
   have HJ := Lib.hid hjV; clear hjV
   go_wp2_with fail
   refine (sJobsOf_k (s := ⟨D0, sK, 0, 0, 0⟩) ⟨_, _, _, _, rfl, (RdDisk.get (show IsDisk BL _ (.agg #[.slice ad0 nd0 kd0, .slice ad1 nd1 kd1]) D0 from by exact diskR).rd).1, (RdDisk.get (show IsDisk BL _ (.agg #[.slice ad0 nd0 kd0, .slice ad1 nd1 kd1]) D0 from by exact diskR).rd).2, OwnI.ints (show OwnI BL 182 2 _ (.slice ap np kp) (flPair sK.Pairs) from by exact ownR), OwnI.ints (show OwnI BL 142 5 _ (.slice aj nj kj) (flJob sK.Jobs) from by exact ownR)⟩).mono ?_
   rintro e w9 ⟨_, rfl, hx9, FJ, gj0⟩
   have hz9 := hx9.size; (try simp only [szA] at hz9)
   have E9 : Upd w w9 [g] := Upd.ext (by exact updT) hx9
   have hc9 : Die B w9 g := Die.ext (by exact dieT) hx9
   have KV9 : Blk w9 VA 34 #[.int .i64 (jV l M).Index, .int .i64 (jV l M).Time, .int .i64 (jV l M).Holder, .int .i64 (jV l M).Epoch, .int .i64 (jV l M).Until, .slice av nv kv] := Blk.ext (Blk.cast (by exact blkT) (by first | rfl | simp)) hx9
   have KT9 : Blk w9 w7.heap.size 47 #[.slice ad0 nd0 kd0, .slice ad1 nd1 kd1, .int .i64 sK.Index, .int .i64 sK.Time, .slice ap np kp, .slice aj nj kj, .int .i64 sK.Lease.Holder, .int .i64 sK.Lease.Epoch, .int .i64 sK.Lease.Until, .int .i64 0, .int .i64 0, .int .i64 0] := Blk.ext (Blk.cast (by exact blkT) (by first | rfl | simp)) hx9
   have Ol9 : OwnI BL 89 9 w9 (.slice a0 l.length c0) (flEntry l) := OwnI.ext1 (by exact ownR) hx9
   have Oq9 : OwnI BL 132 2 w9 (.slice av nv kv) (dues (jV l M).Open) := OwnI.ext1 (by exact ownR) hx9
   clear hx9
   clear CV8 FV8 LV8 CT8 FT8 LT8
   have CV9 := KV9.cell; have FV9 := KV9.frozen; have LV9 := KV9.lt
   have CT9 := KT9.cell; have FT9 := KT9.frozen; have LT9 := KT9.lt
   rw [show joD (⟨D0, sK, 0, 0, 0⟩ : DStore) = jV l M from by rw [← HJ.out]; unfold jN; rw [← HS0.out]] at gj0
   have gj := gj0; clear gj0
   obtain ⟨t5, rfl, gq, -⟩ := gj
   obtain ⟨ay, ny, ky, rfl⟩ := gq.shape
   have hn1 := dues_size gq; have hn2 := dues_size Oq9
   have e1 : ((jV l M).Time == (jV l M).Time) = true := by simp
   have e2 : ((jV l M).Holder == (jV l M).Holder) = true := by simp
   have hn3 : nv = ny := by omega
   subst hn3
   clear hn1 hn2
   have e3 : ((nv : Int) == (nv : Int)) = true := by simp
   go_wp2_with fail
   go_ret
   exact ⟨by first | rfl | (simp [*]; done), Upd.toExt (g := g) (by exact updT) hgw⟩

end Go.Proofs.Ythihnangjghloaa

-- The statement FnViewLatest: for every input the law returns true.
namespace Go.Proofs.Ythihnangjghloaa.fnViewLatest
open Go.ChangeShapes Go.WideShapes Go.ChangeAt Go.RowKit Go.G8
open Go.Proofs.Ythihnangjghloaa.facts (b2)

set_option maxRecDepth 100000 in
theorem lifted (os : Os) (started : os.Started) (H : Type) (enc : TypeId × Value → H) :
  ReturnsInHanded {} Try.checked os 3 .any (Rows.fnViewLatestSpec.pre6 enc Try.prog Try.f3 Rows.fnViewLatestRow.domain false) (Rows.fnViewLatestSpec.post enc Try.prog Try.f3 false true false false) := by
 refine returnsInHanded_of_change (C := Try.checked) own started (by kernel_rfl) Try.func3
  (ChangeSpec.witness6 (enc := enc) (C := Try.checked) false ⟨#[], #[.slice none 0 0], []⟩ 8 (by kernel_rfl) (by kernel_rfl) (by kernel_rfl) (by kernel_rfl)) ?_
 intro W base args ds gs before hval0 hW _ _
 have hval : ∀ (j : Nat) t v, Try.f3.params[j]? = some t → args[j]? = some v → Value.okWide Try.prog W .any base t v := hval0
 have hW' := hW
 obtain ⟨p, q, hA0, hV, rfl, hfz, hnd⟩ := hW
 have hA : DataW.TrodAll enc Try.prog W 0 (fun _ => true) true Try.f3.params.toList args.toList ds p := hA0
 rw [Try.params3] at hA hval
 obtain ⟨v0, vs0, d0, ds0, p0, q0, hargs, rfl, rfl, h0, r0⟩ := trodAll_cons hA
 obtain ⟨rfl, rfl, rfl⟩ := trodAll_nil r0
 obtain rfl : args = #[v0] := by cases args; simp_all
 obtain ⟨rfl, rfl⟩ := trodVars_none hV
 have k0 := h0
 have lt0 : ∀ x ∈ p0, x.block < W.heap.size := by obtain ⟨m, hm⟩ := k0; exact DataW.trod_lt m _ _ _ hm
 obtain ⟨sa0, sn0, sc0, rfl⟩ := okWide_slice Try.underlying22 (hval 0 22 v0 rfl rfl)
 obtain ⟨m0, hm0⟩ := h0
 obtain ⟨s0, e0, g0⟩ := rd_Bytes hm0
 simp [Value.cells] at e0
 subst e0
 clear hA0 hval0
 refine (law_ViewLatest W _ g0).mono fun e W' ⟨he, bel0⟩ => ?_
 have bel : Below W.heap.size W W' := bel0
 subst he
 exact ⟨_, rfl, _, _, _, [], _, [], hW', trodAll_mk1 (shut_bool Try.underlying4 _), (trodAll_cons_mk (Below.trod laidOut (by kernel_rfl) (of_decide_eq_true (by kernel_rfl)) k0 bel lt0) trodAll_mk0), rfl, bel.frame _, fun h => by cases h⟩

theorem k0 : (Rows.fnViewLatestRow.wf (OpenSpec.ofChange Rows.fnViewLatestSpec)) = true := by kernel_rfl
theorem k1 : (laidOutB Try.checked.prog) = true := facts.k1
theorem k2 : (mapsRowed Try.checked.prog) = true := facts.k2
theorem k3 : (Try.f3.params.all (Try.checked.prog.readableRec ·)) = true := by kernel_rfl
theorem k4 : (namedTie Try.checked.prog Rows.fnViewLatestRow.named Rows.fnViewLatestSpec.vars) = true := by kernel_rfl
theorem k5 : ((Rows.fnViewLatestRow.stops == [])) = true := by kernel_rfl
theorem k6 : ((Try.checked.prog.stops == [])) = true := facts.k6
theorem k7 : ((Rows.fnViewLatestRow.knobs == [])) = true := by kernel_rfl
theorem k8 : ((Try.checked.prog.stopKnobs == [])) = true := facts.k8
theorem k9 : ((Rows.fnViewLatestRow.inPlace == Try.checked.prog.inPlace 3)) = true := by kernel_rfl
theorem k10 : ((Rows.fnViewLatestRow.unfollowed == Try.checked.prog.unfollowed 3)) = true := by kernel_rfl
theorem k11 : ((Rows.fnViewLatestRow.recurses == Try.checked.prog.recurses 3)) = true := by kernel_rfl
theorem k12 : ((Rows.fnViewLatestRow.named == Try.checked.prog.varsNamed 3)) = true := by kernel_rfl
theorem k13 : ((Rows.fnViewLatestRow.maps == (Try.f3.params.toList ++ Rows.fnViewLatestSpec.plain.varTypes Try.checked.prog).any (Try.checked.prog.mapsRec ·))) = true := by kernel_rfl
theorem k14 : ((Rows.fnViewLatestRow.ifaces == (Try.f3.params.toList ++ Rows.fnViewLatestSpec.plain.varTypes Try.checked.prog).any (Try.checked.prog.ifacesRec ·))) = true := by kernel_rfl
theorem k15 : ((Rows.fnViewLatestRow.mapsOut == Try.checked.prog.mapsAmong Try.f3.resultTypes.toList)) = true := by kernel_rfl
theorem k16 : ((Rows.fnViewLatestRow.loops == (Try.f3.params.toList ++ Rows.fnViewLatestSpec.plain.varTypes Try.checked.prog).any (Try.checked.prog.loopsFrom ·))) = true := by kernel_rfl
theorem k17 : ((Rows.fnViewLatestRow.wideKeys == (Try.f3.params.toList ++ Rows.fnViewLatestSpec.plain.varTypes Try.checked.prog ++ Try.f3.resultTypes.toList).any (Try.checked.prog.wideKeysFrom ·))) = true := by kernel_rfl
theorem k18 : (Rows.fnViewLatestSpec.vars.all (Try.checked.prog.varReadable ·)) = true := by kernel_rfl
theorem k19 : (Try.f3.resultTypes.all (fun t => Try.checked.prog.readableRec t && decide (t < Try.checked.prog.types.size))) = true := by kernel_rfl
theorem k20 : ((Rows.fnViewLatestRow.ifacesOut == Try.f3.resultTypes.toList.any (Try.checked.prog.ifacesRec ·))) = true := by kernel_rfl
theorem k21 : ((Rows.fnViewLatestRow.loopsOut == Try.f3.resultTypes.toList.any (Try.checked.prog.loopsFrom ·))) = true := by kernel_rfl
theorem k22 : ((Rows.fnViewLatestRow.plainKeys == Try.checked.prog.plainKeys)) = true := facts.k22
theorem k23 : (Rows.fnViewLatestRow.shortTexts.isNone) = true := by kernel_rfl
theorem k24 : (Try.checked.prog.stopsHeard) = true := facts.k24
theorem k25 : (Try.checked.prog.mayEnter) = true := facts.k25
theorem k26 : ((Rows.fnViewLatestRow.lifted == Try.checked.prog.liftsFinal)) = true := facts.k26
theorem k27 : ((Try.checked.prog.make == some Rows.fnViewLatestRow.make)) = true := facts.k27
theorem k28 : ((Rows.fnViewLatestRow.kinds == (if Rows.fnViewLatestRow.domain.isEmpty then [] else Try.f3.params.toList.map fun t => match Try.checked.prog.underlying t with | some (.int k) => some k | _ => none))) = true := by kernel_rfl
theorem k29 : ((Rows.fnViewLatestRow.pinned == Rows.fnViewLatestRow.pinnedBy)) = true := by kernel_rfl
theorem k30 : ((Rows.fnViewLatestRow.veiled == (Try.f3.params.toList ++ Rows.fnViewLatestSpec.plain.varTypes Try.checked.prog ++ Try.f3.resultTypes.toList).any (Try.checked.prog.veiledRec ·))) = true := by kernel_rfl
theorem k31 : (Rows.fnViewLatestRow.veiledFits Try.checked.prog Try.f3.params.toList (Try.f3.params.toList ++ Rows.fnViewLatestSpec.plain.varTypes Try.checked.prog ++ Try.f3.resultTypes.toList)) = true := by kernel_rfl
set_option maxRecDepth 100000 in
theorem closed : joinedFacts Try.checked.prog 3 Try.f3 Rows.fnViewLatestSpec Rows.fnViewLatestRow = true := by
 unfold joinedFacts
 exact (b2 (b2 (b2 (b2 (b2 (b2 (b2 (b2 (b2 (b2 (b2 (b2 (b2 (b2 (b2 (b2 (b2 (b2 (b2 (b2 (b2 (b2 (b2 (b2 (b2 (b2 (b2 (b2 (b2 (b2 (b2 k0 k1) k2) k3) k4) k5) k6) k7) k8) k9) k10) k11) k12) k13) k14) k15) k16) k17) k18) k19) k20) k21) k22) k23) k24) k25) k26) k27) k28) k29) k30) k31)

theorem proved : Rows.FnViewLatestSaid :=
 OpenClaim.holds_of_wide 3 Try.f3 rfl rfl rfl rfl rfl rfl rfl ⟨rfl, rfl, rfl, rfl, rfl⟩ rfl rfl rfl rfl rfl (by as_aux_lemma => kernel_rfl) Try.func3 closed
  (of_decide_eq_true (by as_aux_lemma => kernel_rfl)) (by as_aux_lemma => (unfold Func.isWrapper; rw [if_neg (of_decide_eq_false (by kernel_rfl))]; exact ⟨rfl, rfl⟩))
  (fun os started H enc _ => lifted os started H enc)
end Go.Proofs.Ythihnangjghloaa.fnViewLatest
