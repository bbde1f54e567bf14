/- The statement FnSchedAck: the walk and the row. -/
import Derived.Test.YtfhaooaajpopmaaGreatMa
import Derived.Test.YtfhaooaajpopmaaGreatMq
import Derived.Test.YtfhaooaajpopmaaGreatNe
import Derived.Test.YtfhaooaajpopmaaGreatMx
import Derived.Test.YtfhaooaajpopmaaGreatOe
import Derived.Test.YtfhaooaajpopmaaGreatMw
import Derived.Test.YtfhaooaajpopmaaGreatOg
import Derived.Test.YtfhaooaajpopmaaGreatMc
set_option linter.unusedSimpArgs false
set_option linter.unusedVariables false
set_option maxHeartbeats 400000000
set_option maxRecDepth 100000
namespace Go.Proofs.YtfhaooaajpopmaaGreat
open Go.RowKit Go.G8
theorem ackH_bad {s : DSched} {a0 a1 a2 a3 : Int} (h : schedOkS s = false) : schedOkS (ackH s a0 a1 a2 a3) = false := by
 unfold ackH ackHeard
 rw [h]
 exact zSched_no
theorem fallenSched_k {w : World} {v : Value} {s : DSched} (h : RdSched w v s) : Calls Tryz.prog 11 #[v] w (Ret w fun r w' => RdSched w' r (fallenSched s)) := by
 obtain ⟨t2, rfl, h2⟩ := h
 refine (fallenSched_c w _ _ _ _ _ _ _ t2 _ _ _ _ _ _ _ _ h2).mono ?_
 rintro e w' ⟨_, rfl, hx, t7, rfl, g⟩
 exact ⟨_, rfl, hx, _, rfl, g.ints⟩
theorem RdSched.list {w : World} {v : Value} {s : DSched} (h : RdSched w v s) : ∃ L : List Value, v = .agg L.toArray ∧ L.length = 15 ∧ (∀ x, x ∈ L → x.oneCell' = true) ∧ L[0]? = some (.int .i64 s.Id) ∧ L[1]? = some (.int .i64 s.Seq) ∧ L[8]? = some (.bool s.Busy) ∧ L[9]? = some (.int .i64 s.Op.Kind) ∧ L[10]? = some (.int .i64 s.Op.A) ∧ L[11]? = some (.int .i64 s.Op.B) ∧ L[12]? = some (.int .i64 s.Op.C) ∧ L[13]? = some (.int .i64 s.Op.D) ∧ L[14]? = some (.int .i64 s.Index) := by
 obtain ⟨a7, n7, k7, rfl⟩ := h.shape
 refine ⟨_, rfl, rfl, ?_, rfl, rfl, rfl, rfl, rfl, rfl, rfl, rfl, rfl⟩
 intro x hx
 simp only [List.mem_cons, List.not_mem_nil, or_false] at hx
 rcases hx with rfl | rfl | rfl | rfl | rfl | rfl | rfl | rfl | rfl | rfl | rfl | rfl | rfl | rfl | rfl <;> rfl
theorem Bk.one {w : World} {g : Nat} {t : TypeId} {L : List Value} {i : Nat} {v : Value} (h : Bk w g t L) (e : L[i]? = some v) : w.cell? ⟨g, i, none⟩ = some v := by
 have := Blk.cell h i
 rw [this, List.getElem?_toArray, e]
theorem Bk.all {w : World} {g : Nat} {t : TypeId} {L : List Value} (h : Bk w g t L) : w.rangeAt g 0 L := Bk.range (A := []) (C := []) (Bk.cast h (by simp)) rfl
theorem Bk.nil2 {w : World} {g : Nat} {t : TypeId} {L : List Value} (h : Bk w g t L) : Bk w g t ([] ++ (L ++ [])) := Bk.cast h (by simp)
theorem Bk.nil3 {w : World} {g : Nat} {t : TypeId} {L : List Value} (h : Bk w g t ([] ++ (L ++ []))) : Bk w g t L := Bk.cast h (by simp)
theorem Ext.rowNew {w W V : World} {b : Nat} {row : Array Value} (e : V = W.setRow b row) (h : Ext w W) (hb : w.heap.size ≤ b) : Ext w V := e ▸ Ext.setRow h hb row
theorem Bk.rowF {W V : World} {b c : Nat} {t : TypeId} {L : List Value} {row : Array Value} (e : V = W.setRow c row) (h : Bk W b t L) (hn : b ≠ c) : Bk V b t L := e ▸ Bk.rowFar h hn row
theorem law_SchedAck (w : World) (v : Value) (h : Bytes w v) : Calls Tryz.prog 3 #[v] w (RetV w (.bool true)) := by
 obtain ⟨bs, hbs, hbo⟩ := h
 obtain ⟨a, n, k, rfl⟩ := hbs.shape
 have HB : Bytes w (.slice a n k) := ⟨bs, hbs, hbo⟩
 clear hbs hbo
 have E0 : Ext w w := Ext.refl _
 go_enter Tryz.func3, Tryz.ntmps3
 go_wp2_with fail
 refine (big_c _ a n k).mono ?_
 rintro e9 w9 ⟨rfl, rfl⟩
 by_cases hbig : (4096 : Int) < (n : Int)
 ·
  go_wp2_with fail
  go_ret
  exact ⟨rfl, by exact extT⟩
 go_wp2_with (fail)
 refine (drawAckHeard_c (HB.ext (by exact extT))).mono ?_
 rintro e w1 ⟨_, rfl, hx1, s, x, a0, a1, a2, a3, rfl, gs⟩
 have E1 : Ext w w1 := Ext.trans (by exact extT) hx1; have hz1 := hx1.size; (try simp only [World.size_alloc] at hz1)
 clear HB
 obtain ⟨CS, rfl, hCS, oneCS, s0, s1, s8, s9, sA, sB, sC, sD, sE⟩ := gs.list
 have HCS := Lib.hid (show CS[0]? = _ ∧ CS[1]? = _ ∧ CS[8]? = _ ∧ CS[9]? = _ ∧ CS[10]? = _ ∧ CS[11]? = _ ∧ CS[12]? = _ ∧ CS[13]? = _ ∧ CS[14]? = _ from ⟨s0, s1, s8, s9, sA, sB, sC, sD, sE⟩); clear s0 s1 s8 s9 sA sB sC sD sE
 obtain ⟨T, hT⟩ : ∃ T, T = ackH s a0 a1 a2 a3 := ⟨_, rfl⟩
 have HT := Lib.hid hT
 clear hT
 have gs9 := gs
 go_wp2_with (first | (refine wpList_store_part rfl 32 _ _ rfl (w1.heap.size) 0 (.agg CS.toArray) CS (by rfl) (by rfl) rfl 32 [] [Value.int .i64 0, Value.int .i64 0, Value.int .i64 0, Value.int .i64 0, Value.int .i64 0, Value.int .i64 0, Value.int .i64 0, Value.slice none 0 0, Value.bool false, Value.int .i64 0, Value.int .i64 0, Value.int .i64 0, Value.int .i64 0, Value.int .i64 0, Value.int .i64 0] [] (Bk.nil2 (Bk.alloc (Bk.new w1 32 [Value.int .i64 0, Value.int .i64 0, Value.int .i64 0, Value.int .i64 0, Value.int .i64 0, Value.int .i64 0, Value.int .i64 0, Value.slice none 0 0, Value.bool false, Value.int .i64 0, Value.int .i64 0, Value.int .i64 0, Value.int .i64 0, Value.int .i64 0, Value.int .i64 0]) _)) rfl (by rw [hCS]; rfl) (by rw [hCS]; kernel_rfl) oneCS ?_; intro V1 hV1 BS; have BS := Bk.nil3 BS; have BA0 : Bk V1 (w1.heap.size + 1) 34 [Value.int .i64 0, Value.int .i64 0, Value.int .i64 0, Value.int .i64 0] := Bk.rowF hV1 (Blk.new2 _ _ _ _) oM; have y1 : Ext w1 V1 := Ext.rowNew hV1 (by exact extT) (Nat.le_refl _); have zV1 : V1.heap.size = w1.heap.size + 2 := (by rw [hV1, size_setRow]; simp only [World.size_alloc]); have gs := gs.ext y1; clear hV1) | (refine wpList_store_part rfl 34 _ _ rfl (w1.heap.size + 1) 0 (.agg #[.int .i64 a0, .int .i64 a1, .int .i64 a2, .int .i64 a3]) [Value.int .i64 a0, Value.int .i64 a1, Value.int .i64 a2, Value.int .i64 a3] (by rfl) (by rfl) rfl 34 [] [Value.int .i64 0, Value.int .i64 0, Value.int .i64 0, Value.int .i64 0] [] (Bk.nil2 BA0) rfl rfl (by kernel_rfl) (by intro x hx; simp only [List.mem_cons, List.not_mem_nil, or_false] at hx; rcases hx with rfl | rfl | rfl | rfl <;> rfl) ?_; intro V2 hV2 BA; have BA := Bk.nil3 BA; have BS := Bk.rowF hV2 BS oM; have y2 : Ext w1 V2 := Ext.rowNew hV2 y1 oM; have zV2 : V2.heap.size = w1.heap.size + 2 := (by rw [hV2, size_setRow]; exact zV1); have gs := gs9.ext y2; clear hV2 BA0 y1 zV1; have CA := Blk.cell BA; have FA := Blk.frozen BA; have LA := Blk.lt BA) | (refine wpList_load_midG (by rfl) 32 _ rfl (w1.heap.size) 0 (by rfl) CS _ (Bk.all BS) Tryz.underlying32 rfl (by first | (rw [hCS]; kernel_rfl) | kernel_rfl) ?_))
 refine (sAckHeard_f (gs.ext (by exact extT)) a0 a1 a2 a3).mono ?_
 rintro e w2 ⟨_, rfl, hx2, FCW, gw0⟩
 have gs := gs.ext hx2; have BS := BS.ext hx2; have BA := BA.ext hx2
 have E2 : Ext w w2 := Ext.trans (by exact extT) hx2; have hz2 := hx2.size; (try simp only [World.size_alloc] at hz2)
 rw [← HT.out] at gw0
 have gw := gw0.rd; clear gw0
 obtain ⟨CW, rfl, hCW, oneCW, gw0, gw1, gw8, gw9, gwA, gwB, gwC, gwD, gwE⟩ := gw.list
 have HCW := Lib.hid (show CW[0]? = _ ∧ CW[1]? = _ ∧ CW[8]? = _ ∧ CW[9]? = _ ∧ CW[10]? = _ ∧ CW[11]? = _ ∧ CW[12]? = _ ∧ CW[13]? = _ ∧ CW[14]? = _ from ⟨gw0, gw1, gw8, gw9, gwA, gwB, gwC, gwD, gwE⟩); clear gw0 gw1 gw8 gw9 gwA gwB gwC gwD gwE
 clear CA FA LA; have CA := Blk.cell BA; have FA := Blk.frozen BA; have LA := Blk.lt BA
 go_wp2_with (first | (refine wpList_store_part rfl 32 _ _ rfl (w2.heap.size) 0 (.agg CW.toArray) CW (by rfl) (by rfl) rfl 32 [] [Value.int .i64 0, Value.int .i64 0, Value.int .i64 0, Value.int .i64 0, Value.int .i64 0, Value.int .i64 0, Value.int .i64 0, Value.slice none 0 0, Value.bool false, Value.int .i64 0, Value.int .i64 0, Value.int .i64 0, Value.int .i64 0, Value.int .i64 0, Value.int .i64 0] [] (Bk.nil2 (Bk.new w2 32 [Value.int .i64 0, Value.int .i64 0, Value.int .i64 0, Value.int .i64 0, Value.int .i64 0, Value.int .i64 0, Value.int .i64 0, Value.slice none 0 0, Value.bool false, Value.int .i64 0, Value.int .i64 0, Value.int .i64 0, Value.int .i64 0, Value.int .i64 0, Value.int .i64 0])) rfl (by rw [hCW]; rfl) (by rw [hCW]; kernel_rfl) oneCW ?_; intro V5 hV5 BW; have BW := Bk.nil3 BW; have yV5 : Ext w2 V5 := Ext.rowNew hV5 (by exact extT) (Nat.le_refl _); have gs := gs.ext yV5; have BS := BS.ext yV5; have BA := BA.ext yV5; have gw := gw.ext yV5; clear CA FA LA; have CA := Blk.cell BA; have FA := Blk.frozen BA; have LA := Blk.lt BA; clear hV5) | (refine wpList_load_midG (by rfl) 32 _ rfl (w1.heap.size) 0 (by rfl) CS _ (Bk.all BS) Tryz.underlying32 rfl (by first | (rw [hCS]; kernel_rfl) | kernel_rfl) ?_))
 refine (ackHeard_f (gs.ext (by exact extT)) a0 a1 a2 a3).mono ?_
 rintro e w3 ⟨_, rfl, hx3, FCN, gn0⟩
 have gs := gs.ext hx3; have BS := BS.ext hx3; have BA := BA.ext hx3; have gw := gw.ext hx3; have BW := BW.ext hx3
 have E3 : Ext w w3 := Ext.trans (by exact extT) hx3; have hz3 := hx3.size; (try simp only [World.size_alloc] at hz3)
 rw [← HT.out] at gn0
 have gn := gn0.rd; clear gn0
 obtain ⟨CN, rfl, hCN, oneCN, gn0, gn1, gn8, gn9, gnA, gnB, gnC, gnD, gnE⟩ := gn.list
 have HCN := Lib.hid (show CN[0]? = _ ∧ CN[1]? = _ ∧ CN[8]? = _ ∧ CN[9]? = _ ∧ CN[10]? = _ ∧ CN[11]? = _ ∧ CN[12]? = _ ∧ CN[13]? = _ ∧ CN[14]? = _ from ⟨gn0, gn1, gn8, gn9, gnA, gnB, gnC, gnD, gnE⟩); clear gn0 gn1 gn8 gn9 gnA gnB gnC gnD gnE
 clear CA FA LA; have CA := Blk.cell BA; have FA := Blk.frozen BA; have LA := Blk.lt BA
 go_wp2_with (first | (refine wpList_store_part rfl 32 _ _ rfl (w3.heap.size) 0 (.agg CN.toArray) CN (by rfl) (by rfl) rfl 32 [] [Value.int .i64 0, Value.int .i64 0, Value.int .i64 0, Value.int .i64 0, Value.int .i64 0, Value.int .i64 0, Value.int .i64 0, Value.slice none 0 0, Value.bool false, Value.int .i64 0, Value.int .i64 0, Value.int .i64 0, Value.int .i64 0, Value.int .i64 0, Value.int .i64 0] [] (Bk.nil2 (Bk.new w3 32 [Value.int .i64 0, Value.int .i64 0, Value.int .i64 0, Value.int .i64 0, Value.int .i64 0, Value.int .i64 0, Value.int .i64 0, Value.slice none 0 0, Value.bool false, Value.int .i64 0, Value.int .i64 0, Value.int .i64 0, Value.int .i64 0, Value.int .i64 0, Value.int .i64 0])) rfl (by rw [hCN]; rfl) (by rw [hCN]; kernel_rfl) oneCN ?_; intro V6 hV6 BN; have BN := Bk.nil3 BN; have yV6 : Ext w3 V6 := Ext.rowNew hV6 (by exact extT) (Nat.le_refl _); have gs := gs.ext yV6; have BS := BS.ext yV6; have BA := BA.ext yV6; have gw := gw.ext yV6; have BW := BW.ext yV6; have gn := gn.ext yV6; clear CA FA LA; have CA := Blk.cell BA; have FA := Blk.frozen BA; have LA := Blk.lt BA; clear hV6) | (refine wpList_load_midG (by rfl) 32 _ rfl (w1.heap.size) 0 (by rfl) CS _ (Bk.all BS) Tryz.underlying32 rfl (by first | (rw [hCS]; kernel_rfl) | kernel_rfl) ?_))
 refine (sSchedOk_k gs).mono ?_
 rintro e w4 ⟨rfl, hx4⟩
 have gs := gs.ext hx4; have BS := BS.ext hx4; have BA := BA.ext hx4; have gw := gw.ext hx4; have BW := BW.ext hx4; have gn := gn.ext hx4; have BN := BN.ext hx4
 have E4 : Ext w w4 := Ext.trans (by exact extT) hx4; have hz4 := hx4.size; (try simp only [World.size_alloc] at hz4)
 clear CA FA LA; have CA := Blk.cell BA; have FA := Blk.frozen BA; have LA := Blk.lt BA
 as_aux_lemma =>
  cases hb : schedOkS s
  ·
   have y1 : schedOkS T = false := by rw [HT.out]; exact ackH_bad hb
   clear hb
   go_wp2_with (first | (refine wpList_load_midG (by rfl) 32 _ rfl (w3.heap.size) 0 (by rfl) CN _ (Bk.all BN) Tryz.underlying32 rfl (by first | (rw [hCN]; kernel_rfl) | kernel_rfl) ?_))
   refine (schedOk_kS gn).mono ?_
   rintro e w5 ⟨rfl, hx5⟩
   have gs := gs.ext hx5; have BS := BS.ext hx5; have BA := BA.ext hx5; have gw := gw.ext hx5; have BW := BW.ext hx5; have gn := gn.ext hx5; have BN := BN.ext hx5
   have E5 : Ext w w5 := Ext.trans (by exact extT) hx5; have hz5 := hx5.size; (try simp only [World.size_alloc] at hz5)
   rw [y1]
   go_wp2_with (fail)
   go_ret
   exact ⟨by first | rfl | (simp [*]; done), by exact extT⟩
  have y1 : schedOkS T = true := by rw [HT.out]; exact ack_ok hb
  have Y1 := Lib.hid y1; have HOK := Lib.hid hb; clear y1 hb
  have n0 := Bk.one BN HCN.out.1; have n1 := Bk.one BN HCN.out.2.1; have n2 := Bk.one BN HCN.out.2.2.1; have n3 := Bk.one BN HCN.out.2.2.2.1; have n4 := Bk.one BN HCN.out.2.2.2.2.1; have n5 := Bk.one BN HCN.out.2.2.2.2.2.1; have n6 := Bk.one BN HCN.out.2.2.2.2.2.2.1; have n7 := Bk.one BN HCN.out.2.2.2.2.2.2.2.1; have n8 := Bk.one BN HCN.out.2.2.2.2.2.2.2.2
  have v0 := Bk.one BW HCW.out.1; have v1 := Bk.one BW HCW.out.2.1; have v2 := Bk.one BW HCW.out.2.2.1; have v3 := Bk.one BW HCW.out.2.2.2.1; have v4 := Bk.one BW HCW.out.2.2.2.2.1; have v5 := Bk.one BW HCW.out.2.2.2.2.2.1; have v6 := Bk.one BW HCW.out.2.2.2.2.2.2.1; have v7 := Bk.one BW HCW.out.2.2.2.2.2.2.2.1; have v8 := Bk.one BW HCW.out.2.2.2.2.2.2.2.2
  have e_S : (T.Seq != T.Seq) = false := by simp
  have e_B : (T.Busy != T.Busy) = false := by simp
  have e_I : (T.Index != T.Index) = false := by simp
  go_wp2_with (first | (refine wpList_load_midG (by rfl) 32 _ rfl (w3.heap.size) 0 (by rfl) CN _ (Bk.all BN) Tryz.underlying32 rfl (by first | (rw [hCN]; kernel_rfl) | kernel_rfl) ?_))
  refine (schedOk_kS gn).mono ?_
  rintro e w5 ⟨rfl, hx5⟩
  have gs := gs.ext hx5; have BS := BS.ext hx5; have BA := BA.ext hx5; have gw := gw.ext hx5; have BW := BW.ext hx5; have gn := gn.ext hx5; have BN := BN.ext hx5
  have E5 : Ext w w5 := Ext.trans (by exact extT) hx5; have hz5 := hx5.size; (try simp only [World.size_alloc] at hz5)
  rw [Y1.out]
  clear CA FA LA; have CA := Blk.cell BA; have FA := Blk.frozen BA; have LA := Blk.lt BA
  clear n0 v0 n1 v1 n2 v2 n3 v3 n4 v4 n5 v5 n6 v6 n7 v7 n8 v8
  as_aux_lemma =>
   go_wp2_with (fail)
   refine (sAckOk_c _ a0 a1 a2 a3).mono ?_
   rintro e w6 ⟨rfl, hx6⟩
   have gs := gs.ext hx6; have BS := BS.ext hx6; have BA := BA.ext hx6; have gw := gw.ext hx6; have BW := BW.ext hx6; have gn := gn.ext hx6; have BN := BN.ext hx6
   have E6 : Ext w w6 := Ext.trans (by exact extT) hx6; have hz6 := hx6.size; (try simp only [World.size_alloc] at hz6)
   clear CA FA LA; have CA := Blk.cell BA; have FA := Blk.frozen BA; have LA := Blk.lt BA
   as_aux_lemma =>
    cases ha : ackOk (⟨a0, a1, a2, a3⟩ : DAck)
    ·
     have YS : Hid (T = s) := Lib.hid (HT.out.trans (ack_ne HOK.out (.inl ha)))
     have y2 : (T.Seq == s.Seq) = true := by rw [YS.out]; simp
     have y3 : (T.Busy == s.Busy) = true := by rw [YS.out]; simp
     clear YS
     have n1 := Bk.one BN HCN.out.2.1; have n2 := Bk.one BN HCN.out.2.2.1
     have c0 := Bk.one BS HCS.out.1; have c1 := Bk.one BS HCS.out.2.1; have c2 := Bk.one BS HCS.out.2.2.1
     go_wp2_with (fail)
     go_ret
     exact ⟨by first | rfl | (simp [*]; done), by exact extT⟩
    by_cases hc : a0 = s.Id
    rotate_left
    ·
     have hc1 : (a0 == s.Id) = false := by simpa using hc
     have hc2 : (a0 != s.Id) = true := by simpa using hc
     have YS : Hid (T = s) := Lib.hid (HT.out.trans (ack_ne HOK.out (.inr hc)))
     clear hc
     have y2 : (T.Seq == s.Seq) = true := by rw [YS.out]; simp
     have y3 : (T.Busy == s.Busy) = true := by rw [YS.out]; simp
     clear YS
     have n1 := Bk.one BN HCN.out.2.1; have n2 := Bk.one BN HCN.out.2.2.1
     have c0 := Bk.one BS HCS.out.1; have c1 := Bk.one BS HCS.out.2.1; have c2 := Bk.one BS HCS.out.2.2.1
     go_wp2_with (fail)
     go_ret
     exact ⟨by first | rfl | (simp [*]; done), by exact extT⟩
    have hc1 : (a0 == s.Id) = true := by simpa using hc
    have hc2 : (a0 != s.Id) = false := by simpa using hc
    have y4 : decide (s.Seq ≤ T.Seq) = true := by rw [HT.out]; exact decide_eq_true (ack_low HOK.out ha hc)
    obtain ⟨V, hV⟩ : ∃ V, V = ackH (fallenSched s) s.Id a1 a2 a3 := ⟨_, rfl⟩
    have y5 : V.Seq = a3 ∧ V.Busy = false := by subst hc; rw [hV]; exact ack_fallen HOK.out ha rfl
    have y6 : (V.Seq == a3) = true := by rw [y5.1]; simp
    have HV := Lib.hid hV; have H7 := Lib.hid y5; clear hV y5
    clear hc ha
    have c0 := Bk.one BS HCS.out.1; have c1 := Bk.one BS HCS.out.2.1
    go_upto_region 12 with (fail)
    have c09 := c0
    go_cut [7] (fun s7 wx => ∃ gg CV, s7 = .pointer (some ⟨gg, 0, none⟩) ∧ Ext w6 wx ∧ Bk wx gg 32 CV ∧ Hid (CV[1]? = some (.int .i64 V.Seq) ∧ CV[8]? = some (.bool V.Busy)))
    case first =>
     refine wp_region_held_drew (S := fun w' => Ext w6 w') (by kernel_rfl) (by (try dsimp only); exact extT) (fun hHeld => ?_)
     refine wpAnyH_take (i := 0) (v := .agg CS.toArray) rfl (by kernel_rfl) (by kernel_rfl) (by kernel_rfl) (fun _ _ _ h => h) (yieldsIf_load_mid (by rfl) 32 _ rfl (w1.heap.size) 0 (by rfl) CS _ (fun _ hSw => rangeAt_ext (Bk.all BS) hSw) Tryz.underlying32 rfl (by rw [hCS]; kernel_rfl)) (by assumption) ?_
     (try simp only [redA, Act.put])
     refine wt 2 ?_
     (try simp only [redA, Act.put])
     refine wpAnyH_take (i := 3) (v := ?_) rfl (by kernel_rfl) (by kernel_rfl) (by kernel_rfl) (fun _ _ _ h => h) (Or.inl ⟨by rfl, ?_⟩) (by assumption) ?_
     rotate_left
     focus (intro w hSw; (try dsimp only at hSw); have hq := hSw.cell c0; go_simp <;> with_reducible rfl)
     (try simp only [redA, Act.put])
     refine wt 4 ?_
     (try simp only [redA, Act.put])
     refine wpAnyH_take (i := 5) (v := ?_) rfl (by kernel_rfl) (by kernel_rfl) (by kernel_rfl) (fun _ _ _ h => h) (Or.inl ⟨by rfl, ?_⟩) (by assumption) ?_
     rotate_left
     focus (intro w hSw; (try dsimp only at hSw); have hq := (Blk.ext BA hSw).cell; go_simp <;> with_reducible rfl)
     (try simp only [redA, Act.put])
     refine wt 6 ?_
     (try simp only [redA, Act.put])
     refine wpAnyH_take (i := 7) (v := ?_) rfl (by kernel_rfl) (by kernel_rfl) (by kernel_rfl) (fun _ _ _ h => h) (Or.inl ⟨by rfl, ?_⟩) (by assumption) ?_
     rotate_left
     focus (intro w hSw; (try dsimp only at hSw); have hq := (Blk.ext BA hSw).cell; go_simp <;> with_reducible rfl)
     (try simp only [redA, Act.put])
     refine wt 8 ?_
     (try simp only [redA, Act.put])
     refine wpAnyH_take (i := 9) (v := ?_) rfl (by kernel_rfl) (by kernel_rfl) (by kernel_rfl) (fun _ _ _ h => h) (Or.inl ⟨by rfl, ?_⟩) (by assumption) ?_
     rotate_left
     focus (intro w hSw; (try dsimp only at hSw); have hq := (Blk.ext BA hSw).cell; go_simp <;> with_reducible rfl)
     (try simp only [redA, Act.put])
     refine wt 10 ?_
     (try simp only [redA, Act.put])
     refine wr2 1 12 (fun Kz hKz => ?_) fun Kz hKz => ?_
     ·
      (try simp only [redA])
      go_simp
      go_at_call 11
      refine (fallenSched_k (gs.ext (by exact extT))).mono ?_
      rintro e z1 ⟨_, rfl, hxa, gf⟩
      have Z1 : Ext w6 z1 := Ext.trans (by exact extT) hxa; have zz1 := Z1.size
      refine hKz.out _ _ (by (try dsimp only); exact extT) (fun hHeld => ?_)
      clear hKz Kz
      (try simp only [redA, Act.put])
      refine wr2 11 12 (fun Kz hKz => ?_) fun Kz hKz => ?_
      ·
       (try simp only [redA])
       go_simp
       go_at_call 7
       refine (ackHeard_f (gf.ext (by exact extT)) s.Id a1 a2 a3).mono ?_
       rintro e z2 ⟨_, rfl, hxb, FV, gv0⟩
       rw [← HV.out] at gv0
       have gv := gv0.rd; clear gv0
       obtain ⟨CV, rfl, hCV, oneCV, v0, v1, v8, -⟩ := gv.list
       have HCV := Lib.hid (And.intro v1 v8); clear v0 v1 v8 gv
       have Z2 : Ext w6 z2 := Ext.trans (by exact extT) hxb; have zz2 := Z2.size
       refine hKz.out _ _ (by (try dsimp only); exact extT) (fun hHeld => ?_)
       clear hKz Kz
       (try simp only [redA, Act.put])
       refine wr1 12 fun Kz hKz => ?_
       (try simp only [redA])
       go_simp
       refine hKz.out _ _ (by (try dsimp only); exact extT) (fun hHeld => ?_)
       clear hKz Kz
       (try simp only [redA, Act.put])
       refine wr1 13 fun Kz hKz => ?_
       (try simp only [redA])
       rw [if_pos (by rfl)]; refine wp_store_part 32 _ _ (by rfl) (z2.heap.size) 0 (.agg CV.toArray) CV (by rfl) (by rfl) rfl 32 [] [Value.int .i64 0, Value.int .i64 0, Value.int .i64 0, Value.int .i64 0, Value.int .i64 0, Value.int .i64 0, Value.int .i64 0, Value.slice none 0 0, Value.bool false, Value.int .i64 0, Value.int .i64 0, Value.int .i64 0, Value.int .i64 0, Value.int .i64 0, Value.int .i64 0] [] (Bk.nil2 (show Bk _ (z2.heap.size) 32 [Value.int .i64 0, Value.int .i64 0, Value.int .i64 0, Value.int .i64 0, Value.int .i64 0, Value.int .i64 0, Value.int .i64 0, Value.slice none 0 0, Value.bool false, Value.int .i64 0, Value.int .i64 0, Value.int .i64 0, Value.int .i64 0, Value.int .i64 0, Value.int .i64 0] from by first | exact blkT | exact Blk.ext (by exact blkT) hxb | exact Blk.ext (Blk.ext (by exact blkT) hxa) hxb)) rfl (by rw [hCV]; rfl) (by rw [hCV]; kernel_rfl) oneCV ?_; intro V7 hV7 B7; have B7 := Bk.nil3 B7; have Y7 : Ext w6 V7 := Ext.rowNew hV7 (by exact extT) (by first | exact Nat.le_refl _ | omega)
       refine hKz.out _ _ (by (try dsimp only); exact extT) (fun hHeld => ?_)
       clear hKz Kz
       (try simp only [redA, Act.put])
       refine wpAnyH_done (by kernel_rfl) ?_ _
       go_wp2_with fail
       go_meet
       case rel => exact ⟨_, CV, rfl, Y7, B7, HCV⟩
      (try simp only [redA])
      go_simp
      refine hKz.out _ _ (by (try dsimp only); exact extT) (fun hHeld => ?_)
      clear hKz Kz
      (try simp only [redA, Act.put])
      refine wr1 11 fun Kz hKz => ?_
      (try simp only [redA])
      go_simp
      go_at_call 7
      refine (ackHeard_f (gf.ext (by exact extT)) s.Id a1 a2 a3).mono ?_
      rintro e z2 ⟨_, rfl, hxb, FV, gv0⟩
      rw [← HV.out] at gv0
      have gv := gv0.rd; clear gv0
      obtain ⟨CV, rfl, hCV, oneCV, v0, v1, v8, -⟩ := gv.list
      have HCV := Lib.hid (And.intro v1 v8); clear v0 v1 v8 gv
      have Z2 : Ext w6 z2 := Ext.trans (by exact extT) hxb; have zz2 := Z2.size
      refine hKz.out _ _ (by (try dsimp only); exact extT) (fun hHeld => ?_)
      clear hKz Kz
      (try simp only [redA, Act.put])
      refine wr1 13 fun Kz hKz => ?_
      (try simp only [redA])
      rw [if_pos (by rfl)]; refine wp_store_part 32 _ _ (by rfl) (z1.heap.size) 0 (.agg CV.toArray) CV (by rfl) (by rfl) rfl 32 [] [Value.int .i64 0, Value.int .i64 0, Value.int .i64 0, Value.int .i64 0, Value.int .i64 0, Value.int .i64 0, Value.int .i64 0, Value.slice none 0 0, Value.bool false, Value.int .i64 0, Value.int .i64 0, Value.int .i64 0, Value.int .i64 0, Value.int .i64 0, Value.int .i64 0] [] (Bk.nil2 (show Bk _ (z1.heap.size) 32 [Value.int .i64 0, Value.int .i64 0, Value.int .i64 0, Value.int .i64 0, Value.int .i64 0, Value.int .i64 0, Value.int .i64 0, Value.slice none 0 0, Value.bool false, Value.int .i64 0, Value.int .i64 0, Value.int .i64 0, Value.int .i64 0, Value.int .i64 0, Value.int .i64 0] from by first | exact blkT | exact Blk.ext (by exact blkT) hxb | exact Blk.ext (Blk.ext (by exact blkT) hxa) hxb)) rfl (by rw [hCV]; rfl) (by rw [hCV]; kernel_rfl) oneCV ?_; intro V7 hV7 B7; have B7 := Bk.nil3 B7; have Y7 : Ext w6 V7 := Ext.rowNew hV7 (by exact extT) (by first | exact Nat.le_refl _ | omega)
      refine hKz.out _ _ (by (try dsimp only); exact extT) (fun hHeld => ?_)
      clear hKz Kz
      (try simp only [redA, Act.put])
      refine wpAnyH_done (by kernel_rfl) ?_ _
      go_wp2_with fail
      go_meet
      case rel => exact ⟨_, CV, rfl, Y7, B7, HCV⟩
     (try simp only [redA])
     go_simp
     refine hKz.out _ _ (by (try dsimp only); exact extT) (fun hHeld => ?_)
     clear hKz Kz
     (try simp only [redA, Act.put])
     refine wr1 1 fun Kz hKz => ?_
     (try simp only [redA])
     go_simp
     go_at_call 11
     refine (fallenSched_k (gs.ext (by exact extT))).mono ?_
     rintro e z1 ⟨_, rfl, hxa, gf⟩
     have Z1 : Ext w6 z1 := Ext.trans (by exact extT) hxa; have zz1 := Z1.size
     refine hKz.out _ _ (by (try dsimp only); exact extT) (fun hHeld => ?_)
     clear hKz Kz
     (try simp only [redA, Act.put])
     refine wr1 11 fun Kz hKz => ?_
     (try simp only [redA])
     go_simp
     go_at_call 7
     refine (ackHeard_f (gf.ext (by exact extT)) s.Id a1 a2 a3).mono ?_
     rintro e z2 ⟨_, rfl, hxb, FV, gv0⟩
     rw [← HV.out] at gv0
     have gv := gv0.rd; clear gv0
     obtain ⟨CV, rfl, hCV, oneCV, v0, v1, v8, -⟩ := gv.list
     have HCV := Lib.hid (And.intro v1 v8); clear v0 v1 v8 gv
     have Z2 : Ext w6 z2 := Ext.trans (by exact extT) hxb; have zz2 := Z2.size
     refine hKz.out _ _ (by (try dsimp only); exact extT) (fun hHeld => ?_)
     clear hKz Kz
     (try simp only [redA, Act.put])
     refine wr1 13 fun Kz hKz => ?_
     (try simp only [redA])
     rw [if_pos (by rfl)]; refine wp_store_part 32 _ _ (by rfl) (w6.heap.size) 0 (.agg CV.toArray) CV (by rfl) (by rfl) rfl 32 [] [Value.int .i64 0, Value.int .i64 0, Value.int .i64 0, Value.int .i64 0, Value.int .i64 0, Value.int .i64 0, Value.int .i64 0, Value.slice none 0 0, Value.bool false, Value.int .i64 0, Value.int .i64 0, Value.int .i64 0, Value.int .i64 0, Value.int .i64 0, Value.int .i64 0] [] (Bk.nil2 (show Bk _ (w6.heap.size) 32 [Value.int .i64 0, Value.int .i64 0, Value.int .i64 0, Value.int .i64 0, Value.int .i64 0, Value.int .i64 0, Value.int .i64 0, Value.slice none 0 0, Value.bool false, Value.int .i64 0, Value.int .i64 0, Value.int .i64 0, Value.int .i64 0, Value.int .i64 0, Value.int .i64 0] from by first | exact blkT | exact Blk.ext (by exact blkT) hxb | exact Blk.ext (Blk.ext (by exact blkT) hxa) hxb)) rfl (by rw [hCV]; rfl) (by rw [hCV]; kernel_rfl) oneCV ?_; intro V7 hV7 B7; have B7 := Bk.nil3 B7; have Y7 : Ext w6 V7 := Ext.rowNew hV7 (by exact extT) (by first | exact Nat.le_refl _ | omega)
     refine hKz.out _ _ (by (try dsimp only); exact extT) (fun hHeld => ?_)
     clear hKz Kz
     (try simp only [redA, Act.put])
     refine wpAnyH_done (by kernel_rfl) ?_ _
     go_wp2_with fail
     go_meet
     case rel => exact ⟨_, CV, rfl, Y7, B7, HCV⟩
    revert wc; intro w12 hcut
    obtain ⟨gg, CV, rfl, hx12, B7, HCV⟩ := hcut
    as_aux_lemma =>
     have E12 : Ext w w12 := Ext.trans (by exact extT) hx12
     have gs := gs.ext hx12
     have BS := BS.ext hx12
     have BA := BA.ext hx12
     have gw := gw.ext hx12
     have BW := BW.ext hx12
     have gn := gn.ext hx12
     have BN := BN.ext hx12
     clear c0 c1 CA FA LA; have CA := Blk.cell BA; have FA := Blk.frozen BA; have LA := Blk.lt BA
     have c1 := Bk.one BS HCS.out.2.1
     have n1 := Bk.one BN HCN.out.2.1
     have x1 := Bk.one B7 HCV.out.1; have x2 := Bk.one B7 HCV.out.2
     rw [H7.out.2] at x2
     go_wp2_with (fail)
     go_ret
     exact ⟨by first | rfl | (simp [*]; done), by exact extT⟩
end Go.Proofs.YtfhaooaajpopmaaGreat
namespace Go.Proofs.YtfhaooaajpopmaaGreat.fnSchedAck
open Go.ChangeShapes Go.WideShapes Go.ChangeAt Go.RowKit Go.G8
open Go.Proofs.YtfhaooaajpopmaaGreat.facts (b2)
theorem lifted (os : Os) (started : os.Started) (H : Type) (enc : TypeId × Value → H) :
  ReturnsInHanded {} Tryz.checked os 3 .any (Rows.fnSchedAckSpec.pre6 enc Tryz.prog Tryz.f3 Rows.fnSchedAckRow.domain false) (Rows.fnSchedAckSpec.post enc Tryz.prog Tryz.f3 false true false false) := by
 refine returnsInHanded_of_change (C := Tryz.checked) own started (by kernel_rfl) Tryz.func3
  (ChangeSpec.witness6 (enc := enc) (C := Tryz.checked) false ⟨#[], #[.slice none 0 0], []⟩ 8 (by kernel_rfl) (by kernel_rfl) (by kernel_rfl) (by kernel_rfl)) ?_
 intro W base args ds gs before hval0 hW _ _
 have hval : ∀ (j : Nat) t v, Tryz.f3.params[j]? = some t → args[j]? = some v → Value.okWide Tryz.prog W .any base t v := hval0
 have hW' := hW
 obtain ⟨p, q, hA0, hV, rfl, hfz, hnd⟩ := hW
 have hA : DataW.TrodAll enc Tryz.prog W 0 (fun _ => true) true Tryz.f3.params.toList args.toList ds p := hA0
 rw [Tryz.params3] at hA hval
 obtain ⟨v0, vs0, d0, ds0, p0, q0, hargs, rfl, rfl, h0, r0⟩ := trodAll_cons hA
 obtain ⟨rfl, rfl, rfl⟩ := trodAll_nil r0
 obtain rfl : args = #[v0] := by cases args; simp_all
 obtain ⟨rfl, rfl⟩ := trodVars_none hV
 have k0 := h0
 have lt0 : ∀ x ∈ p0, x.block < W.heap.size := by obtain ⟨m, hm⟩ := k0; exact DataW.trod_lt m _ _ _ hm
 obtain ⟨sa0, sn0, sc0, rfl⟩ := okWide_slice Tryz.underlying22 (hval 0 22 v0 rfl rfl)
 obtain ⟨m0, hm0⟩ := h0
 obtain ⟨s0, e0, g0⟩ := rd_Bytes hm0
 simp [Value.cells] at e0
 subst e0
 clear hA0 hval0
 refine (law_SchedAck W _ g0).mono fun e W' ⟨he, bel0⟩ => ?_
 have bel : Below W.heap.size W W' := bel0
 subst he
 exact ⟨_, rfl, _, _, _, [], _, [], hW', trodAll_mk1 (shut_bool Tryz.underlying4 _), (trodAll_cons_mk (Below.trod laidOut (by kernel_rfl) (of_decide_eq_true (by kernel_rfl)) k0 bel lt0) trodAll_mk0), rfl, bel.frame _, fun h => by cases h⟩
theorem k0 : (Rows.fnSchedAckRow.wf (OpenSpec.ofChange Rows.fnSchedAckSpec)) = true := by kernel_rfl
theorem k1 : (laidOutB Tryz.checked.prog) = true := facts.k1
theorem k2 : (mapsRowed Tryz.checked.prog) = true := facts.k2
theorem k3 : (Tryz.f3.params.all (Tryz.checked.prog.readableRec ·)) = true := by kernel_rfl
theorem k4 : (namedTie Tryz.checked.prog Rows.fnSchedAckRow.named Rows.fnSchedAckSpec.vars) = true := by kernel_rfl
theorem k5 : ((Rows.fnSchedAckRow.stops == [])) = true := by kernel_rfl
theorem k6 : ((Tryz.checked.prog.stops == [])) = true := facts.k6
theorem k7 : ((Rows.fnSchedAckRow.knobs == [])) = true := by kernel_rfl
theorem k8 : ((Tryz.checked.prog.stopKnobs == [])) = true := facts.k8
theorem k9 : ((Rows.fnSchedAckRow.inPlace == Tryz.checked.prog.inPlace 3)) = true := by kernel_rfl
theorem k10 : ((Rows.fnSchedAckRow.unfollowed == Tryz.checked.prog.unfollowed 3)) = true := by kernel_rfl
theorem k11 : ((Rows.fnSchedAckRow.recurses == Tryz.checked.prog.recurses 3)) = true := by kernel_rfl
theorem k12 : ((Rows.fnSchedAckRow.named == Tryz.checked.prog.varsNamed 3)) = true := by kernel_rfl
theorem k13 : ((Rows.fnSchedAckRow.maps == (Tryz.f3.params.toList ++ Rows.fnSchedAckSpec.plain.varTypes Tryz.checked.prog).any (Tryz.checked.prog.mapsRec ·))) = true := by kernel_rfl
theorem k14 : ((Rows.fnSchedAckRow.ifaces == (Tryz.f3.params.toList ++ Rows.fnSchedAckSpec.plain.varTypes Tryz.checked.prog).any (Tryz.checked.prog.ifacesRec ·))) = true := by kernel_rfl
theorem k15 : ((Rows.fnSchedAckRow.mapsOut == Tryz.checked.prog.mapsAmong Tryz.f3.resultTypes.toList)) = true := by kernel_rfl
theorem k16 : ((Rows.fnSchedAckRow.loops == (Tryz.f3.params.toList ++ Rows.fnSchedAckSpec.plain.varTypes Tryz.checked.prog).any (Tryz.checked.prog.loopsFrom ·))) = true := by kernel_rfl
theorem k17 : ((Rows.fnSchedAckRow.wideKeys == (Tryz.f3.params.toList ++ Rows.fnSchedAckSpec.plain.varTypes Tryz.checked.prog ++ Tryz.f3.resultTypes.toList).any (Tryz.checked.prog.wideKeysFrom ·))) = true := by kernel_rfl
theorem k18 : (Rows.fnSchedAckSpec.vars.all (Tryz.checked.prog.varReadable ·)) = true := by kernel_rfl
theorem k19 : (Tryz.f3.resultTypes.all (fun t => Tryz.checked.prog.readableRec t && decide (t < Tryz.checked.prog.types.size))) = true := by kernel_rfl
theorem k20 : ((Rows.fnSchedAckRow.ifacesOut == Tryz.f3.resultTypes.toList.any (Tryz.checked.prog.ifacesRec ·))) = true := by kernel_rfl
theorem k21 : ((Rows.fnSchedAckRow.loopsOut == Tryz.f3.resultTypes.toList.any (Tryz.checked.prog.loopsFrom ·))) = true := by kernel_rfl
theorem k22 : ((Rows.fnSchedAckRow.plainKeys == Tryz.checked.prog.plainKeys)) = true := facts.k22
theorem k23 : (Rows.fnSchedAckRow.shortTexts.isNone) = true := by kernel_rfl
theorem k24 : (Tryz.checked.prog.stopsHeard) = true := facts.k24
theorem k25 : (Tryz.checked.prog.mayEnter) = true := facts.k25
theorem k26 : ((Rows.fnSchedAckRow.lifted == Tryz.checked.prog.liftsFinal)) = true := facts.k26
theorem k27 : ((Tryz.checked.prog.make == some Rows.fnSchedAckRow.make)) = true := facts.k27
theorem k28 : ((Rows.fnSchedAckRow.kinds == (if Rows.fnSchedAckRow.domain.isEmpty then [] else Tryz.f3.params.toList.map fun t => match Tryz.checked.prog.underlying t with | some (.int k) => some k | _ => none))) = true := by kernel_rfl
theorem k29 : ((Rows.fnSchedAckRow.pinned == Rows.fnSchedAckRow.pinnedBy)) = true := by kernel_rfl
theorem k30 : ((Rows.fnSchedAckRow.veiled == (Tryz.f3.params.toList ++ Rows.fnSchedAckSpec.plain.varTypes Tryz.checked.prog ++ Tryz.f3.resultTypes.toList).any (Tryz.checked.prog.veiledRec ·))) = true := by kernel_rfl
theorem k31 : (Rows.fnSchedAckRow.veiledFits Tryz.checked.prog Tryz.f3.params.toList (Tryz.f3.params.toList ++ Rows.fnSchedAckSpec.plain.varTypes Tryz.checked.prog ++ Tryz.f3.resultTypes.toList)) = true := by kernel_rfl
theorem closed : joinedFacts Tryz.checked.prog 3 Tryz.f3 Rows.fnSchedAckSpec Rows.fnSchedAckRow = true := by
 unfold joinedFacts
 exact (b2 (b2 (b2 (b2 (b2 (b2 (b2 (b2 (b2 (b2 (b2 (b2 (b2 (b2 (b2 (b2 (b2 (b2 (b2 (b2 (b2 (b2 (b2 (b2 (b2 (b2 (b2 (b2 (b2 (b2 (b2 k0 k1) k2) k3) k4) k5) k6) k7) k8) k9) k10) k11) k12) k13) k14) k15) k16) k17) k18) k19) k20) k21) k22) k23) k24) k25) k26) k27) k28) k29) k30) k31)
theorem proved : Rows.FnSchedAckSaid :=
 OpenClaim.holds_of_wide 3 Tryz.f3 rfl rfl rfl rfl rfl rfl rfl ⟨rfl, rfl, rfl, rfl, rfl⟩ rfl rfl rfl rfl rfl (by as_aux_lemma => kernel_rfl) Tryz.func3 closed
  (of_decide_eq_true (by as_aux_lemma => kernel_rfl)) (by as_aux_lemma => (unfold Func.isWrapper; rw [if_neg (of_decide_eq_false (by kernel_rfl))]; exact ⟨rfl, rfl⟩))
  (fun os started H enc _ => lifted os started H enc)
end Go.Proofs.YtfhaooaajpopmaaGreat.fnSchedAck
