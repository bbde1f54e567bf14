/- Contracts and plain laws: Q11a Sum Num Num2. -/
import Derived.Test.YtcnioiieiebodaaGreatMa
import Derived.Test.YtcnioiieiebodaaGreatMe
import Derived.Test.YtcnioiieiebodaaGreatMd
set_option linter.unusedSimpArgs false
set_option linter.unusedVariables false
-- Copies of states.
set_option linter.unusedSimpArgs false
set_option linter.unusedVariables false
namespace Go.Proofs.YtcnioiieiebodaaGreat
open Go.RowKit Go.G8

end Go.Proofs.YtcnioiieiebodaaGreat
namespace Go.G8
open Go.RowKit
def stateSmall (s : DState) : Prop := s.Pairs.length ≤ 1000000 ∧ s.Jobs.length ≤ 1000000
end Go.G8
namespace Go.Proofs.YtcnioiieiebodaaGreat
open Go.RowKit Go.G8
set_option maxHeartbeats 1600000 in
set_option maxRecDepth 100000 in
theorem l14Copy_c (w : World) (s0_0 : Value) (l0_0 : List DPair) (h0_0 : Ints 2 w s0_0 (flPair l0_0)) (e0 : l0_0.length ≤ 1000000) :
  Calls Tryz.prog 149 #[s0_0] w (Ret w fun r0 w' => OwnI w.heap.size 157 2 w' r0 (flPair l0_0)) := by
 obtain ⟨a0, n0, k0, rfl⟩ := h0_0.shape
 obtain ⟨i0, hi, hz0, hz1, hz2⟩ := info_parts info_Pair
 go_enter Tryz.func149, Tryz.ntmps149
 go_wp2_with (first | (at_builtin; refine wp_append_fresh rfl (.tmp 3) (.tmp 4) 58 rfl 157 i0 _ 2 16 Tryz.underlying58 hi hz0 hz1 hz2 rfl (by decide) w.heap.size (by simp) rfl (.slice a0 n0 k0) ((flPair l0_0).map (.int .i64)) rfl h0_0 (ints_oneCell _ _) 1000000 (by have := length_flPair l0_0; simp; omega) (by unfold maxLen; omega) (by omega) ?_; rotate_right; intro t5 w1 g5 hx1; obtain ⟨ta5, tn5, tc5, rfl⟩ := g5.sl.shape))
 go_ret
 exact ⟨_, rfl, hx1, g5⟩
set_option maxHeartbeats 1600000 in
set_option maxRecDepth 100000 in
theorem l15Copy_c (w : World) (s0_0 : Value) (l0_0 : List DJob) (h0_0 : Ints 5 w s0_0 (flJob l0_0)) (e0 : l0_0.length ≤ 1000000) :
  Calls Tryz.prog 150 #[s0_0] w (Ret w fun r0 w' => OwnI w.heap.size 142 5 w' r0 (flJob l0_0)) := by
 obtain ⟨a0, n0, k0, rfl⟩ := h0_0.shape
 obtain ⟨i0, hi, hz0, hz1, hz2⟩ := info_parts info_Job
 go_enter Tryz.func150, Tryz.ntmps150
 go_wp2_with (first | (at_builtin; refine wp_append_fresh rfl (.tmp 3) (.tmp 4) 59 rfl 142 i0 _ 5 40 Tryz.underlying59 hi hz0 hz1 hz2 rfl (by decide) w.heap.size (by simp) rfl (.slice a0 n0 k0) ((flJob l0_0).map (.int .i64)) rfl h0_0 (ints_oneCell _ _) 1000000 (by have := length_flJob l0_0; simp; omega) (by unfold maxLen; omega) (by omega) ?_; rotate_right; intro t5 w1 g5 hx1; obtain ⟨ta5, tn5, tc5, rfl⟩ := g5.sl.shape))
 go_ret
 exact ⟨_, rfl, hx1, g5⟩
set_option maxHeartbeats 4000000 in
set_option maxRecDepth 100000 in
theorem l17Copy_k {w : World} {v : Value} {s : DState} (h : RdState w v s) (e0 : stateSmall s) : Calls Tryz.prog 106 #[v] w (Ret w fun r w' => IsState w.heap.size w' r s) := by
 obtain ⟨e4, e5⟩ := e0
 have H := h
 obtain ⟨t2, t3, rfl, h2, h3⟩ := h
 obtain ⟨a2, n2, k2, rfl⟩ := h2.shape
 obtain ⟨a3, n3, k3, rfl⟩ := h3.shape
 obtain ⟨WP, hWP⟩ : ∃ WP, WP = w.alloc (.cells #[.int .i64 s.Index, .int .i64 s.Time, .slice a2 n2 k2, .slice a3 n3 k3, .int .i64 s.Lease.Holder, .int .i64 s.Lease.Epoch, .int .i64 s.Lease.Until] 63) := ⟨_, rfl⟩
 have hEP : Ext w WP := by rw [hWP]; exact (Ext.refl _).alloc _
 have hsP : WP.heap.size = w.heap.size + 1 := by rw [hWP]; simp
 have KP : Blk WP w.heap.size 63 #[.int .i64 s.Index, .int .i64 s.Time, .slice a2 n2 k2, .slice a3 n3 k3, .int .i64 s.Lease.Holder, .int .i64 s.Lease.Epoch, .int .i64 s.Lease.Until] := by rw [hWP]; exact Blk.new _ _ _
 obtain ⟨W0, hW0⟩ : ∃ W0, W0 = WP.alloc (.cells #[.int .i64 0, .int .i64 0, .slice none 0 0, .slice none 0 0, .int .i64 0, .int .i64 0, .int .i64 0] 63) := ⟨_, rfl⟩
 have hE0 : Ext WP W0 := by rw [hW0]; exact (Ext.refl _).alloc _
 have hs0 : W0.heap.size = w.heap.size + 1 + 1 := by rw [hW0]; simp [hsP]
 have KR : Blk W0 (w.heap.size + 1) 63 #[.int .i64 0, .int .i64 0, .slice none 0 0, .slice none 0 0, .int .i64 0, .int .i64 0, .int .i64 0] := by rw [hW0, ← hsP]; exact Blk.new _ _ _
 have CP0 := (KP.ext hE0).cell; have FP0 := (KP.ext hE0).frozen
 have CR0 := KR.cell; have FR0 := KR.frozen
 have H0 := Lib.hid hW0; have HP := Lib.hid hWP
 clear hW0 hWP
 go_enter Tryz.func106, Tryz.ntmps106
 go_wp2_with fail
 rw [← HP.out, ← H0.out]
 refine (l14Copy_c _ _ s.Pairs (h2.ext (hEP.trans hE0)) e4).mono ?_
 rintro e wa ⟨_, rfl, hxa, ga⟩
 obtain ⟨b2, m2, j2, rfl⟩ := ga.shape
 have KPa := (KP.ext hE0).ext hxa; have KRa := KR.ext hxa
 have CPa := KPa.cell; have FPa := KPa.frozen; have CRa := KRa.cell; have FRa := KRa.frozen
 have hEa : Ext w wa := (hEP.trans hE0).trans hxa
 have hza := hxa.size
 go_wp2_with fail
 refine (l15Copy_c _ _ s.Jobs (h3.ext (Ext.setCell hEa (Nat.le_refl _) _)) e5).mono ?_
 rintro e wb ⟨_, rfl, hxb, gb⟩
 obtain ⟨b3, m3, j3, rfl⟩ := gb.shape
 have KPb := (KPa.set_ 2 (.slice b2 m2 j2)).ext hxb
 (try simp only [List.setIfInBounds_toArray, List.set_cons_zero, List.set_cons_succ] at KPb)
 have KRb := (KRa.far (p := ⟨w.heap.size, 2, none⟩) (by simp) (.slice b2 m2 j2)).ext hxb
 have CPb := KPb.cell; have FPb := KPb.frozen; have CRb := KRb.cell; have FRb := KRb.frozen
 clear CPa FPa CRa FRa CP0 FP0 CR0 FR0
 go_wp2_with fail
 refine bodyPost_ret (by simp [results, Tryz.results106, go_sem, *]; try rfl) rfl ?_
 simp only [World.size_setCell] at gb
 have hEb := Lib.hid ((Ext.setCell hEa (Nat.le_refl _) _).trans hxb)
 clear CPb FPb CRb FRb
 refine ⟨_, rfl, by have hEc := hEb.out; clear hxb; (first | exact extT | omega), _, _, rfl, OwnI.mono (B := W0.heap.size) (OwnI.keep ga (by repeat' (first | (with_reducible exact Chg.refl _ _) | (with_reducible refine Chg.drewN ?_ _) | (with_reducible refine Chg.drew ?_) | (with_reducible refine Chg.alloc ?_ _) | (with_reducible refine Chg.setLow ?_ (by omega) _) | (with_reducible refine Chg.setNew ?_ (by omega) _) | (with_reducible refine Chg.setRow ?_ (by omega) _) | (with_reducible refine Chg.ext ?_ (by assumption)) | omega))) (by omega), OwnI.mono (B := W0.heap.size) (OwnI.keep (OwnI.mono gb hza) (by repeat' (first | (with_reducible exact Chg.refl _ _) | (with_reducible refine Chg.drewN ?_ _) | (with_reducible refine Chg.drew ?_) | (with_reducible refine Chg.alloc ?_ _) | (with_reducible refine Chg.setLow ?_ (by omega) _) | (with_reducible refine Chg.setNew ?_ (by omega) _) | (with_reducible refine Chg.setRow ?_ (by omega) _) | (with_reducible refine Chg.ext ?_ (by assumption)) | omega))) (by omega)⟩

end Go.Proofs.YtcnioiieiebodaaGreat

-- Checksums of rows.
set_option linter.unusedSimpArgs false
set_option linter.unusedVariables false
namespace Go.Proofs.YtcnioiieiebodaaGreat
open Go.RowKit Go.G8

end Go.Proofs.YtcnioiieiebodaaGreat
namespace Go.G8
open Go.RowKit
end Go.G8
namespace Go.Proofs.YtcnioiieiebodaaGreat
open Go.RowKit Go.G8
end Go.Proofs.YtcnioiieiebodaaGreat

-- Numbers written by a cursor.
set_option linter.unusedSimpArgs false
set_option linter.unusedVariables false
namespace Go.Proofs.YtcnioiieiebodaaGreat
open Go.RowKit Go.G8

theorem flPair_snoc (l : List DPair) (d : DPair) : flPair (l ++ [d]) = flPair l ++ [d.Key, d.Value] := by simp [flPair, DPair.ints]
theorem flJob_snoc (l : List DJob) (d : DJob) : flJob (l ++ [d]) = flJob l ++ [d.Id, d.Due, d.Key, d.Value, d.Fired] := by simp [flJob, DJob.ints]
end Go.Proofs.YtcnioiieiebodaaGreat
namespace Go.G8
open Go.RowKit
def stateNums (s : DState) : List Int := [s.Index, s.Time] ++ ((s.Pairs.length : Int) :: flPair s.Pairs) ++ ((s.Jobs.length : Int) :: flJob s.Jobs) ++ [s.Lease.Holder, s.Lease.Epoch, s.Lease.Until]
noncomputable def stateNumbers (s : DState) : List Int := if stateOk s then stateNums s else []
end Go.G8
namespace Go.Proofs.YtcnioiieiebodaaGreat
open Go.RowKit Go.G8
theorem stateOk_lens {s : DState} (h : stateOk s = true) : s.Pairs.length ≤ 10 ∧ s.Jobs.length ≤ 8 := by
 simp only [stateOk, Bool.and_eq_true] at h
 obtain ⟨_, _, hp, hj, _⟩ := h
 exact ⟨PairsOk.len (pairsOk_iff.1 hp), (jobsOk_iff.1 hj).1⟩

end Go.Proofs.YtcnioiieiebodaaGreat

-- The reference's rows of pairs, jobs and states.
set_option linter.unusedSimpArgs false
set_option linter.unusedVariables false
namespace Go.Proofs.YtcnioiieiebodaaGreat
open Go.RowKit Go.G8

end Go.Proofs.YtcnioiieiebodaaGreat
namespace Go.G8
open Go.RowKit
theorem step_append_own {P : Program} {w : World} {ops : Array Oper} {o : Oper} {a : Act} {K : Act → World → Prop} {Q : Exit → Act → World → Prop} {E : Prop} (hgd : o.guard = none) (s x : Operand) (t : TypeId)
  (ho : o.op = .call { callee := .builtin .append, args := #[s, x], argTypes := #[t, t] })
  (e : TypeId) (i : TypeInfo) (z : Value) (size bytes : Nat) (ht : P.underlying t = some (.slice e)) (hi : P.info? e = some i) (hz : i.zero = some z)
  (hsize : i.size = size) (hby : i.bytes = bytes) (hzs : z.cells.size = size) (hsz : 0 < size)
  (B : Nat) (v : Value) (cs : List Value) (hs : a.eval s = v) (hown : Own B e size w v cs) (ad : Addr) (m c : Nat) (news : List Value) (hx : a.eval x = .slice (some ad) m c) (hl : news.length = m * size) (hnews : ∀ j u, news[j]? = some u → w.cell? (ad.add j) = some u) (h1 : ∀ u ∈ news, u.oneCell' = true) (hm : 0 < m)
  (n : Nat) (hlen : cs.length + news.length ≤ n * size) (hn : n ≤ maxLen) (hbytes : n * bytes ≤ 140737488355328) (hbase : B ≤ w.heap.size)
  (h : ∀ v' w', Own B e size w' v' (cs ++ news) → w.grownBy w' v.ownBlock → K (a.put o.dst v') w') : if Region.wanted o (yielded ops a.tmps) = true then Oper.wp P o a w K Q else E := by
 obtain ⟨len, ho'⟩ := hown
 have hl0 : cs.length = len * size := ho'.1
 have hle : len + m ≤ n := by
  have : (len + m) * size ≤ n * size := by rw [Nat.add_mul]; omega
  exact Nat.le_of_mul_le_mul_right this hsz
 exact step_append_lies w hgd s x t ho B e i z size bytes ht hi hz hsize hby hzs hsz v len cs hs ho' ad m c news hx hl hnews h1 hm (Nat.le_trans hle hn) (Nat.le_trans (Nat.mul_le_mul_right _ hle) hbytes) hbase _ rfl (fun g cap w' h2 h3 _ _ => h _ w' ⟨_, h2⟩ h3)
end Go.G8
namespace Go.Proofs.YtcnioiieiebodaaGreat
open Go.RowKit Go.G8
set_option maxHeartbeats 4000000 in
set_option maxRecDepth 100000 in
theorem sPairsRow_c (w : World) (s : Value) (l : List DPair) (hs : Ints 2 w s (flPair l)) (hok : pairsOk l = true) (hlen : l.length ≤ 100) :
  Calls Tryz.prog 240 #[s] w (Ret w fun r w' => OwnI w.heap.size 2 1 w' r ((l.length : Int) :: flPair l)) := by
 obtain ⟨a, cap, rfl, hcap, hm, ha⟩ := hs.recs (f := DPair.ints) (fun _ => rfl) (by decide)
 have HA := Lib.hid ha; have HOK := Lib.hid hok
 clear ha hok
 unfold maxLen at hm
 obtain ⟨i0, hi, hz0, hz1, hz2⟩ := info_parts info_Int64
 go_enter Tryz.func240, Tryz.ntmps240
 go_wp2_with fail
 refine (sPairsOk_c _ _ _ hs).mono ?_
 rintro e w1 ⟨rfl, hx1⟩
 rw [HOK.out]
 have hown0 : OwnI w.heap.size 2 1 (w1.alloc (.cells #[.int .i64 (l.length : Int)] 2)) (.slice (some ⟨w1.heap.size, 0, none⟩) 1 1) ((l.length : Int) :: flPair (l.take 0)) := by
  refine Own.of_blk (cap := 1) (Blk.new w1 _ _) hx1.size (by simp) (by simp [flPair]) (Nat.le_refl _) (by decide) ?_
  intro j hj
  simp [flPair] at hj ⊢
 go_wp2_with fail
 go_loopw [3, 4] (fun t i wr => ∃ k : Nat, k ≤ l.length ∧ i = .int .i64 k ∧ Ext w wr ∧ OwnI w.heap.size 2 1 wr t ((l.length : Int) :: flPair (l.take k))) (fun _ i _ => l.length - (intOf i).toNat)
 case atStart => exact ⟨0, Nat.zero_le _, rfl, hx1.alloc _, hown0⟩
 case round =>
  obtain ⟨k, hk, rfl, he, hown⟩ := hrel
  obtain ⟨ta, tn, tc, rfl⟩ := hown.shape
  have hsz := he.size
  by_cases hlt : k < l.length
  ·
   obtain ⟨d, b1, q1, hd, rfl, hb1, c⟩ := HA.out k hlt
   have d0 := he.cell (c 0 _ (by decide) rfl)
   have e0 := c 0 _ (by decide) rfl
   have d1 := he.cell (c 1 _ (by decide) rfl)
   have e1 := c 1 _ (by decide) rfl
   (try simp only [Nat.add_zero] at d0 e0)
   have HD := Lib.hid hd
   have HO := Lib.hid hown
   have hlk : (flPair (l.take k)).length = k * 2 := by rw [length_flPair, List.length_take]; congr 1; omega
   clear hd c hown
   go_wp2_with fail
   go_region_held3 (fun w' => w'.cell? ⟨b1, q1 + k * 2, none⟩ = some (.int .i64 d.Key) ∧ w'.cell? ⟨b1, q1 + k * 2 + 1, none⟩ = some (.int .i64 d.Value)) (first | (refine ⟨Ext.cell (w := w) ?_ e0, Ext.cell (w := w) ?_ e1⟩ <;> ((first | exact extT | omega)); done)) (first | (refine step_append_own rfl (.tmp 18) (.tmp 29) 79 rfl 2 i0 _ 1 8 Tryz.underlying79 hi hz0 hz1 hz2 rfl (by decide) w.heap.size (.slice ta tn tc) _ rfl (Own.ext HO.out (by (first | exact extT | omega))) ⟨wr.heap.size, 0, none⟩ 2 2 ([d.Key, d.Value].map (.int .i64)) rfl (by simp) (fun j u hu => by rw [add_lit0, Nat.zero_add, ((Blk.new wr _ _).drew).cell]; simpa using hu) (ints_oneCell _ _) (by omega) 1000 (by simp [hlk]; omega) (by unfold maxLen; omega) (by omega) (by simp; omega) ?_; intro v3 wa hown1 hga; have hxa : Ext w wa := Ext.own (v := .slice ta tn tc) (he.trans (by (first | exact extT | omega))) (Own.ext HO.out (by (first | exact extT | omega))) (Nat.le_refl _) hga))
   all_goals
    have hown3 : OwnI w.heap.size 2 1 wa v3 (((l.length : Int) :: flPair (l.take k)) ++ [d.Key, d.Value]) := by simpa [OwnI] using hown1
    go_wp2_with fail
    go_roundw
    case rel => exact ⟨k + 1, by omega, by go_num, hxa, by rw [take_snoc HD.out, flPair_snoc]; simpa using hown3⟩
    case measure => simp [intOf]; omega
  ·
   obtain rfl : k = l.length := by omega
   rw [List.take_length] at hown
   go_wp2_with fail
   go_ret
   exact ⟨_, rfl, he, hown⟩
set_option maxHeartbeats 4000000 in
set_option maxRecDepth 100000 in
theorem sOrdersRow_c (w : World) (s : Value) (l : List DJob) (hs : Ints 5 w s (flJob l)) (hok : jobsOk l = true) (hlen : l.length ≤ 100) :
  Calls Tryz.prog 241 #[s] w (Ret w fun r w' => OwnI w.heap.size 2 1 w' r ((l.length : Int) :: flJob l)) := by
 obtain ⟨a, cap, rfl, hcap, hm, ha⟩ := hs.recs (f := DJob.ints) (fun _ => rfl) (by decide)
 have HA := Lib.hid ha; have HOK := Lib.hid hok
 clear ha hok
 unfold maxLen at hm
 obtain ⟨i0, hi, hz0, hz1, hz2⟩ := info_parts info_Int64
 go_enter Tryz.func241, Tryz.ntmps241
 go_wp2_with fail
 refine (sJobsOk_c _ _ _ hs).mono ?_
 rintro e w1 ⟨rfl, hx1⟩
 rw [HOK.out]
 have hown0 : OwnI w.heap.size 2 1 (w1.alloc (.cells #[.int .i64 (l.length : Int)] 2)) (.slice (some ⟨w1.heap.size, 0, none⟩) 1 1) ((l.length : Int) :: flJob (l.take 0)) := by
  refine Own.of_blk (cap := 1) (Blk.new w1 _ _) hx1.size (by simp) (by simp [flJob]) (Nat.le_refl _) (by decide) ?_
  intro j hj
  simp [flJob] at hj ⊢
 go_wp2_with fail
 go_loopw [3, 4] (fun t i wr => ∃ k : Nat, k ≤ l.length ∧ i = .int .i64 k ∧ Ext w wr ∧ OwnI w.heap.size 2 1 wr t ((l.length : Int) :: flJob (l.take k))) (fun _ i _ => l.length - (intOf i).toNat)
 case atStart => exact ⟨0, Nat.zero_le _, rfl, hx1.alloc _, hown0⟩
 case round =>
  obtain ⟨k, hk, rfl, he, hown⟩ := hrel
  obtain ⟨ta, tn, tc, rfl⟩ := hown.shape
  have hsz := he.size
  by_cases hlt : k < l.length
  ·
   obtain ⟨d, b1, q1, hd, rfl, hb1, c⟩ := HA.out k hlt
   have d0 := he.cell (c 0 _ (by decide) rfl)
   have e0 := c 0 _ (by decide) rfl
   have d1 := he.cell (c 1 _ (by decide) rfl)
   have e1 := c 1 _ (by decide) rfl
   have d2 := he.cell (c 2 _ (by decide) rfl)
   have e2 := c 2 _ (by decide) rfl
   have d3 := he.cell (c 3 _ (by decide) rfl)
   have e3 := c 3 _ (by decide) rfl
   have d4 := he.cell (c 4 _ (by decide) rfl)
   have e4 := c 4 _ (by decide) rfl
   (try simp only [Nat.add_zero] at d0 e0)
   have HD := Lib.hid hd
   have HO := Lib.hid hown
   have hlk : (flJob (l.take k)).length = k * 5 := by rw [length_flJob, List.length_take]; congr 1; omega
   clear hd c hown
   go_wp2_with fail
   go_region_held3 (fun w' => w'.cell? ⟨b1, q1 + k * 5, none⟩ = some (.int .i64 d.Id) ∧ w'.cell? ⟨b1, q1 + k * 5 + 1, none⟩ = some (.int .i64 d.Due) ∧ w'.cell? ⟨b1, q1 + k * 5 + 2, none⟩ = some (.int .i64 d.Key) ∧ w'.cell? ⟨b1, q1 + k * 5 + 3, none⟩ = some (.int .i64 d.Value) ∧ w'.cell? ⟨b1, q1 + k * 5 + 4, none⟩ = some (.int .i64 d.Fired)) (first | (refine ⟨Ext.cell (w := w) ?_ e0, Ext.cell (w := w) ?_ e1, Ext.cell (w := w) ?_ e2, Ext.cell (w := w) ?_ e3, Ext.cell (w := w) ?_ e4⟩ <;> ((first | exact extT | omega)); done)) (first | (refine step_append_own rfl (.tmp 18) (.tmp 44) 79 rfl 2 i0 _ 1 8 Tryz.underlying79 hi hz0 hz1 hz2 rfl (by decide) w.heap.size (.slice ta tn tc) _ rfl (Own.ext HO.out (by (first | exact extT | omega))) ⟨wr.heap.size, 0, none⟩ 5 5 ([d.Id, d.Due, d.Key, d.Value, d.Fired].map (.int .i64)) rfl (by simp) (fun j u hu => by rw [add_lit0, Nat.zero_add, ((Blk.new wr _ _).drew).cell]; simpa using hu) (ints_oneCell _ _) (by omega) 1000 (by simp [hlk]; omega) (by unfold maxLen; omega) (by omega) (by simp; omega) ?_; intro v3 wa hown1 hga; have hxa : Ext w wa := Ext.own (v := .slice ta tn tc) (he.trans (by (first | exact extT | omega))) (Own.ext HO.out (by (first | exact extT | omega))) (Nat.le_refl _) hga))
   all_goals
    have hown3 : OwnI w.heap.size 2 1 wa v3 (((l.length : Int) :: flJob (l.take k)) ++ [d.Id, d.Due, d.Key, d.Value, d.Fired]) := by simpa [OwnI] using hown1
    go_wp2_with fail
    go_roundw
    case rel => exact ⟨k + 1, by omega, by go_num, hxa, by rw [take_snoc HD.out, flJob_snoc]; simpa using hown3⟩
    case measure => simp [intOf]; omega
  ·
   obtain rfl : k = l.length := by omega
   rw [List.take_length] at hown
   go_wp2_with fail
   go_ret
   exact ⟨_, rfl, he, hown⟩

end Go.Proofs.YtcnioiieiebodaaGreat
