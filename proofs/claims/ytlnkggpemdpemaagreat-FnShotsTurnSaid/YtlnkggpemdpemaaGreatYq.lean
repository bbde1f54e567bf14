/- Contracts and plain laws: OM EM OB GB SM. -/
import Derived.Test.YtlnkggpemdpemaaGreatYa
import Derived.Test.YtlnkggpemdpemaaGreatYo
import Derived.Test.YtlnkggpemdpemaaGreatYj
import Derived.Test.YtlnkggpemdpemaaGreatYc
import Derived.Test.YtlnkggpemdpemaaGreatYe
import Derived.Test.YtlnkggpemdpemaaGreatYd
set_option linter.unusedSimpArgs false
set_option linter.unusedVariables false
set_option maxHeartbeats 8000000
set_option maxRecDepth 100000
namespace Go.G8
open Go.RowKit
open Go.Proofs.YtlnkggpemdpemaaGreat
open Go.Sort (SWO PermIn SortedIn)
def SortedD (l : List DDue) : Prop := l.Pairwise (fun a b => dueLess a b = true)
theorem SortedD.get {l : List DDue} (h : SortedD l) {i j : Nat} {a b : DDue} (hij : i < j) (ha : l[i]? = some a) (hb : l[j]? = some b) : dueLess a b = true := by
 obtain ⟨hi, rfl⟩ := List.getElem?_eq_some_iff.1 ha
 obtain ⟨hj, rfl⟩ := List.getElem?_eq_some_iff.1 hb
 exact List.pairwise_iff_getElem.1 h i j hi hj hij
theorem stepS_at {s : DState} {e : DEntry} : (stepS s e).Index = e.Index ∧ (stepS s e).Time = e.Time := by
 unfold stepS
 repeat' split
 all_goals exact ⟨rfl, rfl⟩
end Go.G8
namespace Go.Proofs.YtlnkggpemdpemaaGreat
open Go.RowKit Go.G8
open Go.ChangeShapes Go.WideShapes Go.ChangeAt Go.RowKit Go.G8
section
variable {H : Type} {enc : TypeId × Value → H} {W : World} {base : Nat} {sp : Nat → Bool} {held : Bool}
theorem c_uint8 : Tryz.prog.cellsOf 5 = 1 := by kernel_rfl
theorem rd_Bytes {fuel : Nat} {cs : List Value} {x : DataW H × List MemPlace} (h : DataW.trod enc Tryz.prog W base sp held fuel 22 cs = some x) : ∃ s : Value, cs = [s] ∧ Bytes W s := by
 rcases Deep.open_slice1 Tryz.underlying22 c_uint8 h with ⟨rfl, _⟩ | ⟨a, len, cap, m, n, V, D, Pl, rfl, hb, hl, hm, hmm, _, hx⟩
 ·
  exact ⟨_, rfl, [], Sl.nil 1 W, by simp⟩
 have hlm : len ≤ m := by rw [hmm]; split <;> omega
 obtain ⟨l, hlen, hp⟩ := choose_list (p := fun i (y : Int) => (0 ≤ y ∧ y ≤ 255) ∧ W.cell? (a.add i) = some (.int .u8 y)) len (fun i hi => by
  obtain ⟨h1, h2⟩ := hx i oM
  obtain ⟨y, e, _, hw⟩ := DataW.trod_int Tryz.underlying5 h2
  injection e with e _
  subst_vars
  simp only [Lit.wf, Bool.and_eq_true, decide_eq_true_eq] at hw
  refine ⟨y, ⟨?_, ?_⟩, by rw [h1, e]⟩
  ·
   have := hw.1; simpa [IntKind.min, IntKind.signed] using this
  have := hw.2; simpa [IntKind.max, IntKind.signed, IntKind.bits] using this)
 obtain ⟨b, off, s⟩ := a
 refine ⟨_, rfl, l, ⟨some ⟨b, off, s⟩, len, cap, rfl, by simpa using hlen, hl, hm, (fun h => by cases h), fun b' off' sp' ha hpos => ?_⟩, fun y hy => ?_⟩
 ·
  injection ha with ha
  injection ha with e1 e2 e3
  subst e1; subst e2; subst e3
  have h0 := (hp 0 _ (List.getElem?_eq_getElem oM)).2
  have hs : s = none := by
   have e0 : (⟨b, off, s⟩ : Addr).add 0 = ⟨b, off, s⟩ := by unfold Addr.add; simp
   rw [e0] at h0
   cases s with
   | none => rfl
   | some s => unfold World.cell? at h0; split at h0 <;> simp at h0
  subst hs
  have hcell : ∀ i u, (l.map (Value.int .u8))[i]? = some u → W.cell? ⟨b, off + i, none⟩ = some u := by
   intro i u hu
   rw [List.getElem?_map] at hu
   obtain ⟨y, hy, rfl⟩ := Option.map_eq_some_iff.1 hu
   have := (hp i y hy).2
   rw [add_lit0] at this
   exact this
  have hc0 := hcell 0 _ (by rw [List.getElem?_map, List.getElem?_eq_getElem oM]; rfl)
  exact ⟨rfl, World.block_lt_of_cell? W _ hc0, hcell⟩
 obtain ⟨i, hi⟩ := List.mem_iff_getElem?.1 hy
 exact (hp i y hi).1
end
theorem big_c (w : World) (a : Option Addr) (n k : Nat) : Calls Tryz.prog 5 #[.slice a n k] w (fun e w' => e = .returned (.bool (decide ((4096 : Int) < (n : Int)))) ∧ w = w') := by
 go_enter Tryz.func5, Tryz.ntmps5
 go_wp2_with fail
 go_ret
 exact ⟨by first | rfl | simp, rfl⟩
theorem sSamePairs_c {w : World} {v u : Value} {a b : List DPair} (ha : Ints 2 w v (flPair a)) (hb : Ints 2 w u (flPair b)) : Calls Tryz.prog 28 #[v, u] w (fun e w' => Ext w w' ∧ ∃ r : Bool, e = .returned (.bool r) ∧ (pairsOk a = true → pairsOk b = true → a = b → r = true)) := by
 have HA := Lib.hid ha; have HB := Lib.hid hb
 obtain ⟨s1, k1, rfl, hk1, hm1, hc1⟩ := ha.recs (f := DPair.ints) (fun _ => rfl) dC
 obtain ⟨s2, k2, rfl, hk2, hm2, hc2⟩ := hb.recs (f := DPair.ints) (fun _ => rfl) dC
 have H1 := Lib.hid hc1; have H2 := Lib.hid hc2
 clear hc1 hc2 ha hb
 unfold maxLen at hm1 hm2
 cases ho1 : pairsOk a
 ·
  go_enter Tryz.func28, Tryz.ntmps28
  go_wp2_with fail
  refine (sPairsOk_c _ _ _ HA.out).mono ?_
  rintro e w1 ⟨rfl, hx1⟩
  rw [ho1]
  go_wp2_with fail
  go_ret
  exact ⟨hx1, _, rfl, fun h => by cases h⟩
 cases ho2 : pairsOk b
 ·
  go_enter Tryz.func28, Tryz.ntmps28
  go_wp2_with fail
  refine (sPairsOk_c _ _ _ HA.out).mono ?_
  rintro e w1 ⟨rfl, hx1⟩
  rw [ho1]
  go_wp2_with fail
  refine (sPairsOk_c _ _ _ (HB.out.ext hx1)).mono ?_
  rintro e w2 ⟨rfl, hx2⟩
  rw [ho2]
  go_wp2_with fail
  go_ret
  exact ⟨hx1.trans hx2, _, rfl, fun _ h => by cases h⟩
 have hq : ∀ x y : Nat, (x : Int) ≠ (y : Int) → x ≠ y := fun x y h e => h (by rw [e])
 have HQ := Lib.hid hq
 clear hq
 by_cases hl : a.length = b.length
 rotate_left
 ·
  have hl2 : ¬ ((a.length : Int) = (b.length : Int)) := by omega
  have hl3 : ((a.length : Int) == (b.length : Int)) = false := by simpa using hl2
  have HL := Lib.hid hl
  clear hl
  go_enter Tryz.func28, Tryz.ntmps28
  go_wp2_with fail
  refine (sPairsOk_c _ _ _ HA.out).mono ?_
  rintro e w1 ⟨rfl, hx1⟩
  rw [ho1]
  go_wp2_with fail
  refine (sPairsOk_c _ _ _ (HB.out.ext hx1)).mono ?_
  rintro e w2 ⟨rfl, hx2⟩
  rw [ho2]
  go_wp2_with fail
  go_ret
  exact ⟨hx1.trans hx2, _, rfl, fun _ _ h => absurd (congrArg List.length h) HL.out⟩
 obtain ⟨L, hL⟩ : ∃ L, L = b.length := ⟨_, rfl⟩
 rw [← hL] at hl hk2 H2
 rw [← hL]
 have HLB := Lib.hid hL
 clear hL
 rw [hl] at hk1 H1 ⊢
 have HLA := Lib.hid hl
 clear hl
 go_enter Tryz.func28, Tryz.ntmps28
 go_wp2_with fail
 refine (sPairsOk_c _ (.slice s1 L k1) a (by rw [← HLA.out]; have := HA.out; rwa [HLA.out] at this ⊢)).mono ?_
 rintro e w1 ⟨rfl, hx1⟩
 rw [ho1]
 go_wp2_with fail
 refine (sPairsOk_c _ (.slice s2 L k2) b (by have := HB.out.ext hx1; rwa [← HLB.out] at this)).mono ?_
 rintro e w2 ⟨rfl, hx2⟩
 rw [ho2]
 have E2 := hx1.trans hx2
 clear hx1 hx2 ho1 ho2
 go_wp2_with fail
 go_loopw [5] (fun i wr => ∃ k : Nat, k ≤ L ∧ i = .int .i64 k ∧ Ext w wr ∧ Hid (∀ j, j < k → a[j]? = b[j]?)) (fun i _ => L - (intOf i).toNat)
 case atStart => exact ⟨0, Nat.zero_le _, rfl, E2, Lib.hid (fun i hi => by omega)⟩
 case round =>
  obtain ⟨k, hk, rfl, he, HO⟩ := hrel
  obtain ⟨wo, hw⟩ : ∃ wo, wo = wr := ⟨_, rfl⟩
  subst hw
  by_cases hlt : k < L
  ·
   have hltI : (k : Int) < (L : Int) := by omega
   obtain ⟨d, b1, o1, hd, rfl, hb1, hc⟩ := H1.out k (by first | exact hlt | (rw [HLA.out]; exact hlt))
   have x0 := he.cell (hc 0 _ dC rfl); have x1 := he.cell (hc 1 _ dC rfl)
   obtain ⟨d2, b2, o2, hd2, rfl, hb2, hc2⟩ := H2.out k hlt
   have y0 := he.cell (hc2 0 _ dC rfl); have y1 := he.cell (hc2 1 _ dC rfl)
   simp only [Nat.add_zero] at x0 y0
   have HD := Lib.hid hd; have HD2 := Lib.hid hd2
   clear hc hc2 hd hd2
   by_cases hq : d.Key = d2.Key ∧ d.Value = d2.Value
   ·
    have e : d = d2 := by cases d; cases d2; simp_all
    subst e
    clear hq
    go_wp2_with fail
    go_quiet (fail)
    go_wp2_with fail
    go_roundw
    case rel => exact ⟨k + 1, by omega, by go_num, xT, Lib.hid (fun j hj => by rcases Nat.lt_succ_iff_lt_or_eq.1 hj with h | h; exact HO.out j h; (subst h; rw [HD.out, HD2.out]))⟩
    case measure => simp [intOf]; omega
   have hne : ¬ (a = b) := fun h => hq (by have h1 := HD.out; have h2 := HD2.out; rw [h] at h1; rw [h1] at h2; injection h2 with h2; subst h2; simp)
   have HNE := Lib.hid hne
   clear hne
   by_cases e0 : d.Key = d2.Key
   rotate_left
   ·
    have f0 : (d.Key == d2.Key) = false := by simpa using e0
    go_wp2_with fail
    go_quiet (fail)
    go_wp2_with fail
    go_ret
    exact ⟨xT, _, rfl, fun _ _ h => absurd h HNE.out⟩
   rw [← e0] at y0
   by_cases e1 : d.Value = d2.Value
   rotate_left
   ·
    have f1 : (d.Value == d2.Value) = false := by simpa using e1
    go_wp2_with fail
    go_quiet (fail)
    go_wp2_with fail
    go_ret
    exact ⟨xT, _, rfl, fun _ _ h => absurd h HNE.out⟩
   rw [← e1] at y1
   exact absurd ⟨e0, e1⟩ hq
  obtain rfl : k = L := by omega
  go_wp2_with fail
  go_ret
  exact ⟨he, _, rfl, fun _ _ _ => rfl⟩
theorem sSameJobs_c {w : World} {v u : Value} {a b : List DJob} (ha : Ints 5 w v (flJob a)) (hb : Ints 5 w u (flJob b)) : Calls Tryz.prog 29 #[v, u] w (fun e w' => Ext w w' ∧ ∃ r : Bool, e = .returned (.bool r) ∧ (jobsOk a = true → jobsOk b = true → a = b → r = true)) := by
 have HA := Lib.hid ha; have HB := Lib.hid hb
 obtain ⟨s1, k1, rfl, hk1, hm1, hc1⟩ := ha.recs (f := DJob.ints) (fun _ => rfl) dC
 obtain ⟨s2, k2, rfl, hk2, hm2, hc2⟩ := hb.recs (f := DJob.ints) (fun _ => rfl) dC
 have H1 := Lib.hid hc1; have H2 := Lib.hid hc2
 clear hc1 hc2 ha hb
 unfold maxLen at hm1 hm2
 cases ho1 : jobsOk a
 ·
  go_enter Tryz.func29, Tryz.ntmps29
  go_wp2_with fail
  refine (sJobsOk_c _ _ _ HA.out).mono ?_
  rintro e w1 ⟨rfl, hx1⟩
  rw [ho1]
  go_wp2_with fail
  go_ret
  exact ⟨hx1, _, rfl, fun h => by cases h⟩
 cases ho2 : jobsOk b
 ·
  go_enter Tryz.func29, Tryz.ntmps29
  go_wp2_with fail
  refine (sJobsOk_c _ _ _ HA.out).mono ?_
  rintro e w1 ⟨rfl, hx1⟩
  rw [ho1]
  go_wp2_with fail
  refine (sJobsOk_c _ _ _ (HB.out.ext hx1)).mono ?_
  rintro e w2 ⟨rfl, hx2⟩
  rw [ho2]
  go_wp2_with fail
  go_ret
  exact ⟨hx1.trans hx2, _, rfl, fun _ h => by cases h⟩
 have hq : ∀ x y : Nat, (x : Int) ≠ (y : Int) → x ≠ y := fun x y h e => h (by rw [e])
 have HQ := Lib.hid hq
 clear hq
 by_cases hl : a.length = b.length
 rotate_left
 ·
  have hl2 : ¬ ((a.length : Int) = (b.length : Int)) := by omega
  have hl3 : ((a.length : Int) == (b.length : Int)) = false := by simpa using hl2
  have HL := Lib.hid hl
  clear hl
  go_enter Tryz.func29, Tryz.ntmps29
  go_wp2_with fail
  refine (sJobsOk_c _ _ _ HA.out).mono ?_
  rintro e w1 ⟨rfl, hx1⟩
  rw [ho1]
  go_wp2_with fail
  refine (sJobsOk_c _ _ _ (HB.out.ext hx1)).mono ?_
  rintro e w2 ⟨rfl, hx2⟩
  rw [ho2]
  go_wp2_with fail
  go_ret
  exact ⟨hx1.trans hx2, _, rfl, fun _ _ h => absurd (congrArg List.length h) HL.out⟩
 obtain ⟨L, hL⟩ : ∃ L, L = b.length := ⟨_, rfl⟩
 rw [← hL] at hl hk2 H2
 rw [← hL]
 have HLB := Lib.hid hL
 clear hL
 rw [hl] at hk1 H1 ⊢
 have HLA := Lib.hid hl
 clear hl
 go_enter Tryz.func29, Tryz.ntmps29
 go_wp2_with fail
 refine (sJobsOk_c _ (.slice s1 L k1) a (by rw [← HLA.out]; have := HA.out; rwa [HLA.out] at this ⊢)).mono ?_
 rintro e w1 ⟨rfl, hx1⟩
 rw [ho1]
 go_wp2_with fail
 refine (sJobsOk_c _ (.slice s2 L k2) b (by have := HB.out.ext hx1; rwa [← HLB.out] at this)).mono ?_
 rintro e w2 ⟨rfl, hx2⟩
 rw [ho2]
 have E2 := hx1.trans hx2
 clear hx1 hx2 ho1 ho2
 go_wp2_with fail
 go_loopw [5] (fun i wr => ∃ k : Nat, k ≤ L ∧ i = .int .i64 k ∧ Ext w wr ∧ Hid (∀ j, j < k → a[j]? = b[j]?)) (fun i _ => L - (intOf i).toNat)
 case atStart => exact ⟨0, Nat.zero_le _, rfl, E2, Lib.hid (fun i hi => by omega)⟩
 case round =>
  obtain ⟨k, hk, rfl, he, HO⟩ := hrel
  obtain ⟨wo, hw⟩ : ∃ wo, wo = wr := ⟨_, rfl⟩
  subst hw
  by_cases hlt : k < L
  ·
   have hltI : (k : Int) < (L : Int) := by omega
   obtain ⟨d, b1, o1, hd, rfl, hb1, hc⟩ := H1.out k (by first | exact hlt | (rw [HLA.out]; exact hlt))
   have x0 := he.cell (hc 0 _ dC rfl); have x1 := he.cell (hc 1 _ dC rfl); have x2 := he.cell (hc 2 _ dC rfl); have x3 := he.cell (hc 3 _ dC rfl); have x4 := he.cell (hc 4 _ dC rfl)
   obtain ⟨d2, b2, o2, hd2, rfl, hb2, hc2⟩ := H2.out k hlt
   have y0 := he.cell (hc2 0 _ dC rfl); have y1 := he.cell (hc2 1 _ dC rfl); have y2 := he.cell (hc2 2 _ dC rfl); have y3 := he.cell (hc2 3 _ dC rfl); have y4 := he.cell (hc2 4 _ dC rfl)
   simp only [Nat.add_zero] at x0 y0
   have HD := Lib.hid hd; have HD2 := Lib.hid hd2
   clear hc hc2 hd hd2
   by_cases hq : d.Id = d2.Id ∧ d.Due = d2.Due ∧ d.Key = d2.Key ∧ d.Value = d2.Value ∧ d.Fired = d2.Fired
   ·
    have e : d = d2 := by cases d; cases d2; simp_all
    subst e
    clear hq
    go_wp2_with fail
    go_quiet (fail)
    go_wp2_with fail
    go_roundw
    case rel => exact ⟨k + 1, by omega, by go_num, xT, Lib.hid (fun j hj => by rcases Nat.lt_succ_iff_lt_or_eq.1 hj with h | h; exact HO.out j h; (subst h; rw [HD.out, HD2.out]))⟩
    case measure => simp [intOf]; omega
   have hne : ¬ (a = b) := fun h => hq (by have h1 := HD.out; have h2 := HD2.out; rw [h] at h1; rw [h1] at h2; injection h2 with h2; subst h2; simp)
   have HNE := Lib.hid hne
   clear hne
   by_cases e0 : d.Id = d2.Id
   rotate_left
   ·
    have f0 : (d.Id == d2.Id) = false := by simpa using e0
    go_wp2_with fail
    go_quiet (fail)
    go_wp2_with fail
    go_ret
    exact ⟨xT, _, rfl, fun _ _ h => absurd h HNE.out⟩
   rw [← e0] at y0
   by_cases e1 : d.Due = d2.Due
   rotate_left
   ·
    have f1 : (d.Due == d2.Due) = false := by simpa using e1
    go_wp2_with fail
    go_quiet (fail)
    go_wp2_with fail
    go_ret
    exact ⟨xT, _, rfl, fun _ _ h => absurd h HNE.out⟩
   rw [← e1] at y1
   by_cases e2 : d.Key = d2.Key
   rotate_left
   ·
    have f2 : (d.Key == d2.Key) = false := by simpa using e2
    go_wp2_with fail
    go_quiet (fail)
    go_wp2_with fail
    go_ret
    exact ⟨xT, _, rfl, fun _ _ h => absurd h HNE.out⟩
   rw [← e2] at y2
   by_cases e3 : d.Value = d2.Value
   rotate_left
   ·
    have f3 : (d.Value == d2.Value) = false := by simpa using e3
    go_wp2_with fail
    go_quiet (fail)
    go_wp2_with fail
    go_ret
    exact ⟨xT, _, rfl, fun _ _ h => absurd h HNE.out⟩
   rw [← e3] at y3
   by_cases e4 : d.Fired = d2.Fired
   rotate_left
   ·
    have f4 : (d.Fired == d2.Fired) = false := by simpa using e4
    go_wp2_with fail
    go_quiet (fail)
    go_wp2_with fail
    go_ret
    exact ⟨xT, _, rfl, fun _ _ h => absurd h HNE.out⟩
   rw [← e4] at y4
   exact absurd ⟨e0, e1, e2, e3, e4⟩ hq
  obtain rfl : k = L := by omega
  go_wp2_with fail
  go_ret
  exact ⟨he, _, rfl, fun _ _ _ => rfl⟩
theorem sSameState_k {w : World} {v u : Value} {s : DState} (h : RdState w v s) (k : RdState w u s) (hs : stateOk s = true) : Calls Tryz.prog 10 #[v, u] w (RetV w (.bool true)) := by
 have H := Lib.hid h; have HK := Lib.hid k
 have hp := (stateOk_parts hs).2.2.2.1; have hj := (stateOk_parts hs).2.2.2.2.1
 have HS := Lib.hid hs; have HP := Lib.hid hp; have HJ := Lib.hid hj
 clear hs hp hj
 obtain ⟨t2, t3, rfl, h2, h3⟩ := h
 obtain ⟨a2x, n2x, k2x, rfl⟩ := h2.shape
 obtain ⟨a3x, n3x, k3x, rfl⟩ := h3.shape
 obtain ⟨u2, u3, rfl, g2, g3⟩ := k
 obtain ⟨a2y, n2y, k2y, rfl⟩ := g2.shape
 obtain ⟨a3y, n3y, k3y, rfl⟩ := g3.shape
 have H2 := Lib.hid h2; have H3 := Lib.hid h3; have G2 := Lib.hid g2; have G3 := Lib.hid g3
 clear h2 h3 g2 g3
 obtain ⟨w0, hw0⟩ : ∃ w0, w0 = (w.alloc (.cells #[.int .i64 s.Index, .int .i64 s.Time, .slice a2x n2x k2x, .slice a3x n3x k3x, .int .i64 s.Lease.Holder, .int .i64 s.Lease.Epoch, .int .i64 s.Lease.Until] 39)).alloc (.cells #[.int .i64 s.Index, .int .i64 s.Time, .slice a2y n2y k2y, .slice a3y n3y k3y, .int .i64 s.Lease.Holder, .int .i64 s.Lease.Epoch, .int .i64 s.Lease.Until] 39) := ⟨_, rfl⟩
 have E0 : Ext w w0 := by rw [hw0]; exact ((Ext.refl _).alloc _).alloc _
 have KX0 : Blk w0 w.heap.size 39 #[.int .i64 s.Index, .int .i64 s.Time, .slice a2x n2x k2x, .slice a3x n3x k3x, .int .i64 s.Lease.Holder, .int .i64 s.Lease.Epoch, .int .i64 s.Lease.Until] := by rw [hw0]; exact (Blk.new _ _ _).alloc _
 have KY0 : Blk w0 (w.heap.size + 1) 39 #[.int .i64 s.Index, .int .i64 s.Time, .slice a2y n2y k2y, .slice a3y n3y k3y, .int .i64 s.Lease.Holder, .int .i64 s.Lease.Epoch, .int .i64 s.Lease.Until] := by rw [hw0]; exact Blk.new2 _ _ _ _
 have HW := Lib.hid hw0
 clear hw0
 have CX0 := KX0.cell; have FX0 := KX0.frozen; have LX0 := KX0.lt; have CY0 := KY0.cell; have FY0 := KY0.frozen; have LY0 := KY0.lt
 go_enter Tryz.func10, Tryz.ntmps10
 go_wp2_with fail
 rw [← HW.out]
 go_wp2_with fail
 refine (sStateOk_k (H.out.ext E0)).mono ?_
 rintro e w1 ⟨rfl, hx1⟩
 have KX1 := KX0.ext hx1; have KY1 := KY0.ext hx1
 have E1 : Ext w w1 := E0.trans hx1
 clear CX0 FX0 LX0 CY0 FY0 LY0 KX0 KY0
 have CX1 := KX1.cell; have FX1 := KX1.frozen; have LX1 := KX1.lt; have CY1 := KY1.cell; have FY1 := KY1.frozen; have LY1 := KY1.lt
 rw [HS.out]
 go_wp2_with fail
 refine (sStateOk_k (HK.out.ext E1)).mono ?_
 rintro e w2 ⟨rfl, hx2⟩
 have KX2 := KX1.ext hx2; have KY2 := KY1.ext hx2
 have E2 : Ext w w2 := E1.trans hx2
 clear CX1 FX1 LX1 CY1 FY1 LY1 KX1 KY1
 have CX2 := KX2.cell; have FX2 := KX2.frozen; have LX2 := KX2.lt; have CY2 := KY2.cell; have FY2 := KY2.frozen; have LY2 := KY2.lt
 rw [HS.out]
 go_wp2_with fail
 refine (sSamePairs_c (H2.out.ext E2) (G2.out.ext E2)).mono ?_
 rintro e w3 ⟨hx3, r, rfl, hr⟩
 have KX3 := KX2.ext hx3; have KY3 := KY2.ext hx3
 have E3 : Ext w w3 := E2.trans hx3
 clear CX2 FX2 LX2 CY2 FY2 LY2 KX2 KY2
 have CX3 := KX3.cell; have FX3 := KX3.frozen; have LX3 := KX3.lt; have CY3 := KY3.cell; have FY3 := KY3.frozen; have LY3 := KY3.lt
 obtain rfl := hr HP.out HP.out rfl
 clear hr
 go_wp2_with fail
 refine (sSameJobs_c (H3.out.ext E3) (G3.out.ext E3)).mono ?_
 rintro e w4 ⟨hx4, r, rfl, hr⟩
 have KX4 := KX3.ext hx4; have KY4 := KY3.ext hx4
 have E4 : Ext w w4 := E3.trans hx4
 clear CX3 FX3 LX3 CY3 FY3 LY3 KX3 KY3
 have CX4 := KX4.cell; have FX4 := KX4.frozen; have LX4 := KX4.lt; have CY4 := KY4.cell; have FY4 := KY4.frozen; have LY4 := KY4.lt
 obtain rfl := hr HJ.out HJ.out rfl
 clear hr
 go_wp2_with fail
 go_ret
 exact ⟨rfl, E4⟩
end Go.Proofs.YtlnkggpemdpemaaGreat
