/- Contracts and plain laws: HelpH Q9 S5 KS P7 Rw Q10 Q8. -/
import Derived.Test.YtlnkggpemdpemaaGreatYa
import Derived.Test.YtlnkggpemdpemaaGreatYb
import Derived.Test.YtlnkggpemdpemaaGreatYi
import Derived.Test.YtlnkggpemdpemaaGreatYu
import Derived.Test.YtlnkggpemdpemaaGreatYe
import Derived.Test.YtlnkggpemdpemaaGreatYv
import Derived.Test.YtlnkggpemdpemaaGreatYw
import Derived.Test.YtlnkggpemdpemaaGreatYh
set_option linter.unusedSimpArgs false
set_option linter.unusedVariables false
set_option maxHeartbeats 8000000
set_option maxRecDepth 100000
namespace Go.Proofs.YtlnkggpemdpemaaGreat
open Go.RowKit Go.G8
theorem fallen_c (w : World) (s0_0 : Value) (l0_0 : List (List Int)) (s0_1 : Value) (l0_1 : List DWrite) (s1_0 : Value) (fates : List Int) (h0_0 : Nest 0 w s0_0 (nestInt64S l0_0)) (h0_1 : Nest 1 w s0_1 (nestWrite l0_1)) (h1_0 : Ints 1 w s1_0 fates) :
  Calls Tryz.prog 35 #[.agg #[s0_0, s0_1], s1_0] w (Ret w fun r0 w' => IsDisk w.heap.size w' r0 (fallenDisk false fates ⟨l0_0, l0_1⟩)) := by
 obtain ⟨a2, cap2, rfl, hc2, hm2, ha2⟩ := h1_0.one
 have HC := Lib.hid ha2
 clear ha2
 unfold maxLen at hm2
 obtain ⟨a0, n0, k0, rfl⟩ := h0_0.shape
 obtain ⟨a1, n1, k1, rfl⟩ := h0_1.shape
 obtain ⟨W0, hW0⟩ : ∃ W0, W0 = (w.alloc (.cells #[.slice a0 n0 k0, .slice a1 n1 k1] 33)).alloc (.cells #[.slice none 0 0, .slice none 0 0] 33) := ⟨_, rfl⟩
 have hE0 : Ext w W0 := by rw [hW0]; exact ((Ext.refl _).alloc _).alloc _
 have hs0 : W0.heap.size = w.heap.size + 1 + 1 := by rw [hW0]; simp
 have KR0 : Blk W0 (w.heap.size + 1) 33 #[.slice none 0 0, .slice none 0 0] := by rw [hW0]; exact Blk.new2 _ _ _ _
 have KP0 : Blk W0 w.heap.size 33 #[.slice a0 n0 k0, .slice a1 n1 k1] := by rw [hW0]; exact (Blk.new _ _ _).alloc _
 have HW0 := Lib.hid hW0
 clear hW0
 go_enter Tryz.func35, Tryz.ntmps35
 go_wp2_with fail
 rw [← HW0.out]
 refine (diskOk_c _ _ _ _ _ (h0_0.ext hE0) (h0_1.ext hE0)).mono ?_
 rintro e w1 ⟨rfl, hx1⟩
 have hz1 := hx1.size; have KR1 := KR0.ext hx1; have KP1 := KP0.ext hx1; have CR1 := KR1.cell; have FR1 := KR1.frozen; have CP1 := KP1.cell
 have hE1 : Ext w w1 := hE0.trans hx1
 cases hb : diskOk ⟨l0_0, l0_1⟩
 ·
  go_wp2_with fail
  refine bodyPost_ret (by simp [results, Tryz.results35, go_sem, *]; try rfl) rfl ?_
  refine ⟨_, rfl, ?_, (IsDisk.nil _ _).cast (by simp [fallenDisk, hb])⟩
  exact Ext.setCell (Ext.setCell hE1 oM _) oM _
 obtain ⟨hr1, hr2, hk1, hk2, hk3⟩ := diskOk_rows hb
 simp only [] at hr1 hr2 hk1 hk2 hk3
 have HR2 := Lib.hid hr2
 clear hr1 hr2
 have HOK := Lib.hid (fallK_ok (all := false) (fates := fates) hb)
 go_wp2_with fail
 refine (copyDisk_c _ _ l0_0 _ l0_1 (h0_0.ext hE1) (h0_1.ext hE1) (diskOk_small hb)).mono ?_
 rintro e w2 ⟨_, rfl, hx2, t0, t1, ss, ss1, rfl, ho0, ho1, hdj⟩
 have ho0 : OwnNs w1.heap.size 49 2 0 w2 t0 (nestInt64S l0_0) ss := ho0
 have ho1 : OwnNs w1.heap.size 117 2 1 w2 t1 (nestWrite l0_1) ss1 := ho1
 have hl0 : (nestInt64S l0_0).length = l0_0.length := by simp [nestInt64S]
 have hl1 : (nestWrite l0_1).length = l0_1.length := by simp [nestWrite]
 obtain ⟨g, oc, cur, rfl, hcp1, hcp2, hBg, _, _⟩ := ho0.open_ oM
 obtain ⟨pa, pc, rfl, hpc1, hpc2⟩ := ho1.len
 rw [hl0] at ho0 hdj ⊢
 rw [hl1] at ho1 hdj ⊢
 have KR2 := KR1.ext hx2
 have hz2 := hx2.size
 obtain ⟨X, hX⟩ : ∃ X, X = w2.heap.size := ⟨_, rfl⟩
 obtain ⟨W2, hW2⟩ : ∃ W2, W2 = w2.alloc (.cells #[.slice (some ⟨g, 0, none⟩) l0_0.length oc, .slice pa l0_1.length pc] 33) := ⟨_, rfl⟩
 have hK0 : Blk W2 X 33 #[.slice (some ⟨g, 0, none⟩) l0_0.length oc, .slice pa l0_1.length pc] := by rw [hW2, hX]; exact Blk.new _ _ _
 have hE2 : Ext w2 W2 := by rw [hW2]; exact (Ext.refl _).alloc _
 have hE3 : Ext w1 W2 := hx2.trans hE2
 have hM0 : Mv w1.heap.size 49 2 117 W2 g l0_0.length oc l0_0 (.slice pa l0_1.length pc) l0_1 ss1 0 :=
  ⟨ss, ho0.ext hE2, ho1.ext hE2, fun hg => hdj g (by simp [feet, Value.ownBlock]) hg, fun j s f _ hs hf1 hf2 => hdj f hf2 (feet_sub hs hf1)⟩
 have hgX : g < X := by rw [hX]; exact (ho0.foot g (by simp [feet, Value.ownBlock])).2
 have hXa : w1.heap.size ≤ X := by rw [hX]; exact hz2
 have CK0 := hK0.cell
 have HX := Lib.hid hX; have HW2 := Lib.hid hW2
 clear hX hW2 ho0 ho1 hdj hx2 hcp1 hpc1 hl0 hl1 hz2
 go_wp2_with fail
 rw [← HW2.out, ← HX.out]
 clear HW2 HX
 go_loopw [19] (fun i wr => ∃ k : Nat, k ≤ l0_1.length ∧ i = .int .i64 k ∧ Ext w1 wr ∧ Blk wr X 33 #[.slice (some ⟨g, 0, none⟩) l0_0.length oc, .slice pa l0_1.length pc] ∧ Mv w1.heap.size 49 2 117 wr g l0_0.length oc (fallK false fates ⟨l0_0, l0_1⟩ k) (.slice pa l0_1.length pc) l0_1 ss1 k) (fun i _ => l0_1.length - (intOf i).toNat)
 case atStart => exact ⟨0, Nat.zero_le _, rfl, hE3, hK0, hM0⟩
 case round =>
  clear hK0 hM0 CK0 hE2 hE3 KR2
  obtain ⟨k, hk, rfl, he, hK, hM⟩ := hrel
  have hsz4 := he.size
  have hXq : X < wr.heap.size := hK.lt
  have hgq := hM.low
  have CK := hK.cell
  have FK := hK.frozen
  by_cases hlt : k < l0_1.length
  ·
   obtain ⟨g1, cap1, cur1, s, d, hv, hB1, hg1, hr, hs, c0, c1, hrow⟩ := hM.wait hlt
   injection hv with hv1 hv2 hv3
   subst hv1; subst hv3
   obtain ⟨sa, sn, sc, rfl⟩ := hrow.shape
   obtain ⟨hd1, hd2, hd3⟩ := HR2.out d (List.mem_of_getElem? hr)
   obtain ⟨p, hp⟩ := Int.eq_ofNat_of_zero_le hd2
   have HPD := Lib.hid hp
   have hp0 : (0 : Int) ≤ (p : Int) := by omega
   have hp1 : (p : Int) < (l0_0.length : Int) := by omega
   have hl1 := hB1.lt
   have d0 : wr.cell? ⟨g1, k * 2, none⟩ = some (.int .i64 (p : Int)) := by rw [hB1.cell, c0, hp]
   have d1 : wr.cell? ⟨g1, k * 2 + 1, none⟩ = some (.slice sa sn sc) := by rw [hB1.cell, c1]
   obtain ⟨cur2, ssk, hn, hGq, hsk, hcur⟩ := hM.blk (by rw [fallK_len]; exact hk1)
   have hfl := fallK_len true [] ⟨l0_0, l0_1⟩ k
   simp only [] at hfl
   obtain ⟨rr, hrr⟩ : ∃ rr, (fallK false fates ⟨l0_0, l0_1⟩ k)[p]? = some rr := ⟨_, List.getElem?_eq_getElem oM⟩
   obtain ⟨so, hso⟩ : ∃ so, ssk[p]? = some so := ⟨_, List.getElem?_eq_getElem oM⟩
   obtain ⟨hcp, hrw2⟩ := hcur p rr so hrr hso
   obtain ⟨ra, rn, rc, rfl⟩ := hrw2.shape
   have hrl := HOK.out k rr (List.mem_of_getElem? hrr)
   have HRR := Lib.hid hrr
   have e9 : wr.cell? ⟨g, p, none⟩ = some (.slice ra rn rc) := by rw [hGq.cell]; exact hcp
   have FG := hGq.frozen
   have HR := Lib.hid hr; have HS := Lib.hid hs
   clear hr hs c0 c1 hd2 hd3 hp hn hsk hcur hrr hso hcp hfl hXa
   by_cases hf : k < fates.length
   ·
    obtain ⟨x, b2, o2, hx, rfl, hb2, cx⟩ := HC.out k hf
    have dx := (hE1.trans he).cell cx
    have hb3 : b2 < wr.heap.size := by have := hE1.size; omega
    have hfx : fate fates k = x := by simp [fate, hx]
    have HFX := Lib.hid hfx
    clear hx cx hfx
    by_cases h1 : x = 1
    ·
     subst h1
     go_wp2_with fail
     go_roundw
     case rel =>
      refine ⟨k + 1, by omega, by go_num, (Ext.setCell he oM _).alloc _, (hK.far (by simp; omega) _).alloc _, ?_⟩
      rw [fallK_succ HR.out]
      unfold fallStep
      rw [if_pos (by simp [HFX.out])]
      have hpn : d.At.toNat = p := by rw [HPD.out]; rfl
      rw [hpn]
      exact (hM.move HS.out HR.out (by rw [fallK_len]; simp only []; omega)).ext ((Ext.refl _).alloc _)
     case measure => simp [intOf]; omega
    by_cases h2 : x = 2
    ·
     subst h2
     obtain ⟨wq, hwq⟩ : ∃ wq, wq = wr.alloc (.cells #[.int .i64 (p : Int), .slice sa sn sc] 117) := ⟨_, rfl⟩
     have hEq : Ext wr wq := by rw [hwq]; exact (Ext.refl _).alloc _
     have hsq : wq.heap.size = wr.heap.size + 1 := by rw [hwq]; simp
     have hBq : Blk wq wr.heap.size 117 #[.int .i64 (p : Int), .slice sa sn sc] := by rw [hwq]; exact Blk.new _ _ _
     have hKq := hK.ext hEq
     have hMq := hM.ext hEq
     have hin' := hrow.ints.ext hEq
     have e8 : wq.cell? ⟨g, p, none⟩ = some (.slice ra rn rc) := hEq.cell e9
     have HW := Lib.hid hwq
     clear hwq
     go_wp2_with fail
     rw [← HW.out]
     obtain ⟨Y, hY⟩ : ∃ Y, Y = wr.heap.size := ⟨_, rfl⟩
     rw [← hY] at hBq hXq hgq hsq hsz4
     simp only [← hY]
     have hsr : Y < wq.heap.size := by omega
     have hE9 : Ext w1 wq := he.trans hEq
     clear hY hsq HW d0 d1
     go_region_held3 (fun w' => w'.cell? ⟨X, 0, none⟩ = some (.slice (some ⟨g, 0, none⟩) l0_0.length oc) ∧ w'.cell? ⟨Y, 0, none⟩ = some (.int .i64 (p : Int)) ∧ w'.cell? ⟨Y, 1, none⟩ = some (.slice sa sn sc) ∧ w'.cell? ⟨g, p, none⟩ = some (.slice ra rn rc)) (first | (refine ⟨((hKq.ext ?_).cell 0).trans (by simp), ((hBq.ext ?_).cell 0).trans (by simp), ((hBq.ext ?_).cell 1).trans (by simp), Ext.cell (w := wq) ?_ e8⟩ <;> (exact xT); done)) (first | (go_at_call 66; refine (torn_c _ _ _ _ _ (hin'.ext xT) (hrw2.ints.ext (hEq.trans xT)) oM oM).mono ?_; rintro e w2 ⟨_, rfl, hx2, g2⟩; obtain ⟨ta, tn, tc, rfl⟩ := g2.shape))
     all_goals
      have KX2 : Blk w2 X 33 _ := hKq.ext xT
      have KY2 : Blk w2 Y 117 _ := hBq.ext xT
      have CX2 := KX2.cell; have CY2 := KY2.cell
      have E9 : w2.cell? ⟨g, p, none⟩ = some (.slice ra rn rc) := Ext.cell (w := wq) xT e8
      have FG2 : w2.frozen? ⟨g, p, none⟩ = false := (Blk.ext (hGq.ext hEq) (xT : Ext wq w2)).frozen _
      go_wp2_with fail
      go_roundw
      case rel =>
       have hM2 := hMq.fresh (w := w2) xT (g2.mono (Nat.le_refl _)) oM (p := p) (by rw [fallK_len]; simp only []; omega)
       refine ⟨k + 1, by omega, by go_num, Ext.setCell xT oM _, KX2.far (by simp; omega) _, ?_⟩
       rw [fallK_succ HR.out]
       unfold fallStep
       rw [if_neg (by simp [HFX.out]), if_pos HFX.out]
       have hpn : d.At.toNat = p := by rw [HPD.out]; rfl
       rw [hpn, HRR.out]
       exact hM2
      case measure => simp [intOf]; omega
    go_wp2_with fail
    go_roundw
    case rel =>
     refine ⟨k + 1, by omega, by go_num, he.alloc _, hK.alloc _, ?_⟩
     rw [fallK_succ HR.out]
     unfold fallStep
     rw [if_neg (by simp [HFX.out, h1]), if_neg (by rw [HFX.out]; exact h2)]
     exact hM.skip.ext ((Ext.refl _).alloc _)
    case measure => simp [intOf]; omega
   have hfx : fate fates k = 0 := by simp [fate, List.getElem?_eq_none (Nat.le_of_not_lt hf)]
   have HFX := Lib.hid hfx
   clear hfx
   go_wp2_with fail
   go_roundw
   case rel =>
    refine ⟨k + 1, by omega, by go_num, he.alloc _, hK.alloc _, ?_⟩
    rw [fallK_succ HR.out]
    unfold fallStep
    rw [if_neg (by simp [HFX.out]), if_neg (by rw [HFX.out]; decide)]
    exact hM.skip.ext ((Ext.refl _).alloc _)
   case measure => simp [intOf]; omega
  obtain rfl : k = l0_1.length := by omega
  have KR3 := KR1.ext he
  have CR3 := KR3.cell
  have FR3 := KR3.frozen
  go_wp2_with fail
  refine bodyPost_ret (by simp [results, Tryz.results35, go_sem, *]; try rfl) rfl ?_
  obtain ⟨ss2, h2, _, _, _⟩ := hM
  refine ⟨_, rfl, xT, IsDisk.cast ⟨_, _, ss2, [], rfl, OwnNs.mono (B := w1.heap.size) ?_ oM, OwnNs.nil _ _ _ _ _, by simp [feet, Value.ownBlock]⟩ (by simp [fallenDisk, hb]; rfl)⟩
  have hc1 : w.heap.size + 1 < w1.heap.size := by omega
  first
   | exact ((h2.box hK dC dC _ _).keep (((Chg.refl w1.heap.size _).setLow hc1 _).setLow hc1 _))
   | exact (h2.keep (((Chg.refl w1.heap.size _).setLow hc1 _).setLow hc1 _)).box ((hK.far (by simp; omega) _).far (by simp; omega) _) dC dC _ _
   | (trace_state; fail)
theorem newStore_c (w : World) : Calls Tryz.prog 18 #[] w (Ret w fun v w' => ∃ t0 t1 : Value, ∃ ss0 ss1 : List Value, v = .agg #[t0, t1, .int .i64 0, .int .i64 0, .slice none 0 0, .slice none 0 0, .int .i64 0, .int .i64 0, .int .i64 0, .int .i64 0, .int .i64 0, .int .i64 0] ∧ OwnNs w.heap.size 49 2 0 w' t0 (nestInt64S (newDisk 8).Kept) ss0 ∧ OwnNs w.heap.size 117 2 1 w' t1 (nestWrite (newDisk 8).Wait) ss1 ∧ (∀ k, k ∈ feet (t0 :: ss0) → k ∈ feet (t1 :: ss1) → False)) := by
 go_enter Tryz.func18, Tryz.ntmps18
 go_wp2_with fail
 refine (newShelf_c _).mono ?_
 rintro e w1 ⟨_, rfl, hx1, t0, t1, ss0, ss1, rfl, g0, g1, hd⟩
 obtain ⟨a0, n0, k0, rfl⟩ := g0.nest.shape
 obtain ⟨a1, n1, k1, rfl⟩ := g1.nest.shape
 obtain ⟨hc1, hf1⟩ := hx1.cells
 have hz1 := hx1.size
 simp only [World.size_alloc] at hc1 hf1 hz1 g0 g1
 have hy : w.heap.size < w1.heap.size := by omega
 go_wp2
 refine bodyPost_ret (by simp [results, Tryz.results18, go_sem, *]; try rfl) rfl ?_
 clear hc1 hf1
 refine ⟨_, rfl, xT, _, _, ss0, ss1, rfl, (OwnNs.keep g0 chgT).mono oM, (OwnNs.keep g1 chgT).mono oM, hd⟩
def RdStore (w : World) (v : Value) (s : DStore) : Prop := ∃ t0 t1 t4 t5 : Value, v = .agg #[t0, t1, .int .i64 s.State.Index, .int .i64 s.State.Time, t4, t5, .int .i64 s.State.Lease.Holder, .int .i64 s.State.Lease.Epoch, .int .i64 s.State.Lease.Until, .int .i64 s.Num, .int .i64 s.Last, .int .i64 s.Busy] ∧ Nest 0 w t0 (nestInt64S s.Disk.Kept) ∧ Nest 1 w t1 (nestWrite s.Disk.Wait) ∧ Ints 2 w t4 (flPair s.State.Pairs) ∧ Ints 5 w t5 (flJob s.State.Jobs)
def OwStore (B : Nat) (w : World) (v : Value) (s : DStore) (F : List Nat) : Prop := ∃ t0 t1 t4 t5 : Value, ∃ ss0 ss1 : List Value, v = .agg #[t0, t1, .int .i64 s.State.Index, .int .i64 s.State.Time, t4, t5, .int .i64 s.State.Lease.Holder, .int .i64 s.State.Lease.Epoch, .int .i64 s.State.Lease.Until, .int .i64 s.Num, .int .i64 s.Last, .int .i64 s.Busy] ∧ OwnNs B 49 2 0 w t0 (nestInt64S s.Disk.Kept) ss0 ∧ OwnNs B 117 2 1 w t1 (nestWrite s.Disk.Wait) ss1 ∧ OwnI B 113 2 w t4 (flPair s.State.Pairs) ∧ OwnI B 95 5 w t5 (flJob s.State.Jobs) ∧ (∀ k, k ∈ feet (t0 :: ss0) → k ∈ feet (t1 :: ss1) → False) ∧ F = (feet (t0 :: ss0) ++ feet (t1 :: ss1)) ++ (feet [t4] ++ feet [t5])
def MkStore (B : Nat) (w : World) (v : Value) (s : DStore) (F : List Nat) (q : Int) : Prop := ∃ t0 t1 t4 t5 : Value, ∃ ss0 ss1 : List Value, v = .agg #[t0, t1, .int .i64 s.State.Index, .int .i64 s.State.Time, t4, t5, .int .i64 s.State.Lease.Holder, .int .i64 s.State.Lease.Epoch, .int .i64 s.State.Lease.Until, .int .i64 s.Num, .int .i64 s.Last, .int .i64 s.Busy] ∧ OwnNs B 49 2 0 w t0 (marks 0 q (nestInt64S s.Disk.Kept)) ss0 ∧ OwnNs B 117 2 1 w t1 (marks 1 (q + (tot 0 (nestInt64S s.Disk.Kept) : Nat)) (nestWrite s.Disk.Wait)) ss1 ∧ OwnI B 113 2 w t4 (run (q + (tot 0 (nestInt64S s.Disk.Kept) : Nat) + (tot 1 (nestWrite s.Disk.Wait) : Nat)) (s.State.Pairs.length * 2)) ∧ OwnI B 95 5 w t5 (run (q + (tot 0 (nestInt64S s.Disk.Kept) : Nat) + (tot 1 (nestWrite s.Disk.Wait) : Nat) + (s.State.Pairs.length * 2 : Nat)) (s.State.Jobs.length * 5))
section
variable {B B' : Nat} {w w' : World} {v : Value} {s s' : DStore} {F : List Nat} {q : Int}
theorem RdStore.shape (h : RdStore w v s) : ∃ a0 n0 k0 a1 n1 k1 a4 n4 k4 a5 n5 k5, v = .agg #[.slice a0 n0 k0, .slice a1 n1 k1, .int .i64 s.State.Index, .int .i64 s.State.Time, .slice a4 n4 k4, .slice a5 n5 k5, .int .i64 s.State.Lease.Holder, .int .i64 s.State.Lease.Epoch, .int .i64 s.State.Lease.Until, .int .i64 s.Num, .int .i64 s.Last, .int .i64 s.Busy] := by
 obtain ⟨t0, t1, t4, t5, rfl, h0, h1, h4, h5⟩ := h
 obtain ⟨a0, n0, k0, rfl⟩ := h0.shape
 obtain ⟨a1, n1, k1, rfl⟩ := h1.shape
 obtain ⟨a4, n4, k4, rfl⟩ := h4.shape
 obtain ⟨a5, n5, k5, rfl⟩ := h5.shape
 exact ⟨a0, n0, k0, a1, n1, k1, a4, n4, k4, a5, n5, k5, rfl⟩
theorem RdStore.ext (h : RdStore w v s) (x : Ext w w') : RdStore w' v s := let ⟨t0, t1, t4, t5, e, h0, h1, h4, h5⟩ := h; ⟨t0, t1, t4, t5, e, h0.ext x, h1.ext x, h4.ext x, h5.ext x⟩
theorem OwStore.rd (h : OwStore B w v s F) : RdStore w v s := let ⟨t0, t1, t4, t5, _, _, e, h0, h1, h4, h5, _, _⟩ := h; ⟨t0, t1, t4, t5, e, h0.nest, h1.nest, h4.ints, h5.ints⟩
theorem OwStore.ext (h : OwStore B w v s F) (x : Ext w w') : OwStore B w' v s F := let ⟨t0, t1, t4, t5, s0, s1, e, h0, h1, h4, h5, hd, hF⟩ := h; ⟨t0, t1, t4, t5, s0, s1, e, h0.ext x, h1.ext x, Own.ext h4 x, Own.ext h5 x, hd, hF⟩
theorem OwStore.keep (h : OwStore B w v s F) (x : Chg B w w') : OwStore B w' v s F := let ⟨t0, t1, t4, t5, s0, s1, e, h0, h1, h4, h5, hd, hF⟩ := h; ⟨t0, t1, t4, t5, s0, s1, e, h0.keep x, h1.keep x, h4.keep x, h5.keep x, hd, hF⟩
theorem OwStore.mono (h : OwStore B w v s F) (x : B' ≤ B) : OwStore B' w v s F := let ⟨t0, t1, t4, t5, s0, s1, e, h0, h1, h4, h5, hd, hF⟩ := h; ⟨t0, t1, t4, t5, s0, s1, e, h0.mono x, h1.mono x, h4.mono x, h5.mono x, hd, hF⟩
theorem OwStore.cast (h : OwStore B w v s F) (e : s = s') : OwStore B w v s' F := e ▸ h
theorem OwStore.upd (h : OwStore B w v s F) {fs : List Nat} (x : Upd w w' fs) (hn : ∀ k, k ∈ F → k ∈ fs → False) : OwStore B w' v s F := by
 obtain ⟨t0, t1, t4, t5, s0, s1, e, h0, h1, h4, h5, hd, rfl⟩ := h
 exact ⟨t0, t1, t4, t5, s0, s1, e, h0.upd x (fun k h => hn k (List.mem_append_left _ (List.mem_append_left _ h))), h1.upd x (fun k h => hn k (List.mem_append_left _ (List.mem_append_right _ h))), OwnI.upd' h4 x (fun k h => hn k (List.mem_append_right _ (List.mem_append_left _ h))), OwnI.upd' h5 x (fun k h => hn k (List.mem_append_right _ (List.mem_append_right _ h))), hd, rfl⟩
theorem OwStore.low (h : OwStore B w v s F) : ∀ k, k ∈ F → B ≤ k ∧ k < w.heap.size := by
 obtain ⟨t0, t1, t4, t5, s0, s1, e, h0, h1, h4, h5, hd, rfl⟩ := h
 intro k hk
 rcases List.mem_append.1 hk with h | h
 ·
  rcases List.mem_append.1 h with h | h
  ·
   exact h0.foot k h
  exact h1.foot k h
 rcases List.mem_append.1 h with h | h
 ·
  exact h4.foot k h
 exact h5.foot k h
theorem MkStore.ext (h : MkStore B w v s F q) (x : Ext w w') : MkStore B w' v s F q := let ⟨t0, t1, t4, t5, s0, s1, e, h0, h1, h4, h5⟩ := h; ⟨t0, t1, t4, t5, s0, s1, e, h0.ext x, h1.ext x, Own.ext h4 x, Own.ext h5 x⟩
end
end Go.Proofs.YtlnkggpemdpemaaGreat
namespace Go.G8
noncomputable def storeOk (s : DStore) : Bool := shelfOk s.Disk && (stateOk s.State && (inb s.Num 0 1000000000 && (inb s.Last 0 s.State.Index && ((decide (s.Num = 0) == decide (s.Last = 0)) && (decide (s.Busy = 0) || (decide (s.Num < 1000000000) && (decide (s.Last < s.Busy) && decide (s.Busy ≤ s.State.Index))))))))
noncomputable def fetchOf (s : DStore) : Int := if storeOk s then s.State.Index + 1 else 0
theorem stateOk_index {s : DState} (h : stateOk s = true) : 0 ≤ s.Index ∧ s.Index ≤ 2000 := by
 simp only [stateOk, Bool.and_eq_true] at h
 exact inb_true.1 h.1
theorem storeOk_state {s : DStore} (h : storeOk s = true) : stateOk s.State = true := by
 simp only [storeOk, Bool.and_eq_true] at h
 exact h.2.1
end Go.G8
namespace Go.Proofs.YtlnkggpemdpemaaGreat
open Go.RowKit Go.G8
theorem sStoreOk_c (w : World) (s0_0 : Value) (l0_0 : List (List Int)) (s0_1 : Value) (l0_1 : List DWrite) (c0_2 : Int) (c0_3 : Int) (s0_4 : Value) (l0_4 : List DPair) (s0_5 : Value) (l0_5 : List DJob) (c0_6 : Int) (c0_7 : Int) (c0_8 : Int) (c0_9 : Int) (c0_10 : Int) (c0_11 : Int) (h0_0 : Nest 0 w s0_0 (nestInt64S l0_0)) (h0_1 : Nest 1 w s0_1 (nestWrite l0_1)) (h0_4 : Ints 2 w s0_4 (flPair l0_4)) (h0_5 : Ints 5 w s0_5 (flJob l0_5)) :
  Calls Tryz.prog 12 #[.agg #[s0_0, s0_1, .int .i64 c0_2, .int .i64 c0_3, s0_4, s0_5, .int .i64 c0_6, .int .i64 c0_7, .int .i64 c0_8, .int .i64 c0_9, .int .i64 c0_10, .int .i64 c0_11]] w (RetV w (.bool (storeOk (⟨⟨l0_0, l0_1⟩, ⟨c0_2, c0_3, l0_4, l0_5, ⟨c0_6, c0_7, c0_8⟩⟩, c0_9, c0_10, c0_11⟩ : DStore)))) := by
 obtain ⟨a0_0, n0_0, k0_0, rfl⟩ := h0_0.shape
 obtain ⟨a0_1, n0_1, k0_1, rfl⟩ := h0_1.shape
 obtain ⟨a0_4, n0_4, k0_4, rfl⟩ := h0_4.shape
 obtain ⟨a0_5, n0_5, k0_5, rfl⟩ := h0_5.shape
 by_cases hl : 0 ≤ c0_10 ∧ c0_10 ≤ 2000
 obtain ⟨hl1, hl2⟩ := hl
 rotate_left
 have hno : stateOk (⟨c0_2, c0_3, l0_4, l0_5, ⟨c0_6, c0_7, c0_8⟩⟩ : DState) = true → inb c0_10 0 c0_2 = false := fun h => by
  have := stateOk_index h
  simp only [] at this
  by_cases h1 : inb c0_10 0 c0_2 = true
  ·
   have h2 := inb_true.1 h1
   exact (hl ⟨by omega, by omega⟩).elim
  simpa using h1
 clear hl
 all_goals
   have rsize_setRow := @size_setRow
   have rcell_setRow_lt := @cell_setRow_lt
   have rcell_setRow_gt := @cell_setRow_gt
   have rfrozen_setRow_lt := @frozen_setRow_lt
   have rfrozen_setRow_gt := @frozen_setRow_gt
   go_enter Tryz.func12, Tryz.ntmps12
   go_wp2_with (first | (go_at_call 31; refine (sShelfOk_c _ _ _ _ _ (by first | (with_reducible exact Nest.ext (by assumption) xT) | (with_reducible exact Nest.ext (OwnNest.nest (by assumption)) xT)) (by first | (with_reducible exact Nest.ext (by assumption) xT) | (with_reducible exact Nest.ext (OwnNest.nest (by assumption)) xT)) ).mono ?_; rintro e wa ⟨rfl, hxa⟩; have hza := hxa.size; (repeat (first | simp only [World.size_alloc] at hza | simp only [World.size_setCell] at hza | simp only [size_setRow] at hza)); (try have hya_b_0 : wb.heap.size < wa.heap.size := oM); (try have hya_b_1 : wb.heap.size + 1 < wa.heap.size := oM); (try have hya_b_2 : wb.heap.size + 1 + 1 < wa.heap.size := oM); (try have hya_c_0 : wc.heap.size < wa.heap.size := oM); (try have hya_c_1 : wc.heap.size + 1 < wa.heap.size := oM); (try have hya_c_2 : wc.heap.size + 1 + 1 < wa.heap.size := oM); have Ka0 : Blk wa (w.heap.size) 41 _ := Blk.ext (by exact blkT) hxa; (try simp only [List.setIfInBounds_toArray, List.set_cons_zero, List.set_cons_succ] at Ka0); have CKa0 := Ka0.cell; have FKa0 := Ka0.frozen; have hya__0 : w.heap.size < wa.heap.size := oM; (try (have Ka_b0 : Blk wa (wb.heap.size) _ _ := Blk.ext (by exact blkT) hxa; (try simp only [List.setIfInBounds_toArray, List.set_cons_zero, List.set_cons_succ] at Ka_b0); have CKa_b0 := Ka_b0.cell; have FKa_b0 := Ka_b0.frozen)); (try (have Ka_b1 : Blk wa (wb.heap.size + 1) _ _ := Blk.ext (by exact blkT) hxa; (try simp only [List.setIfInBounds_toArray, List.set_cons_zero, List.set_cons_succ] at Ka_b1); have CKa_b1 := Ka_b1.cell; have FKa_b1 := Ka_b1.frozen)); (try (have Ka_b2 : Blk wa (wb.heap.size + 1 + 1) _ _ := Blk.ext (by exact blkT) hxa; (try simp only [List.setIfInBounds_toArray, List.set_cons_zero, List.set_cons_succ] at Ka_b2); have CKa_b2 := Ka_b2.cell; have FKa_b2 := Ka_b2.frozen)); (try (have Ka_c0 : Blk wa (wc.heap.size) _ _ := Blk.ext (by exact blkT) hxa; (try simp only [List.setIfInBounds_toArray, List.set_cons_zero, List.set_cons_succ] at Ka_c0); have CKa_c0 := Ka_c0.cell; have FKa_c0 := Ka_c0.frozen)); (try (have Ka_c1 : Blk wa (wc.heap.size + 1) _ _ := Blk.ext (by exact blkT) hxa; (try simp only [List.setIfInBounds_toArray, List.set_cons_zero, List.set_cons_succ] at Ka_c1); have CKa_c1 := Ka_c1.cell; have FKa_c1 := Ka_c1.frozen)); (try (have Ka_c2 : Blk wa (wc.heap.size + 1 + 1) _ _ := Blk.ext (by exact blkT) hxa; (try simp only [List.setIfInBounds_toArray, List.set_cons_zero, List.set_cons_succ] at Ka_c2); have CKa_c2 := Ka_c2.cell; have FKa_c2 := Ka_c2.frozen))) | (go_at_call 27; refine (sStateOk_c _ _ _ _ _ _ _ _ _ _ (by first | (with_reducible exact Ints.ext (by assumption) xT) | (with_reducible exact Ints.ext (OwnI.ints (by assumption)) xT) | with_reducible exact rnil_flPair _ _) (by first | (with_reducible exact Ints.ext (by assumption) xT) | (with_reducible exact Ints.ext (OwnI.ints (by assumption)) xT) | with_reducible exact rnil_flJob _ _) ).mono ?_; rintro e wb ⟨rfl, hxb⟩; have hzb := hxb.size; (repeat (first | simp only [World.size_alloc] at hzb | simp only [World.size_setCell] at hzb | simp only [size_setRow] at hzb)); (try have hyb_a_0 : wa.heap.size < wb.heap.size := oM); (try have hyb_a_1 : wa.heap.size + 1 < wb.heap.size := oM); (try have hyb_a_2 : wa.heap.size + 1 + 1 < wb.heap.size := oM); (try have hyb_c_0 : wc.heap.size < wb.heap.size := oM); (try have hyb_c_1 : wc.heap.size + 1 < wb.heap.size := oM); (try have hyb_c_2 : wc.heap.size + 1 + 1 < wb.heap.size := oM); have Kb0 : Blk wb (w.heap.size) 41 _ := Blk.ext (by exact blkT) hxb; (try simp only [List.setIfInBounds_toArray, List.set_cons_zero, List.set_cons_succ] at Kb0); have CKb0 := Kb0.cell; have FKb0 := Kb0.frozen; have hyb__0 : w.heap.size < wb.heap.size := oM; (try (have Kb_a0 : Blk wb (wa.heap.size) _ _ := Blk.ext (by exact blkT) hxb; (try simp only [List.setIfInBounds_toArray, List.set_cons_zero, List.set_cons_succ] at Kb_a0); have CKb_a0 := Kb_a0.cell; have FKb_a0 := Kb_a0.frozen)); (try (have Kb_a1 : Blk wb (wa.heap.size + 1) _ _ := Blk.ext (by exact blkT) hxb; (try simp only [List.setIfInBounds_toArray, List.set_cons_zero, List.set_cons_succ] at Kb_a1); have CKb_a1 := Kb_a1.cell; have FKb_a1 := Kb_a1.frozen)); (try (have Kb_a2 : Blk wb (wa.heap.size + 1 + 1) _ _ := Blk.ext (by exact blkT) hxb; (try simp only [List.setIfInBounds_toArray, List.set_cons_zero, List.set_cons_succ] at Kb_a2); have CKb_a2 := Kb_a2.cell; have FKb_a2 := Kb_a2.frozen)); (try (have Kb_c0 : Blk wb (wc.heap.size) _ _ := Blk.ext (by exact blkT) hxb; (try simp only [List.setIfInBounds_toArray, List.set_cons_zero, List.set_cons_succ] at Kb_c0); have CKb_c0 := Kb_c0.cell; have FKb_c0 := Kb_c0.frozen)); (try (have Kb_c1 : Blk wb (wc.heap.size + 1) _ _ := Blk.ext (by exact blkT) hxb; (try simp only [List.setIfInBounds_toArray, List.set_cons_zero, List.set_cons_succ] at Kb_c1); have CKb_c1 := Kb_c1.cell; have FKb_c1 := Kb_c1.frozen)); (try (have Kb_c2 : Blk wb (wc.heap.size + 1 + 1) _ _ := Blk.ext (by exact blkT) hxb; (try simp only [List.setIfInBounds_toArray, List.set_cons_zero, List.set_cons_succ] at Kb_c2); have CKb_c2 := Kb_c2.cell; have FKb_c2 := Kb_c2.frozen))) | (go_at_call 32; refine (l1In_c _ _ _ _  ).mono ?_; rintro e wc ⟨rfl, rfl⟩))
   all_goals
    go_ret
    refine ⟨by first | rfl | (simp [storeOk, inb, Int.add_one_le_iff, *]; done) | (simp [storeOk, inb, Int.add_one_le_iff, *]; omega) | (simp_all [storeOk, inb, Int.add_one_le_iff, bq, bn]; done) | (simp_all [storeOk, inb, Int.add_one_le_iff, bq, bn]; omega), ?_⟩
    exact xT
theorem storeOk_c (w : World) (s0_0 : Value) (l0_0 : List (List Int)) (s0_1 : Value) (l0_1 : List DWrite) (c0_2 : Int) (c0_3 : Int) (s0_4 : Value) (l0_4 : List DPair) (s0_5 : Value) (l0_5 : List DJob) (c0_6 : Int) (c0_7 : Int) (c0_8 : Int) (c0_9 : Int) (c0_10 : Int) (c0_11 : Int) (h0_0 : Nest 0 w s0_0 (nestInt64S l0_0)) (h0_1 : Nest 1 w s0_1 (nestWrite l0_1)) (h0_4 : Ints 2 w s0_4 (flPair l0_4)) (h0_5 : Ints 5 w s0_5 (flJob l0_5)) :
  Calls Tryz.prog 33 #[.agg #[s0_0, s0_1, .int .i64 c0_2, .int .i64 c0_3, s0_4, s0_5, .int .i64 c0_6, .int .i64 c0_7, .int .i64 c0_8, .int .i64 c0_9, .int .i64 c0_10, .int .i64 c0_11]] w (RetV w (.bool (storeOk (⟨⟨l0_0, l0_1⟩, ⟨c0_2, c0_3, l0_4, l0_5, ⟨c0_6, c0_7, c0_8⟩⟩, c0_9, c0_10, c0_11⟩ : DStore)))) := by
 obtain ⟨a0_0, n0_0, k0_0, rfl⟩ := h0_0.shape
 obtain ⟨a0_1, n0_1, k0_1, rfl⟩ := h0_1.shape
 obtain ⟨a0_4, n0_4, k0_4, rfl⟩ := h0_4.shape
 obtain ⟨a0_5, n0_5, k0_5, rfl⟩ := h0_5.shape
 by_cases hl : 0 ≤ c0_10 ∧ c0_10 ≤ 2000
 obtain ⟨hl1, hl2⟩ := hl
 rotate_left
 have hno : stateOk (⟨c0_2, c0_3, l0_4, l0_5, ⟨c0_6, c0_7, c0_8⟩⟩ : DState) = true → inb c0_10 0 c0_2 = false := fun h => by
  have := stateOk_index h
  simp only [] at this
  by_cases h1 : inb c0_10 0 c0_2 = true
  ·
   have h2 := inb_true.1 h1
   exact (hl ⟨by omega, by omega⟩).elim
  simpa using h1
 clear hl
 all_goals
   have rsize_setRow := @size_setRow
   have rcell_setRow_lt := @cell_setRow_lt
   have rcell_setRow_gt := @cell_setRow_gt
   have rfrozen_setRow_lt := @frozen_setRow_lt
   have rfrozen_setRow_gt := @frozen_setRow_gt
   go_enter Tryz.func33, Tryz.ntmps33
   go_wp2_with (first | (go_at_call 54; refine (shelfOk_c _ _ _ _ _ (by first | (with_reducible exact Nest.ext (by assumption) xT) | (with_reducible exact Nest.ext (OwnNest.nest (by assumption)) xT)) (by first | (with_reducible exact Nest.ext (by assumption) xT) | (with_reducible exact Nest.ext (OwnNest.nest (by assumption)) xT)) ).mono ?_; rintro e wa ⟨rfl, hxa⟩; have hza := hxa.size; (repeat (first | simp only [World.size_alloc] at hza | simp only [World.size_setCell] at hza | simp only [size_setRow] at hza)); (try have hya_b_0 : wb.heap.size < wa.heap.size := oM); (try have hya_b_1 : wb.heap.size + 1 < wa.heap.size := oM); (try have hya_b_2 : wb.heap.size + 1 + 1 < wa.heap.size := oM); (try have hya_c_0 : wc.heap.size < wa.heap.size := oM); (try have hya_c_1 : wc.heap.size + 1 < wa.heap.size := oM); (try have hya_c_2 : wc.heap.size + 1 + 1 < wa.heap.size := oM); have Ka0 : Blk wa (w.heap.size) 41 _ := Blk.ext (by exact blkT) hxa; (try simp only [List.setIfInBounds_toArray, List.set_cons_zero, List.set_cons_succ] at Ka0); have CKa0 := Ka0.cell; have FKa0 := Ka0.frozen; have hya__0 : w.heap.size < wa.heap.size := oM; (try (have Ka_b0 : Blk wa (wb.heap.size) _ _ := Blk.ext (by exact blkT) hxa; (try simp only [List.setIfInBounds_toArray, List.set_cons_zero, List.set_cons_succ] at Ka_b0); have CKa_b0 := Ka_b0.cell; have FKa_b0 := Ka_b0.frozen)); (try (have Ka_b1 : Blk wa (wb.heap.size + 1) _ _ := Blk.ext (by exact blkT) hxa; (try simp only [List.setIfInBounds_toArray, List.set_cons_zero, List.set_cons_succ] at Ka_b1); have CKa_b1 := Ka_b1.cell; have FKa_b1 := Ka_b1.frozen)); (try (have Ka_b2 : Blk wa (wb.heap.size + 1 + 1) _ _ := Blk.ext (by exact blkT) hxa; (try simp only [List.setIfInBounds_toArray, List.set_cons_zero, List.set_cons_succ] at Ka_b2); have CKa_b2 := Ka_b2.cell; have FKa_b2 := Ka_b2.frozen)); (try (have Ka_c0 : Blk wa (wc.heap.size) _ _ := Blk.ext (by exact blkT) hxa; (try simp only [List.setIfInBounds_toArray, List.set_cons_zero, List.set_cons_succ] at Ka_c0); have CKa_c0 := Ka_c0.cell; have FKa_c0 := Ka_c0.frozen)); (try (have Ka_c1 : Blk wa (wc.heap.size + 1) _ _ := Blk.ext (by exact blkT) hxa; (try simp only [List.setIfInBounds_toArray, List.set_cons_zero, List.set_cons_succ] at Ka_c1); have CKa_c1 := Ka_c1.cell; have FKa_c1 := Ka_c1.frozen)); (try (have Ka_c2 : Blk wa (wc.heap.size + 1 + 1) _ _ := Blk.ext (by exact blkT) hxa; (try simp only [List.setIfInBounds_toArray, List.set_cons_zero, List.set_cons_succ] at Ka_c2); have CKa_c2 := Ka_c2.cell; have FKa_c2 := Ka_c2.frozen))) | (go_at_call 61; refine (stateOk_c _ _ _ _ _ _ _ _ _ _ (by first | (with_reducible exact Ints.ext (by assumption) xT) | (with_reducible exact Ints.ext (OwnI.ints (by assumption)) xT) | with_reducible exact rnil_flPair _ _) (by first | (with_reducible exact Ints.ext (by assumption) xT) | (with_reducible exact Ints.ext (OwnI.ints (by assumption)) xT) | with_reducible exact rnil_flJob _ _) ).mono ?_; rintro e wb ⟨rfl, hxb⟩; have hzb := hxb.size; (repeat (first | simp only [World.size_alloc] at hzb | simp only [World.size_setCell] at hzb | simp only [size_setRow] at hzb)); (try have hyb_a_0 : wa.heap.size < wb.heap.size := oM); (try have hyb_a_1 : wa.heap.size + 1 < wb.heap.size := oM); (try have hyb_a_2 : wa.heap.size + 1 + 1 < wb.heap.size := oM); (try have hyb_c_0 : wc.heap.size < wb.heap.size := oM); (try have hyb_c_1 : wc.heap.size + 1 < wb.heap.size := oM); (try have hyb_c_2 : wc.heap.size + 1 + 1 < wb.heap.size := oM); have Kb0 : Blk wb (w.heap.size) 41 _ := Blk.ext (by exact blkT) hxb; (try simp only [List.setIfInBounds_toArray, List.set_cons_zero, List.set_cons_succ] at Kb0); have CKb0 := Kb0.cell; have FKb0 := Kb0.frozen; have hyb__0 : w.heap.size < wb.heap.size := oM; (try (have Kb_a0 : Blk wb (wa.heap.size) _ _ := Blk.ext (by exact blkT) hxb; (try simp only [List.setIfInBounds_toArray, List.set_cons_zero, List.set_cons_succ] at Kb_a0); have CKb_a0 := Kb_a0.cell; have FKb_a0 := Kb_a0.frozen)); (try (have Kb_a1 : Blk wb (wa.heap.size + 1) _ _ := Blk.ext (by exact blkT) hxb; (try simp only [List.setIfInBounds_toArray, List.set_cons_zero, List.set_cons_succ] at Kb_a1); have CKb_a1 := Kb_a1.cell; have FKb_a1 := Kb_a1.frozen)); (try (have Kb_a2 : Blk wb (wa.heap.size + 1 + 1) _ _ := Blk.ext (by exact blkT) hxb; (try simp only [List.setIfInBounds_toArray, List.set_cons_zero, List.set_cons_succ] at Kb_a2); have CKb_a2 := Kb_a2.cell; have FKb_a2 := Kb_a2.frozen)); (try (have Kb_c0 : Blk wb (wc.heap.size) _ _ := Blk.ext (by exact blkT) hxb; (try simp only [List.setIfInBounds_toArray, List.set_cons_zero, List.set_cons_succ] at Kb_c0); have CKb_c0 := Kb_c0.cell; have FKb_c0 := Kb_c0.frozen)); (try (have Kb_c1 : Blk wb (wc.heap.size + 1) _ _ := Blk.ext (by exact blkT) hxb; (try simp only [List.setIfInBounds_toArray, List.set_cons_zero, List.set_cons_succ] at Kb_c1); have CKb_c1 := Kb_c1.cell; have FKb_c1 := Kb_c1.frozen)); (try (have Kb_c2 : Blk wb (wc.heap.size + 1 + 1) _ _ := Blk.ext (by exact blkT) hxb; (try simp only [List.setIfInBounds_toArray, List.set_cons_zero, List.set_cons_succ] at Kb_c2); have CKb_c2 := Kb_c2.cell; have FKb_c2 := Kb_c2.frozen))) | (go_at_call 62; refine (between_c _ _ _ _  ).mono ?_; rintro e wc ⟨rfl, rfl⟩))
   all_goals
    go_ret
    refine ⟨by first | rfl | (simp [storeOk, inb, *]; done) | (simp [storeOk, inb, *]; omega) | (simp_all [storeOk, inb, bq, bn]; done) | (simp_all [storeOk, inb, bq, bn]; omega), ?_⟩
    exact xT
theorem fetchOf_c (w : World) (s0_0 : Value) (l0_0 : List (List Int)) (s0_1 : Value) (l0_1 : List DWrite) (c0_2 : Int) (c0_3 : Int) (s0_4 : Value) (l0_4 : List DPair) (s0_5 : Value) (l0_5 : List DJob) (c0_6 : Int) (c0_7 : Int) (c0_8 : Int) (c0_9 : Int) (c0_10 : Int) (c0_11 : Int) (h0_0 : Nest 0 w s0_0 (nestInt64S l0_0)) (h0_1 : Nest 1 w s0_1 (nestWrite l0_1)) (h0_4 : Ints 2 w s0_4 (flPair l0_4)) (h0_5 : Ints 5 w s0_5 (flJob l0_5)) :
  Calls Tryz.prog 19 #[.agg #[s0_0, s0_1, .int .i64 c0_2, .int .i64 c0_3, s0_4, s0_5, .int .i64 c0_6, .int .i64 c0_7, .int .i64 c0_8, .int .i64 c0_9, .int .i64 c0_10, .int .i64 c0_11]] w (RetV w (.int .i64 (fetchOf (⟨⟨l0_0, l0_1⟩, ⟨c0_2, c0_3, l0_4, l0_5, ⟨c0_6, c0_7, c0_8⟩⟩, c0_9, c0_10, c0_11⟩ : DStore)))) := by
 obtain ⟨a0_0, n0_0, k0_0, rfl⟩ := h0_0.shape
 obtain ⟨a0_1, n0_1, k0_1, rfl⟩ := h0_1.shape
 obtain ⟨a0_4, n0_4, k0_4, rfl⟩ := h0_4.shape
 obtain ⟨a0_5, n0_5, k0_5, rfl⟩ := h0_5.shape
 cases hb : storeOk (⟨⟨l0_0, l0_1⟩, ⟨c0_2, c0_3, l0_4, l0_5, ⟨c0_6, c0_7, c0_8⟩⟩, c0_9, c0_10, c0_11⟩ : DStore)
 rotate_left
 have hix := stateOk_index (storeOk_state hb)
 simp only [] at hix
 obtain ⟨hi1, hi2⟩ := hix
 all_goals
   have rsize_setRow := @size_setRow
   have rcell_setRow_lt := @cell_setRow_lt
   have rcell_setRow_gt := @cell_setRow_gt
   have rfrozen_setRow_lt := @frozen_setRow_lt
   have rfrozen_setRow_gt := @frozen_setRow_gt
   go_enter Tryz.func19, Tryz.ntmps19
   go_wp2_with (first | (go_at_call 33; refine (storeOk_c _ _ _ _ _ _ _ _ _ _ _ _ _ _ _ _ _ (by first | (with_reducible exact Nest.ext (by assumption) xT) | (with_reducible exact Nest.ext (OwnNest.nest (by assumption)) xT)) (by first | (with_reducible exact Nest.ext (by assumption) xT) | (with_reducible exact Nest.ext (OwnNest.nest (by assumption)) xT)) (by first | (with_reducible exact Ints.ext (by assumption) xT) | (with_reducible exact Ints.ext (OwnI.ints (by assumption)) xT) | with_reducible exact rnil_flPair _ _) (by first | (with_reducible exact Ints.ext (by assumption) xT) | (with_reducible exact Ints.ext (OwnI.ints (by assumption)) xT) | with_reducible exact rnil_flJob _ _) ).mono ?_; rintro e wa ⟨rfl, hxa⟩; have hza := hxa.size; (repeat (first | simp only [World.size_alloc] at hza | simp only [World.size_setCell] at hza | simp only [size_setRow] at hza)); have Ka0 : Blk wa (w.heap.size) 41 _ := Blk.ext (by exact blkT) hxa; (try simp only [List.setIfInBounds_toArray, List.set_cons_zero, List.set_cons_succ] at Ka0); have CKa0 := Ka0.cell; have FKa0 := Ka0.frozen; have hya__0 : w.heap.size < wa.heap.size := oM))
   all_goals
    go_ret
    refine ⟨by first | rfl | (simp [fetchOf, *]; done) | (simp [fetchOf, *]; omega) | (simp_all [fetchOf, bq, bn]; done) | (simp_all [fetchOf, bq, bn]; omega), ?_⟩
    exact xT
theorem RdStore.disk {w : World} {s : DStore} {t0 t1 t4 t5 x2 x3 x6 x7 x8 x9 x10 x11 : Value} (h : RdStore w (.agg #[t0, t1, x2, x3, t4, t5, x6, x7, x8, x9, x10, x11]) s) : RdDisk w (.agg #[t0, t1]) s.Disk ∧ RdState w (.agg #[.int .i64 s.State.Index, .int .i64 s.State.Time, t4, t5, .int .i64 s.State.Lease.Holder, .int .i64 s.State.Lease.Epoch, .int .i64 s.State.Lease.Until]) s.State := by
 obtain ⟨u0, u1, u4, u5, e, h0, h1, h4, h5⟩ := h
 injection e with e
 injection e with e
 injection e with e0 e
 injection e with e1 e
 injection e with _ e
 injection e with _ e
 injection e with e4 e
 injection e with e5 e
 subst e0; subst e1; subst e4; subst e5
 exact ⟨⟨_, _, rfl, h0, h1⟩, ⟨_, _, rfl, h4, h5⟩⟩
theorem RdStore.wait {w : World} {v : Value} {s : DStore} (h : RdStore w v s) : ∃ a0 n0 k0 a1 k1 a4 n4 k4 a5 n5 k5, v = .agg #[.slice a0 n0 k0, .slice a1 s.Disk.Wait.length k1, .int .i64 s.State.Index, .int .i64 s.State.Time, .slice a4 n4 k4, .slice a5 n5 k5, .int .i64 s.State.Lease.Holder, .int .i64 s.State.Lease.Epoch, .int .i64 s.State.Lease.Until, .int .i64 s.Num, .int .i64 s.Last, .int .i64 s.Busy] ∧ s.Disk.Wait.length ≤ 9223372036854775807 := by
 obtain ⟨t0, t1, t4, t5, rfl, h0, h1, h4, h5⟩ := h
 obtain ⟨a0, n0, k0, rfl⟩ := h0.shape
 obtain ⟨a1, k1, rfl, hc, hm, _⟩ := Nest.writes h1
 obtain ⟨a4, n4, k4, rfl⟩ := h4.shape
 obtain ⟨a5, n5, k5, rfl⟩ := h5.shape
 unfold maxLen at hm
 exact ⟨a0, n0, k0, a1, k1, a4, n4, k4, a5, n5, k5, rfl, by omega⟩
theorem fallK_none (d : DDisk) (n : Nat) : fallK false [] d n = d.Kept := by
 induction n with
 | zero => rfl
 | succ n ih =>
  unfold fallK
  cases d.Wait[n]? with
  | none => exact ih
  | some x => simp [fallStep, fate, ih]
theorem fallen_none {d : DDisk} (h : diskOk d = true) : fallenDisk false [] d = ⟨d.Kept, []⟩ := by
 unfold fallenDisk
 rw [if_pos h, fallK_none]
theorem shelfOk_disk {d : DDisk} (h : shelfOk d = true) : diskOk d = true := by
 unfold shelfOk at h
 rw [Bool.and_eq_true] at h
 exact h.1
theorem shotOk_num {s : DShot} (h : shotOk s = true) : 1 ≤ s.Num := by
 simp only [shotOk, Bool.and_eq_true] at h
 exact (inb_true.1 h.1).1
theorem newShot_ok {d : DDisk} (h : newOk d = true) : shotOk (newShot d) = true := by
 unfold newOk at h
 unfold newShot
 cases ht : newTwo d
 ·
  rw [ht] at h
  simp only [Bool.false_eq_true, if_false] at h ⊢
  exact atShot_ok h
 simp only [if_true]
 unfold newTwo at ht
 rw [Bool.and_eq_true] at ht
 exact atShot_ok ht.1
theorem storeOk_r {w : World} {v : Value} {s : DStore} (h : RdStore w v s) : Calls Tryz.prog 33 #[v] w (RetV w (.bool (storeOk s))) := by
 obtain ⟨t0, t1, t4, t5, rfl, h0, h1, h4, h5⟩ := h
 exact storeOk_c w t0 s.Disk.Kept t1 s.Disk.Wait _ _ t4 s.State.Pairs t5 s.State.Jobs _ _ _ _ _ _ h0 h1 h4 h5
theorem shelfOk_r {w : World} {v : Value} {d : DDisk} (h : RdDisk w v d) : Calls Tryz.prog 54 #[v] w (RetV w (.bool (shelfOk d))) := by
 obtain ⟨t0, t1, rfl, h0, h1⟩ := h
 exact shelfOk_c w t0 d.Kept t1 d.Wait h0 h1
theorem fallen_r {w : World} {v u : Value} {d : DDisk} {fates : List Int} (h : RdDisk w v d) (hu : Ints 1 w u fates) : Calls Tryz.prog 35 #[v, u] w (Ret w fun r w' => IsDisk w.heap.size w' r (fallenDisk false fates d)) := by
 obtain ⟨t0, t1, rfl, h0, h1⟩ := h
 exact fallen_c w t0 d.Kept t1 d.Wait u fates h0 h1 hu
theorem sStoreOk_r {w : World} {v : Value} {s : DStore} (h : RdStore w v s) : Calls Tryz.prog 12 #[v] w (RetV w (.bool (storeOk s))) := by
 obtain ⟨t0, t1, t4, t5, rfl, h0, h1, h4, h5⟩ := h
 exact sStoreOk_c w t0 s.Disk.Kept t1 s.Disk.Wait _ _ t4 s.State.Pairs t5 s.State.Jobs _ _ _ _ _ _ h0 h1 h4 h5
theorem l3Copy_r {w : World} {v : Value} {d : DDisk} (h : RdDisk w v d) (e : diskSmall d) : Calls Tryz.prog 37 #[v] w (Ret w fun r w' => IsDisk w.heap.size w' r d) := by
 obtain ⟨t0, t1, rfl, h0, h1⟩ := h
 exact l3Copy_c w t0 d.Kept t1 d.Wait h0 h1 e
section
variable {B : Nat} {w : World}
theorem OwStore.nil (B : Nat) (w : World) : OwStore B w (.agg #[.slice none 0 0, .slice none 0 0, .int .i64 0, .int .i64 0, .slice none 0 0, .slice none 0 0, .int .i64 0, .int .i64 0, .int .i64 0, .int .i64 0, .int .i64 0, .int .i64 0]) ⟨⟨[], []⟩, ⟨0, 0, [], [], ⟨0, 0, 0⟩⟩, 0, 0, 0⟩ [] :=
 ⟨_, _, _, _, [], [], rfl, OwnNs.nil _ _ _ _ _, OwnNs.nil _ _ _ _ _, OwnI.nil _ _ _ _, OwnI.nil _ _ _ _, by simp [feet, Value.ownBlock], by simp [feet, Value.ownBlock]⟩
theorem IsDisk.store {a b : Value} {d : DDisk} (h : IsDisk B w (.agg #[a, b]) d) : ∃ F, OwStore B w (.agg #[a, b, .int .i64 0, .int .i64 0, .slice none 0 0, .slice none 0 0, .int .i64 0, .int .i64 0, .int .i64 0, .int .i64 0, .int .i64 0, .int .i64 0]) ⟨d, ⟨0, 0, [], [], ⟨0, 0, 0⟩⟩, 0, 0, 0⟩ F := by
 obtain ⟨t0, t1, ss0, ss1, e, h0, h1, hd⟩ := h
 injection e with e; injection e with e; injection e with e1 e; injection e with e2 _
 subst e1; subst e2
 exact ⟨_, _, _, _, _, ss0, ss1, rfl, h0, h1, OwnI.nil _ _ _ _, OwnI.nil _ _ _ _, hd, rfl⟩
end
noncomputable def fallenStore (fates : List Int) (s : DStore) : DStore := if storeOk s then ⟨fallenDisk false fates s.Disk, ⟨0, 0, [], [], ⟨0, 0, 0⟩⟩, 0, 0, 0⟩ else ⟨⟨[], []⟩, ⟨0, 0, [], [], ⟨0, 0, 0⟩⟩, 0, 0, 0⟩
theorem storeOk_disk {s : DStore} (h : storeOk s = true) : diskOk s.Disk = true := by
 simp only [storeOk, Bool.and_eq_true] at h
 exact shelfOk_disk h.1
theorem storeOk_k {w : World} {v : Value} {s : DStore} (h : RdStore w v s) : Calls Tryz.prog 33 #[v] w (RetV w (.bool (storeOk s))) := by
 obtain ⟨t0, t1, t4, t5, rfl, h0, h1, h4, h5⟩ := h
 exact storeOk_c w t0 s.Disk.Kept t1 s.Disk.Wait s.State.Index s.State.Time t4 s.State.Pairs t5 s.State.Jobs s.State.Lease.Holder s.State.Lease.Epoch s.State.Lease.Until s.Num s.Last s.Busy h0 h1 h4 h5
theorem fallenStore_k {w : World} {v : Value} {s : DStore} (h : RdStore w v s) {u : Value} {fates : List Int} (hf : Ints 1 w u fates) : Calls Tryz.prog 25 #[v, u] w (Ret w fun r w' => ∃ F, OwStore w.heap.size w' r (fallenStore fates s) F) := by
 have H := h
 obtain ⟨t0, t1, t4, t5, rfl, h0, h1, h4, h5⟩ := h
 obtain ⟨a0, n0, k0, rfl⟩ := h0.shape
 obtain ⟨a1, n1, k1, rfl⟩ := h1.shape
 obtain ⟨a4, n4, k4, rfl⟩ := h4.shape
 obtain ⟨a5, n5, k5, rfl⟩ := h5.shape
 obtain ⟨W0, hW0⟩ : ∃ W0, W0 = (w.alloc (.cells #[.slice a0 n0 k0, .slice a1 n1 k1, .int .i64 s.State.Index, .int .i64 s.State.Time, .slice a4 n4 k4, .slice a5 n5 k5, .int .i64 s.State.Lease.Holder, .int .i64 s.State.Lease.Epoch, .int .i64 s.State.Lease.Until, .int .i64 s.Num, .int .i64 s.Last, .int .i64 s.Busy] 41)).alloc (.cells #[.slice none 0 0, .slice none 0 0, .int .i64 0, .int .i64 0, .slice none 0 0, .slice none 0 0, .int .i64 0, .int .i64 0, .int .i64 0, .int .i64 0, .int .i64 0, .int .i64 0] 41) := ⟨_, rfl⟩
 have hE0 : Ext w W0 := by rw [hW0]; exact ((Ext.refl _).alloc _).alloc _
 have hs0 : W0.heap.size = w.heap.size + 1 + 1 := by rw [hW0]; simp
 have KR0 : Blk W0 (w.heap.size + 1) 41 #[.slice none 0 0, .slice none 0 0, .int .i64 0, .int .i64 0, .slice none 0 0, .slice none 0 0, .int .i64 0, .int .i64 0, .int .i64 0, .int .i64 0, .int .i64 0, .int .i64 0] := by rw [hW0]; exact Blk.new2 _ _ _ _
 have KP0 : Blk W0 w.heap.size 41 #[.slice a0 n0 k0, .slice a1 n1 k1, .int .i64 s.State.Index, .int .i64 s.State.Time, .slice a4 n4 k4, .slice a5 n5 k5, .int .i64 s.State.Lease.Holder, .int .i64 s.State.Lease.Epoch, .int .i64 s.State.Lease.Until, .int .i64 s.Num, .int .i64 s.Last, .int .i64 s.Busy] := by rw [hW0]; exact (Blk.new _ _ _).alloc _
 have HW0 := Lib.hid hW0
 clear hW0
 obtain ⟨a2, n2, k2, rfl⟩ := hf.shape
 go_enter Tryz.func25, Tryz.ntmps25
 go_wp2_with fail
 rw [← HW0.out]
 refine (storeOk_k (H.ext hE0)).mono ?_
 rintro e w1 ⟨rfl, hx1⟩
 have hz1 := hx1.size; have KR1 := KR0.ext hx1; have KP1 := KP0.ext hx1; have CR1 := KR1.cell; have FR1 := KR1.frozen; have CP1 := KP1.cell
 have hE1 : Ext w w1 := hE0.trans hx1
 cases hb : storeOk s
 ·
  go_wp2_with fail
  refine bodyPost_ret (by simp [results, Tryz.results25, go_sem, *]; try rfl) rfl ?_
  refine ⟨_, rfl, ?_, [], (OwStore.nil _ _).cast (by simp [fallenStore, hb])⟩
  exact xT
 go_wp2_with fail
 refine (fallen_c _ _ s.Disk.Kept _ s.Disk.Wait _ fates (h0.ext hE1) (h1.ext hE1) (hf.ext hE1)).mono ?_
 rintro e w2 ⟨_, rfl, hx2, hd⟩
 obtain ⟨b0, m0, j0, b1, m1, j1, rfl⟩ := hd.shape
 have KR2 := KR1.ext hx2; have CR2 := KR2.cell; have FR2 := KR2.frozen; have hz2 := hx2.size
 have hbd : ∀ w : World, (Instr.build 41 #[(0, .agg #[.slice b0 m0 j0, .slice b1 m1 j1])]).run Tryz.prog w = .ok (.agg #[.slice b0 m0 j0, .slice b1 m1 j1, .int .i64 0, .int .i64 0, .slice none 0 0, .slice none 0 0, .int .i64 0, .int .i64 0, .int .i64 0, .int .i64 0, .int .i64 0, .int .i64 0]) w := fun _ => by kernel_rfl
 go_wp2_with fail
 refine bodyPost_ret (by simp [results, Tryz.results25, go_sem, *]; try rfl) rfl ?_
 rw [show fallenStore fates s = ⟨fallenDisk false fates s.Disk, ⟨0, 0, [], [], ⟨0, 0, 0⟩⟩, 0, 0, 0⟩ by simp [fallenStore, hb]]
 refine ⟨_, rfl, ?_, (IsDisk.mono (IsDisk.keep hd chgT) oM).store⟩
 exact xT
end Go.Proofs.YtlnkggpemdpemaaGreat
namespace Go.G8
open Go.RowKit
def wipeK (K : List (List Int)) (s : Nat) : Nat → List (List Int)
 | 0 => K
 | k + 1 => (wipeK K s k).set (s + k) []
theorem wipeK_len (K : List (List Int)) (s k : Nat) : (wipeK K s k).length = K.length := by
 induction k with
 | zero => rfl
 | succ k ih => simp [wipeK, ih]
def wipedSlot (d : DDisk) (c : Int) : DDisk := if shelfOk d then (if c = 0 ∨ c = 1 then ⟨wipeK (fallK true [] d d.Wait.length) (c * 4).toNat 4, []⟩ else d) else ⟨[], []⟩
theorem OwnNs.apart {B B' : Nat} {e e1 e2 e3 : TypeId} {n m : Nat} {w : World} {v v1 : Value} {rows rows1 : List NRow} {ss : List Value} (h : OwnNs B e e1 n w v rows ss) (h1 : OwnNs B' e2 e3 m w v1 rows1 []) (n1 : e2 ≠ e) (n2 : e2 ≠ e1) : ∀ k, k ∈ feet (v :: ss) → k ∈ feet [v1] → False := by
 intro k hk hk1
 simp only [feet, List.mem_filterMap] at hk1
 obtain ⟨u, hu, hf⟩ := hk1
 simp at hu; subst hu
 obtain ⟨cur, hb⟩ := Own.typed h1.2.2.1 hf
 exact h.no hb n1 n2 hk
end Go.G8
namespace Go.Proofs.YtlnkggpemdpemaaGreat
open Go.RowKit Go.G8
theorem slotOk_c (w : World) (c : Int) : Calls Tryz.prog 85 #[.int .i64 c] w (fun e w' => e = .returned (.bool (decide (c = 0 ∨ c = 1))) ∧ w = w') := by
 by_cases h0 : c = 0
 ·
  go_enter Tryz.func85, Tryz.ntmps85
  go_wp2
  all_goals (go_ret; exact ⟨by by_cases h1 : c = 1 <;> simp [h0, h1], rfl⟩)
 go_enter Tryz.func85, Tryz.ntmps85
 go_wp2
 all_goals (go_ret; exact ⟨by by_cases h1 : c = 1 <;> simp [h0, h1], rfl⟩)
theorem wipedSlot_c (w : World) (s0_0 : Value) (l0_0 : List (List Int)) (s0_1 : Value) (l0_1 : List DWrite) (c1_0 : Int) (h0_0 : Nest 0 w s0_0 (nestInt64S l0_0)) (h0_1 : Nest 1 w s0_1 (nestWrite l0_1)) :
  Calls Tryz.prog 55 #[.agg #[s0_0, s0_1], .int .i64 c1_0] w (Ret w fun r0 w' => IsDisk w.heap.size w' r0 (wipedSlot ⟨l0_0, l0_1⟩ c1_0)) := by
 obtain ⟨a0, n0, k0, rfl⟩ := h0_0.shape
 obtain ⟨a1, n1, k1, rfl⟩ := h0_1.shape
 obtain ⟨W0, hW0⟩ : ∃ W0, W0 = (w.alloc (.cells #[.slice a0 n0 k0, .slice a1 n1 k1] 33)).alloc (.cells #[.slice none 0 0, .slice none 0 0] 33) := ⟨_, rfl⟩
 have hE0 : Ext w W0 := by rw [hW0]; exact ((Ext.refl _).alloc _).alloc _
 have hs0 : W0.heap.size = w.heap.size + 1 + 1 := by rw [hW0]; simp
 have KR0 : Blk W0 (w.heap.size + 1) 33 #[.slice none 0 0, .slice none 0 0] := by rw [hW0]; exact Blk.new2 _ _ _ _
 have KP0 : Blk W0 w.heap.size 33 #[.slice a0 n0 k0, .slice a1 n1 k1] := by rw [hW0]; exact (Blk.new _ _ _).alloc _
 have HW0 := Lib.hid hW0
 clear hW0
 go_enter Tryz.func55, Tryz.ntmps55
 go_wp2_with fail
 rw [← HW0.out]
 refine (shelfOk_c _ _ _ _ _ (h0_0.ext hE0) (h0_1.ext hE0)).mono ?_
 rintro e w1 ⟨rfl, hx1⟩
 have hz1 := hx1.size; have KR1 := KR0.ext hx1; have KP1 := KP0.ext hx1; have CR1 := KR1.cell; have FR1 := KR1.frozen; have CP1 := KP1.cell
 have hE1 : Ext w w1 := hE0.trans hx1
 cases hb : shelfOk ⟨l0_0, l0_1⟩
 ·
  go_wp2_with fail
  refine bodyPost_ret (by simp [results, Tryz.results55, go_sem, *]; try rfl) rfl ?_
  refine ⟨_, rfl, ?_, (IsDisk.nil _ _).cast (by simp [wipedSlot, hb])⟩
  exact Ext.setCell (Ext.setCell hE1 oM _) oM _
 have hdo := shelfOk_disk hb
 by_cases hc : c1_0 = 0 ∨ c1_0 = 1
 rotate_left
 ·
  go_wp2_with (first | (go_at_call 85; refine (slotOk_c _ _).mono ?_; rintro e ws ⟨rfl, rfl⟩))
  refine (copyDisk_c _ _ l0_0 _ l0_1 (h0_0.ext hE1) (h0_1.ext hE1) (diskOk_small hdo)).mono ?_
  rintro e w2 ⟨_, rfl, hx2, hd⟩
  obtain ⟨b0, m0, j0, b1, m1, j1, rfl⟩ := hd.shape
  have KR2 := KR1.ext hx2; have CR2 := KR2.cell; have FR2 := KR2.frozen; have hz2 := hx2.size
  go_wp2_with fail
  refine bodyPost_ret (by simp [results, Tryz.results55, go_sem, *]; try rfl) rfl ?_
  refine ⟨_, rfl, ?_, IsDisk.cast (IsDisk.mono (IsDisk.keep hd (((Chg.refl _ _).setLow oM _).setLow oM _)) oM) (by simp [wipedSlot, hb, hc])⟩
  exact Ext.setCell (Ext.setCell (hE1.trans hx2) oM _) oM _
 go_wp2_with (first | (go_at_call 85; refine (slotOk_c _ _).mono ?_; rintro e ws ⟨rfl, rfl⟩))
 refine (synced_c _ _ l0_0 _ l0_1 (h0_0.ext hE1) (h0_1.ext hE1)).mono ?_
 rintro e w2 ⟨_, rfl, hx2, hd⟩
 rw [show fallenDisk true [] ⟨l0_0, l0_1⟩ = (⟨fallK true [] ⟨l0_0, l0_1⟩ l0_1.length, []⟩ : DDisk) by simp [fallenDisk, hdo]] at hd
 have hw : wipedSlot ⟨l0_0, l0_1⟩ c1_0 = ⟨wipeK (fallK true [] ⟨l0_0, l0_1⟩ l0_1.length) (c1_0 * 4).toNat 4, []⟩ := by simp [wipedSlot, hb, hc]
 have hKl : (fallK true [] ⟨l0_0, l0_1⟩ l0_1.length).length = 8 := by
  rw [fallK_len]
  simp only [shelfOk, Bool.and_eq_true, decide_eq_true_eq] at hb
  exact hb.2
 generalize fallK true [] ⟨l0_0, l0_1⟩ l0_1.length = KK at hd hKl hw
 have HWS := Lib.hid hw
 clear hw
 obtain ⟨t0, t1, ss, ss1, rfl, ho0, ho1, hdj⟩ := hd
 have ho0 : OwnNs w1.heap.size 49 2 0 w2 t0 (nestInt64S KK) ss := ho0
 have ho1 : OwnNs w1.heap.size 117 2 1 w2 t1 (nestWrite []) ss1 := ho1
 have hl0 : (nestInt64S KK).length = 8 := by simp [nestInt64S, hKl]
 obtain rfl : ss1 = [] := List.eq_nil_of_length_eq_zero (by rw [ho1.2.1]; rfl)
 obtain ⟨g, oc, cur, rfl, hcp1, hcp2, hBg, _, _⟩ := ho0.open_ oM
 obtain ⟨pa, pc, rfl, hpc1, hpc2⟩ := ho1.len
 have hl1 : (nestWrite ([] : List DWrite)).length = 0 := rfl
 rw [hl0] at ho0 hdj ⊢
 rw [hl1] at ho1 hdj ⊢
 clear hl1
 have KR2 := KR1.ext hx2
 have hz2 := hx2.size
 obtain ⟨X, hX⟩ : ∃ X, X = w2.heap.size := ⟨_, rfl⟩
 obtain ⟨W2, hW2⟩ : ∃ W2, W2 = w2.alloc (.cells #[.slice (some ⟨g, 0, none⟩) 8 oc, .slice pa 0 pc] 33) := ⟨_, rfl⟩
 have hK0 : Blk W2 X 33 #[.slice (some ⟨g, 0, none⟩) 8 oc, .slice pa 0 pc] := by rw [hW2, hX]; exact Blk.new _ _ _
 have hE2 : Ext w2 W2 := by rw [hW2]; exact (Ext.refl _).alloc _
 have hE3 : Ext w1 W2 := hx2.trans hE2
 have hM0 : Mv w1.heap.size 49 2 117 W2 g 8 oc (wipeK KK (c1_0 * 4).toNat 0) (.slice pa 0 pc) [] [] 0 :=
  ⟨ss, ho0.ext hE2, ho1.ext hE2, fun hg => hdj g (by simp [feet, Value.ownBlock]) hg, fun j s f _ hs => by simp at hs⟩
 have hgX : g < X := by rw [hX]; exact (ho0.foot g (by simp [feet, Value.ownBlock])).2
 have hXa : w1.heap.size ≤ X := by rw [hX]; exact hz2
 have CK0 := hK0.cell
 have HX := Lib.hid hX; have HW2 := Lib.hid hW2
 clear hX hW2 ho0 ho1 hdj hx2 hcp1 hpc1 hl0 hz2
 rcases hc with rfl | rfl
 ·
  have hs : ((0 : Int) * 4).toNat = 0 := rfl
  rw [hs] at hM0
  have hw := HWS.out
  rw [hs] at hw
  have HWS := Lib.hid hw
  clear hs hw
  go_wp2_with fail
  rw [← HW2.out, ← HX.out]
  clear HW2 HX
  go_loopw [6] (fun i wr => ∃ k : Nat, k ≤ 4 ∧ i = .int .i64 ((k : Int) + 0) ∧ Ext w1 wr ∧ Blk wr X 33 #[.slice (some ⟨g, 0, none⟩) 8 oc, .slice pa 0 pc] ∧ Mv w1.heap.size 49 2 117 wr g 8 oc (wipeK KK 0 k) (.slice pa 0 pc) [] [] k) (fun i _ => 4 - (intOf i).toNat)
  case atStart => exact ⟨0, by omega, rfl, hE3, hK0, hM0⟩
  case round =>
   clear hK0 hM0 CK0 hE2 hE3 KR2
   obtain ⟨k, hk, rfl, he, hK, hM⟩ := hrel
   have hsz4 := he.size
   have hXq : X < wr.heap.size := hK.lt
   have hgq := hM.low
   have CK := hK.cell
   have FK := hK.frozen
   by_cases hlt : k < 4
   ·
    obtain ⟨cur2, ssk, hn, hGq, hsk, hcur⟩ := hM.blk (by rw [wipeK_len]; omega)
    have hfl := wipeK_len KK 0 k
    have hkl : 0 + k < 8 := by omega
    obtain ⟨rr, hrr⟩ : ∃ rr, (wipeK KK 0 k)[0 + k]? = some rr := ⟨_, List.getElem?_eq_getElem oM⟩
    obtain ⟨so, hso⟩ : ∃ so, ssk[0 + k]? = some so := ⟨_, List.getElem?_eq_getElem oM⟩
    have e9 : wr.cell? ⟨g, 0 + k, none⟩ = some so := by rw [hGq.cell]; exact (hcur _ rr so hrr hso).1
    have FG := hGq.frozen
    clear hn hsk hcur hrr hso hfl hGq
    rw [show 0 + k = k by omega] at e9
    go_wp2_with fail
    go_roundw
    case rel =>
     refine ⟨k + 1, by omega, by first | go_num | (simp; omega), Ext.setCell he oM _, hK.far (by simp; omega) _, ?_⟩
     show Mv _ _ _ _ _ _ _ _ ((wipeK KK 0 k).set (0 + k) []) _ _ _ _
     rw [show 0 + k = k by omega]
     exact hM.fresh (Ext.refl _) (OwnI.nil _ _ _ _) oM (by rw [wipeK_len]; omega)
    case measure => simp [intOf]; omega
   obtain rfl : k = 4 := by omega
   have KR3 := KR1.ext he
   have CR3 := KR3.cell
   have FR3 := KR3.frozen
   go_wp2_with fail
   refine bodyPost_ret (by simp [results, Tryz.results55, go_sem, *]; try rfl) rfl ?_
   obtain ⟨ss2, h2, h3, _, _⟩ := hM
   have hc1 : w.heap.size + 1 < w1.heap.size := by omega
   refine ⟨_, rfl, xT, IsDisk.cast ⟨_, _, ss2, [], rfl, OwnNs.mono (B := w1.heap.size) (h2.keep (((Chg.refl w1.heap.size _).setLow hc1 _).setLow hc1 _)) oM, OwnNs.mono (B := w1.heap.size) (h3.keep (((Chg.refl w1.heap.size _).setLow hc1 _).setLow hc1 _)) oM, h2.apart h3 dC dC⟩ HWS.out.symm⟩
 have hs : ((1 : Int) * 4).toNat = 4 := rfl
 rw [hs] at hM0
 have hw := HWS.out
 rw [hs] at hw
 have HWS := Lib.hid hw
 clear hs hw
 go_wp2_with fail
 rw [← HW2.out, ← HX.out]
 clear HW2 HX
 go_loopw [6] (fun i wr => ∃ k : Nat, k ≤ 4 ∧ i = .int .i64 ((k : Int) + 4) ∧ Ext w1 wr ∧ Blk wr X 33 #[.slice (some ⟨g, 0, none⟩) 8 oc, .slice pa 0 pc] ∧ Mv w1.heap.size 49 2 117 wr g 8 oc (wipeK KK 4 k) (.slice pa 0 pc) [] [] k) (fun i _ => 8 - (intOf i).toNat)
 case atStart => exact ⟨0, by omega, rfl, hE3, hK0, hM0⟩
 case round =>
  clear hK0 hM0 CK0 hE2 hE3 KR2
  obtain ⟨k, hk, rfl, he, hK, hM⟩ := hrel
  have hsz4 := he.size
  have hXq : X < wr.heap.size := hK.lt
  have hgq := hM.low
  have CK := hK.cell
  have FK := hK.frozen
  by_cases hlt : k < 4
  ·
   obtain ⟨cur2, ssk, hn, hGq, hsk, hcur⟩ := hM.blk (by rw [wipeK_len]; omega)
   have hfl := wipeK_len KK 4 k
   have hkl : 4 + k < 8 := by omega
   obtain ⟨rr, hrr⟩ : ∃ rr, (wipeK KK 4 k)[4 + k]? = some rr := ⟨_, List.getElem?_eq_getElem oM⟩
   obtain ⟨so, hso⟩ : ∃ so, ssk[4 + k]? = some so := ⟨_, List.getElem?_eq_getElem oM⟩
   have e9 : wr.cell? ⟨g, 4 + k, none⟩ = some so := by rw [hGq.cell]; exact (hcur _ rr so hrr hso).1
   have FG := hGq.frozen
   clear hn hsk hcur hrr hso hfl hGq
   rw [show 4 + k = (k + 4) by omega] at e9
   go_wp2_with fail
   go_roundw
   case rel =>
    refine ⟨k + 1, by omega, by first | go_num | (simp; omega), Ext.setCell he oM _, hK.far (by simp; omega) _, ?_⟩
    show Mv _ _ _ _ _ _ _ _ ((wipeK KK 4 k).set (4 + k) []) _ _ _ _
    rw [show 4 + k = (k + 4) by omega]
    exact hM.fresh (Ext.refl _) (OwnI.nil _ _ _ _) oM (by rw [wipeK_len]; omega)
   case measure => simp [intOf]; omega
  obtain rfl : k = 4 := by omega
  have KR3 := KR1.ext he
  have CR3 := KR3.cell
  have FR3 := KR3.frozen
  go_wp2_with fail
  refine bodyPost_ret (by simp [results, Tryz.results55, go_sem, *]; try rfl) rfl ?_
  obtain ⟨ss2, h2, h3, _, _⟩ := hM
  have hc1 : w.heap.size + 1 < w1.heap.size := by omega
  refine ⟨_, rfl, xT, IsDisk.cast ⟨_, _, ss2, [], rfl, OwnNs.mono (B := w1.heap.size) (h2.keep (((Chg.refl w1.heap.size _).setLow hc1 _).setLow hc1 _)) oM, OwnNs.mono (B := w1.heap.size) (h3.keep (((Chg.refl w1.heap.size _).setLow hc1 _).setLow hc1 _)) oM, h2.apart h3 dC dC⟩ HWS.out.symm⟩
end Go.Proofs.YtlnkggpemdpemaaGreat
