/- The statement FnGuess: the walk and the row. -/
import Derived.Test.YthihnangjghloaaKa
import Derived.Test.YthihnangjghloaaKv
import Derived.Test.YthihnangjghloaaKq
import Derived.Test.YthihnangjghloaaKz
import Derived.Test.YthihnangjghloaaKw
import Derived.Test.YthihnangjghloaaKc
set_option linter.unusedSimpArgs false
set_option linter.unusedVariables false
-- Views at two times, without the program.
set_option linter.unusedSimpArgs false
set_option linter.unusedVariables false
namespace Go.Proofs.Ythihnangjghloaa
open Go.RowKit Go.G8

end Go.Proofs.Ythihnangjghloaa
namespace Go.G8
open Go.RowKit
open Go.Proofs.Ythihnangjghloaa
theorem dueIds_mono (l : List DDue) {G G' : Int} (h0 : 0 ≤ G) (h : G ≤ G') : (dueIds l G).length ≤ (dueIds l G').length := by
 unfold dueIds
 rw [if_neg (by omega), if_neg (by omega), List.length_map, List.length_map]
 induction l with
 | nil => simp
 | cons d l ih =>
  simp only [List.filter_cons]
  by_cases h1 : d.Due ≤ G
  ·
   have h2 : d.Due ≤ G' := by omega
   simp only [h1, h2, decide_true, if_true, List.length_cons]; omega
  ·
   by_cases h2 : d.Due ≤ G'
   ·
    simp only [h1, h2, decide_true, decide_false, if_true, List.length_cons]; simp; omega
   ·
    simp only [h1, h2, decide_false]; exact ih
theorem guess_eq {v : DView} {now : Int} (hv : jobsOk2 v.Jobs = true) (h0 : 0 ≤ now) (h1 : now ≤ 1000000) : guessOf v now = max v.Jobs.Time now := by
 unfold guessOf
 have : timeOk now = true := inb_true.2 ⟨h0, h1⟩
 simp [hv, this]
theorem guess_mono {v : DView} {now : Int} (hv : jobsOk2 v.Jobs = true) (h0 : 0 ≤ now) (h1 : now < 1000000) : guessOf v now ≤ guessOf v (now + 1) ∧ 0 ≤ guessOf v now := by
 rw [guess_eq hv h0 (by omega), guess_eq hv (by omega) (by omega)]
 omega
theorem open_first {l : List DDue} (h : OpenOk l) {d : DDue} (hd : l[0]? = some d) : ∀ (i : Nat) (e : DDue), l[i]? = some e → d.Due ≤ e.Due
 | 0, e, he => by rw [hd] at he; cases he; exact Int.le_refl _
 | i + 1, e, he => by
  have hi : i + 1 < l.length := by
   rcases Nat.lt_or_ge (i + 1) l.length with h' | h'
   ·
    exact h'
   ·
    rw [List.getElem?_eq_none h'] at he; cases he
  have hp : l[i]? = some l[i] := List.getElem?_eq_getElem (by omega)
  have h1 := open_first h hd i _ hp
  have h2 := (h.2 (i + 1) hi e he).2.2.1 l[i] (by omega) (by simp)
  simp only [dueLess, decide_eq_true_eq] at h2
  omega
/-- The first open job that is due is the first of all. -/
theorem due_first {v : DView} (hv : jobsOk2 v.Jobs = true) {G : Int} (h : 0 < (dueIds v.Jobs.Open G).length) : ∃ d t, v.Jobs.Open = d :: t ∧ (dueIds v.Jobs.Open G).headD 0 = d.Id := by
 have ho : OpenOk v.Jobs.Open := by
  simp only [jobsOk2, Bool.and_eq_true] at hv
  exact openOk_iff.1 hv.2.2.2.2.2
 cases hl : v.Jobs.Open with
 | nil => rw [hl] at h; simp [dueIds] at h
 | cons d t =>
  refine ⟨d, t, rfl, ?_⟩
  rw [hl] at h ho
  unfold dueIds at h ⊢
  by_cases hG : G < 0
  ·
   rw [if_pos hG] at h; simp at h
  rw [if_neg hG] at h ⊢
  by_cases h1 : d.Due ≤ G
  ·
   rw [List.filter_cons_of_pos (by simpa using h1)]; rfl
  ·
   exfalso
   rw [List.length_map] at h
   obtain ⟨e, he⟩ := List.exists_mem_of_length_pos h
   obtain ⟨he1, he2⟩ := List.mem_filter.1 he
   obtain ⟨i, hi⟩ := List.mem_iff_getElem?.1 he1
   have := open_first ho (d := d) rfl i e hi
   simp at he2
   omega
theorem free_holds {v : DView} {now id : Int} (h : freeIn v now = true) (hid : id = 2 ∨ id = 3) : holdsIn v id now = false := by
 simp only [freeIn, Bool.and_eq_true, Bool.or_eq_true, decide_eq_true_eq] at h
 unfold holdsIn
 by_cases h1 : v.Jobs.Holder = id
 ·
  by_cases h2 : guessOf v now < v.Jobs.Until
  ·
   omega
  ·
   simp [h2]
 ·
  simp [h1]
end Go.G8
namespace Go.Proofs.Ythihnangjghloaa
open Go.RowKit Go.G8

end Go.Proofs.Ythihnangjghloaa

-- The statement's walk: FnGuess.
set_option linter.unusedSimpArgs false
set_option linter.unusedVariables false
namespace Go.Proofs.Ythihnangjghloaa
open Go.RowKit Go.G8

/-- The Id of a list's first job. -/
def firstId (l : List DDue) : Int := (l.map DDue.Id).headD 0
set_option maxHeartbeats 4000000 in
set_option maxRecDepth 100000 in
theorem w6First_c (w : World) (v : DView) (s : Value) (h : Ints 2 w s (dues v.Jobs.Open)) : Calls Try.prog 35 #[.agg #[.int .i64 v.Jobs.Index, .int .i64 v.Jobs.Time, .int .i64 v.Jobs.Holder, .int .i64 v.Jobs.Epoch, .int .i64 v.Jobs.Until, s]] w (RetV w (.int .i64 (firstId v.Jobs.Open))) := by
 obtain ⟨a, cap, rfl, hcap, hm, ha⟩ := h.recs (f := DDue.ints) (fun _ => rfl) (by decide)
 cases hl : v.Jobs.Open with
 | nil =>
  rw [hl] at ha hcap
  clear ha
  go_enter Try.func35, Try.ntmps35
  go_wp2
  go_ret
  exact ⟨rfl, by exact extT⟩
 | cons d t =>
  rw [hl] at ha hcap; unfold maxLen at hm
  obtain ⟨d9, b, o, hd, rfl, hb, hc⟩ := ha 0 (by simp)
  have hd9 : d9 = d := by simpa using hd.symm
  subst hd9
  have c0 := hc 0 _ (by decide) rfl
  simp only [Nat.zero_mul, Nat.add_zero] at c0
  obtain ⟨n, hn⟩ : ∃ n, n = (d9 :: t).length := ⟨_, rfl⟩
  have hn0 : 0 < n := by rw [hn]; simp
  rw [← hn] at hcap ⊢
  have h0 : ((n : Int) == 0) = false := by simp; omega
  clear hc hd hn
  go_enter Try.func35, Try.ntmps35
  go_wp2
  go_ret
  exact ⟨by first | rfl | (simp [firstId]; done), by exact extT⟩
theorem nf_first {v : DView} {now : Int} (hv : jobsOk2 v.Jobs = true) (h : nfOk v now = true) : nfId v now = firstId v.Jobs.Open := by
 unfold nfOk at h
 simp only [decide_eq_true_eq] at h
 obtain ⟨d, t, e1, e2⟩ := due_first hv h
 unfold nfId firstId
 rw [e2, e1]; rfl
set_option maxHeartbeats 4000000 in
set_option maxRecDepth 100000 in
theorem law_Guess (w : World) (v : Value) (h : Bytes w v) : Calls Try.prog 6 #[v] w (RetV w (.bool true)) := by
 obtain ⟨bs, hbs, hbo⟩ := h
 obtain ⟨a, n, k, rfl⟩ := hbs.shape
 have HB : Bytes w (.slice a n k) := ⟨bs, hbs, hbo⟩
 clear hbs hbo
 have E0 : Ext w w := Ext.refl _
 go_enter Try.func6, Try.ntmps6
 go_wp2_with fail
 refine (big_c _ a n k).mono ?_
 rintro e9 w9 ⟨rfl, rfl⟩
 by_cases hbig : (4096 : Int) < (n : Int)
 ·
  go_wp2_with fail
  go_ret
  exact ⟨rfl, by exact extT⟩
 go_wp2_with fail
 refine (drawNextFire_c (HB.ext (by exact extT))).mono ?_
 rintro e w1 ⟨_, rfl, hx1, v, x, now, rfl, t5, rfl, hv⟩
 have X1 : Ext w w1 := Ext.trans (by exact extT) hx1
 have hz1 := X1.size
 have hy1 := hx1.size; (try simp only [szA] at hy1)
 have HB := HB.ext X1
 have E1 : Ext w w1 := E0.trans X1
 clear hx1 X1
 clear HB
 obtain ⟨av, nv, kv, rfl⟩ := hv.shape
 go_wp2_with fail
 refine (sViewOk_c _ v _ (hv.ext (by exact extT))).mono ?_
 rintro e w2 ⟨rfl, hx2⟩
 have X2 : Ext w1 w2 := Ext.trans (by exact extT) hx2
 have hz2 := X2.size
 have hy2 := hx2.size; (try simp only [szA] at hy2)
 have KV2 : Blk w2 w1.heap.size 34 #[.int .i64 v.Jobs.Index, .int .i64 v.Jobs.Time, .int .i64 v.Jobs.Holder, .int .i64 v.Jobs.Epoch, .int .i64 v.Jobs.Until, .slice av nv kv] := Blk.ext (Blk.cast (by exact blkT) setsT) hx2
 have hv := hv.ext X2
 have E2 : Ext w w2 := E1.trans X2
 clear hx2 X2 E1
 have CV2 := KV2.cell; have FV2 := KV2.frozen; have LV2 := KV2.lt
 cases hok : jobsOk2 v.Jobs
 ·
  skip
  obtain ⟨G, hG⟩ : ∃ G, G = guessOf v now := ⟨_, rfl⟩
  have HG := Lib.hid hG; clear hG
  go_wp2_with fail
  refine wp_region_ext (by kernel_rfl) (by kernel_rfl) ?_
  repeat (first | go_big_quiet_skip | (go_big_quiet_want; first | (refine quiet_load _ _ _ ?_ rfl rfl (fun wq hq => ?_) ?_; rotate_left; (focus (have q0 := (KV2.ext hq).cell; go_simp; first | done | rfl)); (try simp only [Act.put, List.setIfInBounds_toArray, List.set_cons_zero, List.set_cons_succ]); go_big_quiet_on) | (go_big_quiet_op; first | go_big_quiet_on | (refine ⟨_, fun _ _ => rfl, ?_⟩; go_big_quiet_on) | (apply Exists.intro; refine ⟨fun wq hq => ?_, ?_⟩; (focus (first | (have c := guessOf_c wq v _ now (hv.ext hq); rw [← HG.out] at c; with_reducible exact call_ext hq c) | (have c := sGuessOf_c wq v _ now (hv.ext hq); rw [← HG.out] at c; with_reducible exact call_ext hq c))); go_big_quiet_on))))
  refine wpQuiet_nil ?_
  intro w9 hx9
  go_wp2_with fail
  go_ret
  exact ⟨by first | rfl | (simp [*]; done), by exact extT⟩
 ·
  skip
  by_cases h0 : now < 0
  ·
   skip
   obtain ⟨G, hG⟩ : ∃ G, G = guessOf v now := ⟨_, rfl⟩
   have HG := Lib.hid hG; clear hG
   go_wp2_with fail
   refine wp_region_ext (by kernel_rfl) (by kernel_rfl) ?_
   repeat (first | go_big_quiet_skip | (go_big_quiet_want; first | (refine quiet_load _ _ _ ?_ rfl rfl (fun wq hq => ?_) ?_; rotate_left; (focus (have q0 := (KV2.ext hq).cell; go_simp; first | done | rfl)); (try simp only [Act.put, List.setIfInBounds_toArray, List.set_cons_zero, List.set_cons_succ]); go_big_quiet_on) | (go_big_quiet_op; first | go_big_quiet_on | (refine ⟨_, fun _ _ => rfl, ?_⟩; go_big_quiet_on) | (apply Exists.intro; refine ⟨fun wq hq => ?_, ?_⟩; (focus (first | (have c := guessOf_c wq v _ now (hv.ext hq); rw [← HG.out] at c; with_reducible exact call_ext hq c) | (have c := sGuessOf_c wq v _ now (hv.ext hq); rw [← HG.out] at c; with_reducible exact call_ext hq c))); go_big_quiet_on))))
   refine wpQuiet_nil ?_
   intro w9 hx9
   go_wp2_with fail
   go_ret
   exact ⟨by first | rfl | (simp [*]; done), by exact extT⟩
  ·
   skip
   by_cases h1 : (1000000 : Int) ≤ now
   ·
    skip
    obtain ⟨G, hG⟩ : ∃ G, G = guessOf v now := ⟨_, rfl⟩
    have HG := Lib.hid hG; clear hG
    go_wp2_with fail
    refine wp_region_ext (by kernel_rfl) (by kernel_rfl) ?_
    repeat (first | go_big_quiet_skip | (go_big_quiet_want; first | (refine quiet_load _ _ _ ?_ rfl rfl (fun wq hq => ?_) ?_; rotate_left; (focus (have q0 := (KV2.ext hq).cell; go_simp; first | done | rfl)); (try simp only [Act.put, List.setIfInBounds_toArray, List.set_cons_zero, List.set_cons_succ]); go_big_quiet_on) | (go_big_quiet_op; first | go_big_quiet_on | (refine ⟨_, fun _ _ => rfl, ?_⟩; go_big_quiet_on) | (apply Exists.intro; refine ⟨fun wq hq => ?_, ?_⟩; (focus (first | (have c := guessOf_c wq v _ now (hv.ext hq); rw [← HG.out] at c; with_reducible exact call_ext hq c) | (have c := sGuessOf_c wq v _ now (hv.ext hq); rw [← HG.out] at c; with_reducible exact call_ext hq c))); go_big_quiet_on))))
    refine wpQuiet_nil ?_
    intro w9 hx9
    go_wp2_with fail
    go_ret
    exact ⟨by first | rfl | (simp [*]; done), by exact extT⟩
   ·
    skip
    obtain ⟨y1, y0⟩ := guess_mono (v := v) hok (by omega) (by omega : now < 1000000)
    have y2 := dueIds_mono v.Jobs.Open y0 y1
    have e1 : IntKind.i64.wrap (now + 1) = now + 1 := by rw [IntKind.wrap_i64]; omega
    obtain ⟨G, hG⟩ : ∃ G, guessOf v now = G := ⟨_, rfl⟩
    obtain ⟨G2, hG2⟩ : ∃ G, guessOf v (now + 1) = G := ⟨_, rfl⟩
    obtain ⟨N, hN⟩ : ∃ N : Nat, (dueIds v.Jobs.Open (guessOf v now)).length = N := ⟨_, rfl⟩
    obtain ⟨N2, hN2⟩ : ∃ N : Nat, (dueIds v.Jobs.Open (guessOf v (now + 1))).length = N := ⟨_, rfl⟩
    have y3 : nfOk v now = decide (0 < N) := by unfold nfOk; rw [hN]
    rw [hN, hN2] at y2; rw [hG, hG2] at y1
    obtain ⟨fi, hfi⟩ : ∃ i, firstId v.Jobs.Open = i := ⟨_, rfl⟩
    obtain ⟨ni, hni⟩ : ∃ i, (dueIds v.Jobs.Open (guessOf v now)).headD 0 = i := ⟨_, rfl⟩
    have y4 : 0 < N → ni = fi := fun h => by rw [← hni, ← hfi]; exact nf_first hok (y3.trans (by simpa using h))
    obtain ⟨fr, hfr⟩ : ∃ b, freeIn v now = b := ⟨_, rfl⟩
    obtain ⟨h2, hh2⟩ : ∃ b, holdsIn v 2 now = b := ⟨_, rfl⟩
    obtain ⟨h3, hh3⟩ : ∃ b, holdsIn v 3 now = b := ⟨_, rfl⟩
    have y5 : fr = true → h2 = false ∧ h3 = false := fun h => by rw [← hh2, ← hh3]; exact ⟨free_holds (hfr.trans h) (.inl rfl), free_holds (hfr.trans h) (.inr rfl)⟩
    have H_hG := Lib.hid hG
    have H_hG2 := Lib.hid hG2
    have H_hN := Lib.hid hN
    have H_hN2 := Lib.hid hN2
    have H_hfi := Lib.hid hfi
    have H_hni := Lib.hid hni
    have H_hfr := Lib.hid hfr
    have H_hh2 := Lib.hid hh2
    have H_hh3 := Lib.hid hh3
    have H_hok := Lib.hid hok
    have H_y3 := Lib.hid y3
    have H_y4 := Lib.hid y4
    have H_y5 := Lib.hid y5
    clear hG hG2 hN hN2 hfi hni hfr hh2 hh3 hok y3 y4 y5 y0
    go_wp2_with fail
    refine (nextFire_c _ v _ now (hv.ext (by exact extT))).mono ?_
    rintro e w3 ⟨rfl, hx3⟩
    have X3 : Ext w2 w3 := Ext.trans (by exact extT) hx3
    have hz3 := X3.size
    have hy3 := hx3.size; (try simp only [szA] at hy3)
    have KV3 : Blk w3 w1.heap.size 34 #[.int .i64 v.Jobs.Index, .int .i64 v.Jobs.Time, .int .i64 v.Jobs.Holder, .int .i64 v.Jobs.Epoch, .int .i64 v.Jobs.Until, .slice av nv kv] := Blk.ext (Blk.cast (by exact blkT) setsT) hx3
    clear KV2
    have hv := hv.ext X3
    have E3 : Ext w w3 := E2.trans X3
    clear hx3 X3 E2
    clear CV2 FV2 LV2
    have CV3 := KV3.cell; have FV3 := KV3.frozen; have LV3 := KV3.lt
    rw [H_hni.out, H_hN.out]
    rcases Nat.eq_zero_or_pos N with hz | hz
    ·
     skip
     have d0 : decide (0 < N) = false := by simp; omega
     have d1 : decide ((0 : Int) < (N : Int)) = false := by simp; omega
     rw [d0]
     have d4 : decide (N2 < N) = false := by simp; omega
     have d2 : decide (G2 < G) = false := by simp; omega
     have d3 : decide ((N2 : Int) < (N : Int)) = false := by simp; omega
     have HZ := Lib.hid hz; clear hz
     go_wp2_with fail
     refine wp_region_ext (by kernel_rfl) (by kernel_rfl) ?_
     repeat (first | go_big_quiet_skip | (go_big_quiet_want; first | (refine quiet_load _ _ _ ?_ rfl rfl (fun wq hq => ?_) ?_; rotate_left; (focus (have q0 := (KV3.ext hq).cell; go_simp; first | done | rfl)); (try simp only [Act.put, List.setIfInBounds_toArray, List.set_cons_zero, List.set_cons_succ]); go_big_quiet_on) | (go_big_quiet_op; first | go_big_quiet_on | (refine ⟨_, fun _ _ => rfl, ?_⟩; go_big_quiet_on) | (apply Exists.intro; refine ⟨fun wq hq => ?_, ?_⟩; (focus (first | (have c := guessOf_c wq v _ now (hv.ext hq); rw [H_hG.out] at c; with_reducible exact call_ext hq c) | (have c := guessOf_c wq v _ (now + 1) (hv.ext hq); rw [H_hG2.out] at c; with_reducible exact call_ext hq c) | (have c := dueCount_c wq v _ now (hv.ext hq); rw [H_hN.out] at c; with_reducible exact call_ext hq c) | (have c := dueCount_c wq v _ (now + 1) (hv.ext hq); rw [H_hN2.out] at c; with_reducible exact call_ext hq c) | (have c := w6First_c wq v _ (hv.ext hq); rw [H_hfi.out] at c; with_reducible exact call_ext hq c))); go_big_quiet_on))))
     refine wpQuiet_nil ?_
     intro w4 hx4
     have X4 : Ext w3 w4 := Ext.trans (by exact extT) hx4
     have hz4 := X4.size
     have hy4 := hx4.size; (try simp only [szA] at hy4)
     have KV4 : Blk w4 w1.heap.size 34 #[.int .i64 v.Jobs.Index, .int .i64 v.Jobs.Time, .int .i64 v.Jobs.Holder, .int .i64 v.Jobs.Epoch, .int .i64 v.Jobs.Until, .slice av nv kv] := Blk.ext (Blk.cast (by exact blkT) setsT) hx4
     clear KV3
     have hv := hv.ext X4
     have E4 : Ext w w4 := E3.trans X4
     clear hx4 X4 E3
     clear CV3 FV3 LV3
     have CV4 := KV4.cell; have FV4 := KV4.frozen; have LV4 := KV4.lt
     go_wp2_with fail
     refine (freeIn_c _ v _ now (hv.ext (by exact extT))).mono ?_
     rintro e w5 ⟨rfl, hx5⟩
     have X5 : Ext w4 w5 := Ext.trans (by exact extT) hx5
     have hz5 := X5.size
     have hy5 := hx5.size; (try simp only [szA] at hy5)
     have KV5 : Blk w5 w1.heap.size 34 #[.int .i64 v.Jobs.Index, .int .i64 v.Jobs.Time, .int .i64 v.Jobs.Holder, .int .i64 v.Jobs.Epoch, .int .i64 v.Jobs.Until, .slice av nv kv] := Blk.ext (Blk.cast (by exact blkT) setsT) hx5
     clear KV4
     have hv := hv.ext X5
     have E5 : Ext w w5 := E4.trans X5
     clear hx5 X5 E4
     clear CV4 FV4 LV4
     have CV5 := KV5.cell; have FV5 := KV5.frozen; have LV5 := KV5.lt
     rw [H_hfr.out]
     cases fr
     ·
      skip
      go_wp2_with fail
      go_ret
      exact ⟨by first | rfl | (simp [*]; done), by exact extT⟩
     ·
      skip
      obtain ⟨y7, y8⟩ := H_y5.out rfl
      go_wp2_with fail
      refine (holdsIn_c _ v _ 2 now (hv.ext (by exact extT))).mono ?_
      rintro e w6 ⟨rfl, hx6⟩
      have X6 : Ext w5 w6 := Ext.trans (by exact extT) hx6
      have hz6 := X6.size
      have hy6 := hx6.size; (try simp only [szA] at hy6)
      have KV6 : Blk w6 w1.heap.size 34 #[.int .i64 v.Jobs.Index, .int .i64 v.Jobs.Time, .int .i64 v.Jobs.Holder, .int .i64 v.Jobs.Epoch, .int .i64 v.Jobs.Until, .slice av nv kv] := Blk.ext (Blk.cast (by exact blkT) setsT) hx6
      clear KV5
      have hv := hv.ext X6
      have E6 : Ext w w6 := E5.trans X6
      clear hx6 X6 E5
      clear CV5 FV5 LV5
      have CV6 := KV6.cell; have FV6 := KV6.frozen; have LV6 := KV6.lt
      rw [H_hh2.out, y7]
      go_wp2_with fail
      refine (holdsIn_c _ v _ 3 now (hv.ext (by exact extT))).mono ?_
      rintro e w7 ⟨rfl, hx7⟩
      have X7 : Ext w6 w7 := Ext.trans (by exact extT) hx7
      have hz7 := X7.size
      have hy7 := hx7.size; (try simp only [szA] at hy7)
      have KV7 : Blk w7 w1.heap.size 34 #[.int .i64 v.Jobs.Index, .int .i64 v.Jobs.Time, .int .i64 v.Jobs.Holder, .int .i64 v.Jobs.Epoch, .int .i64 v.Jobs.Until, .slice av nv kv] := Blk.ext (Blk.cast (by exact blkT) setsT) hx7
      clear KV6
      have hv := hv.ext X7
      have E7 : Ext w w7 := E6.trans X7
      clear hx7 X7 E6
      clear CV6 FV6 LV6
      have CV7 := KV7.cell; have FV7 := KV7.frozen; have LV7 := KV7.lt
      rw [H_hh3.out, y8]
      go_wp2_with fail
      go_ret
      exact ⟨by first | rfl | (simp [*]; done), by exact extT⟩
    ·
     skip
     have y6 := H_y4.out hz; subst y6
     have d0 : decide (0 < N) = true := by simpa using hz
     have d1 : decide ((0 : Int) < (N : Int)) = true := by simp; omega
     rw [d0]
     have d4 : decide (N2 < N) = false := by simp; omega
     have d2 : decide (G2 < G) = false := by simp; omega
     have d3 : decide ((N2 : Int) < (N : Int)) = false := by simp; omega
     have HZ := Lib.hid hz; clear hz
     go_wp2_with fail
     refine wp_region_ext (by kernel_rfl) (by kernel_rfl) ?_
     repeat (first | go_big_quiet_skip | (go_big_quiet_want; first | (refine quiet_load _ _ _ ?_ rfl rfl (fun wq hq => ?_) ?_; rotate_left; (focus (have q0 := (KV3.ext hq).cell; go_simp; first | done | rfl)); (try simp only [Act.put, List.setIfInBounds_toArray, List.set_cons_zero, List.set_cons_succ]); go_big_quiet_on) | (go_big_quiet_op; first | go_big_quiet_on | (refine ⟨_, fun _ _ => rfl, ?_⟩; go_big_quiet_on) | (apply Exists.intro; refine ⟨fun wq hq => ?_, ?_⟩; (focus (first | (have c := guessOf_c wq v _ now (hv.ext hq); rw [H_hG.out] at c; with_reducible exact call_ext hq c) | (have c := guessOf_c wq v _ (now + 1) (hv.ext hq); rw [H_hG2.out] at c; with_reducible exact call_ext hq c) | (have c := dueCount_c wq v _ now (hv.ext hq); rw [H_hN.out] at c; with_reducible exact call_ext hq c) | (have c := dueCount_c wq v _ (now + 1) (hv.ext hq); rw [H_hN2.out] at c; with_reducible exact call_ext hq c) | (have c := w6First_c wq v _ (hv.ext hq); rw [H_hfi.out] at c; with_reducible exact call_ext hq c))); go_big_quiet_on))))
     refine wpQuiet_nil ?_
     intro w4 hx4
     have X4 : Ext w3 w4 := Ext.trans (by exact extT) hx4
     have hz4 := X4.size
     have hy4 := hx4.size; (try simp only [szA] at hy4)
     have KV4 : Blk w4 w1.heap.size 34 #[.int .i64 v.Jobs.Index, .int .i64 v.Jobs.Time, .int .i64 v.Jobs.Holder, .int .i64 v.Jobs.Epoch, .int .i64 v.Jobs.Until, .slice av nv kv] := Blk.ext (Blk.cast (by exact blkT) setsT) hx4
     clear KV3
     have hv := hv.ext X4
     have E4 : Ext w w4 := E3.trans X4
     clear hx4 X4 E3
     clear CV3 FV3 LV3
     have CV4 := KV4.cell; have FV4 := KV4.frozen; have LV4 := KV4.lt
     go_wp2_with fail
     refine (freeIn_c _ v _ now (hv.ext (by exact extT))).mono ?_
     rintro e w5 ⟨rfl, hx5⟩
     have X5 : Ext w4 w5 := Ext.trans (by exact extT) hx5
     have hz5 := X5.size
     have hy5 := hx5.size; (try simp only [szA] at hy5)
     have KV5 : Blk w5 w1.heap.size 34 #[.int .i64 v.Jobs.Index, .int .i64 v.Jobs.Time, .int .i64 v.Jobs.Holder, .int .i64 v.Jobs.Epoch, .int .i64 v.Jobs.Until, .slice av nv kv] := Blk.ext (Blk.cast (by exact blkT) setsT) hx5
     clear KV4
     have hv := hv.ext X5
     have E5 : Ext w w5 := E4.trans X5
     clear hx5 X5 E4
     clear CV4 FV4 LV4
     have CV5 := KV5.cell; have FV5 := KV5.frozen; have LV5 := KV5.lt
     rw [H_hfr.out]
     cases fr
     ·
      skip
      go_wp2_with fail
      go_ret
      exact ⟨by first | rfl | (simp [*]; done), by exact extT⟩
     ·
      skip
      obtain ⟨y7, y8⟩ := H_y5.out rfl
      go_wp2_with fail
      refine (holdsIn_c _ v _ 2 now (hv.ext (by exact extT))).mono ?_
      rintro e w6 ⟨rfl, hx6⟩
      have X6 : Ext w5 w6 := Ext.trans (by exact extT) hx6
      have hz6 := X6.size
      have hy6 := hx6.size; (try simp only [szA] at hy6)
      have KV6 : Blk w6 w1.heap.size 34 #[.int .i64 v.Jobs.Index, .int .i64 v.Jobs.Time, .int .i64 v.Jobs.Holder, .int .i64 v.Jobs.Epoch, .int .i64 v.Jobs.Until, .slice av nv kv] := Blk.ext (Blk.cast (by exact blkT) setsT) hx6
      clear KV5
      have hv := hv.ext X6
      have E6 : Ext w w6 := E5.trans X6
      clear hx6 X6 E5
      clear CV5 FV5 LV5
      have CV6 := KV6.cell; have FV6 := KV6.frozen; have LV6 := KV6.lt
      rw [H_hh2.out, y7]
      go_wp2_with fail
      refine (holdsIn_c _ v _ 3 now (hv.ext (by exact extT))).mono ?_
      rintro e w7 ⟨rfl, hx7⟩
      have X7 : Ext w6 w7 := Ext.trans (by exact extT) hx7
      have hz7 := X7.size
      have hy7 := hx7.size; (try simp only [szA] at hy7)
      have KV7 : Blk w7 w1.heap.size 34 #[.int .i64 v.Jobs.Index, .int .i64 v.Jobs.Time, .int .i64 v.Jobs.Holder, .int .i64 v.Jobs.Epoch, .int .i64 v.Jobs.Until, .slice av nv kv] := Blk.ext (Blk.cast (by exact blkT) setsT) hx7
      clear KV6
      have hv := hv.ext X7
      have E7 : Ext w w7 := E6.trans X7
      clear hx7 X7 E6
      clear CV6 FV6 LV6
      have CV7 := KV7.cell; have FV7 := KV7.frozen; have LV7 := KV7.lt
      rw [H_hh3.out, y8]
      go_wp2_with fail
      go_ret
      exact ⟨by first | rfl | (simp [*]; done), by exact extT⟩

end Go.Proofs.Ythihnangjghloaa

-- The statement FnGuess: for every input the law returns true.
namespace Go.Proofs.Ythihnangjghloaa.fnGuess
open Go.ChangeShapes Go.WideShapes Go.ChangeAt Go.RowKit Go.G8
open Go.Proofs.Ythihnangjghloaa.facts (b2)

set_option maxRecDepth 100000 in
theorem lifted (os : Os) (started : os.Started) (H : Type) (enc : TypeId × Value → H) :
  ReturnsInHanded {} Try.checked os 6 .any (Rows.fnGuessSpec.pre6 enc Try.prog Try.f6 Rows.fnGuessRow.domain false) (Rows.fnGuessSpec.post enc Try.prog Try.f6 false true false false) := by
 refine returnsInHanded_of_change (C := Try.checked) own started (by kernel_rfl) Try.func6
  (ChangeSpec.witness6 (enc := enc) (C := Try.checked) false ⟨#[], #[.slice none 0 0], []⟩ 8 (by kernel_rfl) (by kernel_rfl) (by kernel_rfl) (by kernel_rfl)) ?_
 intro W base args ds gs before hval0 hW _ _
 have hval : ∀ (j : Nat) t v, Try.f6.params[j]? = some t → args[j]? = some v → Value.okWide Try.prog W .any base t v := hval0
 have hW' := hW
 obtain ⟨p, q, hA0, hV, rfl, hfz, hnd⟩ := hW
 have hA : DataW.TrodAll enc Try.prog W 0 (fun _ => true) true Try.f6.params.toList args.toList ds p := hA0
 rw [Try.params6] at hA hval
 obtain ⟨v0, vs0, d0, ds0, p0, q0, hargs, rfl, rfl, h0, r0⟩ := trodAll_cons hA
 obtain ⟨rfl, rfl, rfl⟩ := trodAll_nil r0
 obtain rfl : args = #[v0] := by cases args; simp_all
 obtain ⟨rfl, rfl⟩ := trodVars_none hV
 have k0 := h0
 have lt0 : ∀ x ∈ p0, x.block < W.heap.size := by obtain ⟨m, hm⟩ := k0; exact DataW.trod_lt m _ _ _ hm
 obtain ⟨sa0, sn0, sc0, rfl⟩ := okWide_slice Try.underlying22 (hval 0 22 v0 rfl rfl)
 obtain ⟨m0, hm0⟩ := h0
 obtain ⟨s0, e0, g0⟩ := rd_Bytes hm0
 simp [Value.cells] at e0
 subst e0
 clear hA0 hval0
 refine (law_Guess W _ g0).mono fun e W' ⟨he, bel0⟩ => ?_
 have bel : Below W.heap.size W W' := bel0
 subst he
 exact ⟨_, rfl, _, _, _, [], _, [], hW', trodAll_mk1 (shut_bool Try.underlying4 _), (trodAll_cons_mk (Below.trod laidOut (by kernel_rfl) (of_decide_eq_true (by kernel_rfl)) k0 bel lt0) trodAll_mk0), rfl, bel.frame _, fun h => by cases h⟩

theorem k0 : (Rows.fnGuessRow.wf (OpenSpec.ofChange Rows.fnGuessSpec)) = true := by kernel_rfl
theorem k1 : (laidOutB Try.checked.prog) = true := facts.k1
theorem k2 : (mapsRowed Try.checked.prog) = true := facts.k2
theorem k3 : (Try.f6.params.all (Try.checked.prog.readableRec ·)) = true := by kernel_rfl
theorem k4 : (namedTie Try.checked.prog Rows.fnGuessRow.named Rows.fnGuessSpec.vars) = true := by kernel_rfl
theorem k5 : ((Rows.fnGuessRow.stops == [])) = true := by kernel_rfl
theorem k6 : ((Try.checked.prog.stops == [])) = true := facts.k6
theorem k7 : ((Rows.fnGuessRow.knobs == [])) = true := by kernel_rfl
theorem k8 : ((Try.checked.prog.stopKnobs == [])) = true := facts.k8
theorem k9 : ((Rows.fnGuessRow.inPlace == Try.checked.prog.inPlace 6)) = true := by kernel_rfl
theorem k10 : ((Rows.fnGuessRow.unfollowed == Try.checked.prog.unfollowed 6)) = true := by kernel_rfl
theorem k11 : ((Rows.fnGuessRow.recurses == Try.checked.prog.recurses 6)) = true := by kernel_rfl
theorem k12 : ((Rows.fnGuessRow.named == Try.checked.prog.varsNamed 6)) = true := by kernel_rfl
theorem k13 : ((Rows.fnGuessRow.maps == (Try.f6.params.toList ++ Rows.fnGuessSpec.plain.varTypes Try.checked.prog).any (Try.checked.prog.mapsRec ·))) = true := by kernel_rfl
theorem k14 : ((Rows.fnGuessRow.ifaces == (Try.f6.params.toList ++ Rows.fnGuessSpec.plain.varTypes Try.checked.prog).any (Try.checked.prog.ifacesRec ·))) = true := by kernel_rfl
theorem k15 : ((Rows.fnGuessRow.mapsOut == Try.checked.prog.mapsAmong Try.f6.resultTypes.toList)) = true := by kernel_rfl
theorem k16 : ((Rows.fnGuessRow.loops == (Try.f6.params.toList ++ Rows.fnGuessSpec.plain.varTypes Try.checked.prog).any (Try.checked.prog.loopsFrom ·))) = true := by kernel_rfl
theorem k17 : ((Rows.fnGuessRow.wideKeys == (Try.f6.params.toList ++ Rows.fnGuessSpec.plain.varTypes Try.checked.prog ++ Try.f6.resultTypes.toList).any (Try.checked.prog.wideKeysFrom ·))) = true := by kernel_rfl
theorem k18 : (Rows.fnGuessSpec.vars.all (Try.checked.prog.varReadable ·)) = true := by kernel_rfl
theorem k19 : (Try.f6.resultTypes.all (fun t => Try.checked.prog.readableRec t && decide (t < Try.checked.prog.types.size))) = true := by kernel_rfl
theorem k20 : ((Rows.fnGuessRow.ifacesOut == Try.f6.resultTypes.toList.any (Try.checked.prog.ifacesRec ·))) = true := by kernel_rfl
theorem k21 : ((Rows.fnGuessRow.loopsOut == Try.f6.resultTypes.toList.any (Try.checked.prog.loopsFrom ·))) = true := by kernel_rfl
theorem k22 : ((Rows.fnGuessRow.plainKeys == Try.checked.prog.plainKeys)) = true := facts.k22
theorem k23 : (Rows.fnGuessRow.shortTexts.isNone) = true := by kernel_rfl
theorem k24 : (Try.checked.prog.stopsHeard) = true := facts.k24
theorem k25 : (Try.checked.prog.mayEnter) = true := facts.k25
theorem k26 : ((Rows.fnGuessRow.lifted == Try.checked.prog.liftsFinal)) = true := facts.k26
theorem k27 : ((Try.checked.prog.make == some Rows.fnGuessRow.make)) = true := facts.k27
theorem k28 : ((Rows.fnGuessRow.kinds == (if Rows.fnGuessRow.domain.isEmpty then [] else Try.f6.params.toList.map fun t => match Try.checked.prog.underlying t with | some (.int k) => some k | _ => none))) = true := by kernel_rfl
theorem k29 : ((Rows.fnGuessRow.pinned == Rows.fnGuessRow.pinnedBy)) = true := by kernel_rfl
theorem k30 : ((Rows.fnGuessRow.veiled == (Try.f6.params.toList ++ Rows.fnGuessSpec.plain.varTypes Try.checked.prog ++ Try.f6.resultTypes.toList).any (Try.checked.prog.veiledRec ·))) = true := by kernel_rfl
theorem k31 : (Rows.fnGuessRow.veiledFits Try.checked.prog Try.f6.params.toList (Try.f6.params.toList ++ Rows.fnGuessSpec.plain.varTypes Try.checked.prog ++ Try.f6.resultTypes.toList)) = true := by kernel_rfl
set_option maxRecDepth 100000 in
theorem closed : joinedFacts Try.checked.prog 6 Try.f6 Rows.fnGuessSpec Rows.fnGuessRow = true := by
 unfold joinedFacts
 exact (b2 (b2 (b2 (b2 (b2 (b2 (b2 (b2 (b2 (b2 (b2 (b2 (b2 (b2 (b2 (b2 (b2 (b2 (b2 (b2 (b2 (b2 (b2 (b2 (b2 (b2 (b2 (b2 (b2 (b2 (b2 k0 k1) k2) k3) k4) k5) k6) k7) k8) k9) k10) k11) k12) k13) k14) k15) k16) k17) k18) k19) k20) k21) k22) k23) k24) k25) k26) k27) k28) k29) k30) k31)

theorem proved : Rows.FnGuessSaid :=
 OpenClaim.holds_of_wide 6 Try.f6 rfl rfl rfl rfl rfl rfl rfl ⟨rfl, rfl, rfl, rfl, rfl⟩ rfl rfl rfl rfl rfl (by as_aux_lemma => kernel_rfl) Try.func6 closed
  (of_decide_eq_true (by as_aux_lemma => kernel_rfl)) (by as_aux_lemma => (unfold Func.isWrapper; rw [if_neg (of_decide_eq_false (by kernel_rfl))]; exact ⟨rfl, rfl⟩))
  (fun os started H enc _ => lifted os started H enc)
end Go.Proofs.Ythihnangjghloaa.fnGuess
