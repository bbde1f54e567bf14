/- .. where the lease is free. -/
import Derived.Test.YthegnmdknenefaaV4a
namespace Go.Proofs.Ythegnmdknenefaa
open Go.RowKit Go.G8

set_option maxHeartbeats 3200000 in
set_option maxRecDepth 100000 in
theorem jobsOk2_free (w : World) (j : DJobs) (s : Value) (h : Ints 2 w s (dues j.Open)) (h1 : inb j.Index 0 2000 = true) (h2 : timeOk j.Time = true) (h3 : (j.Holder == 0) = true) (h4 : inb j.Epoch 0 1000 = true) (h5 : inb j.Until 0 1001000 = true) (h8 : j.Open.length ≤ 8) : Calls Try.prog 96 #[.agg #[.int .i64 j.Index, .int .i64 j.Time, .int .i64 j.Holder, .int .i64 j.Epoch, .int .i64 j.Until, s]] w (RetV w (.bool (jobsOk2 j))) := by
  obtain ⟨a, cap, rfl, hcap, hm, ha⟩ := h.recs (f := DDue.ints) (fun _ => rfl) (by decide)
  have HA := Lib.hid ha
  clear ha
  unfold maxLen at hm
  have hmm := @run_makeMap Try.prog
  have hb0 : jobsOk2 j = openOk j.Open := by simp [jobsOk2, *]
  have HB0 := Lib.hid hb0
  clear hb0
  have h8' : decide ((8 : Int) < (j.Open.length : Int)) = false := by simp; omega
  have h3' : (j.Holder != 0) = false := by simpa using h3
  · go_enter Try.func96, Try.ntmps96
    go_wp2_with (first | (go_at_call 63; refine (between_c _ _ _ _).mono ?_; rintro e w1 ⟨rfl, rfl⟩) | (go_at_call 79; refine (timeOk_c _ _).mono ?_; rintro e w1 ⟨rfl, rfl⟩) | (go_at_call 62; refine (schedOk_c _ _).mono ?_; rintro e w1 ⟨rfl, rfl⟩))
    clear hmm
    · skip
      go_loopw [47] (fun i wr => ∃ k : Nat, k ≤ j.Open.length ∧ i = .int .i64 k ∧ Ext w wr ∧ wr.cell? ⟨w.heap.size, 5, none⟩ = some (.slice a j.Open.length cap) ∧ (∃ S, BSet Try.prog 2 4 wr (w.heap.size + 1) k S ∧ (∀ i, i < k → OpenAt j.Open i) ∧ (∀ x, x ∈ S ↔ ∃ i e, i < k ∧ j.Open[i]? = some e ∧ e.Id = x))) (fun i _ => j.Open.length - (intOf i).toNat)
      case atStart => exact ⟨0, Nat.zero_le _, rfl, ((Ext.refl _).alloc _).alloc _, by simp, [], by simpa using BSet.made Try.prog 2 4 (w.alloc _), fun i hi => by omega, fun x => by simp⟩
      case round =>
        obtain ⟨k, hk, rfl, he, jb, S, hset, hok, hS⟩ := hrel
        have HO := Lib.hid hok
        have HM := Lib.hid hS
        clear hok hS
        have hsz := he.size
        by_cases hlt : k < j.Open.length
        · obtain ⟨d, b1, o1, hd, rfl, hb1, c⟩ := HA.out k hlt
          have d0 := he.cell (c 0 _ (by decide) rfl)
          have d1 := he.cell (c 1 _ (by decide) rfl)
          simp only [Nat.add_zero] at d0
          have HD := Lib.hid hd
          clear c hd
          go_wp2
          obtain ⟨W, hW⟩ : ∃ W, W = wr.alloc (.cells #[.int .i64 d.Id, .int .i64 d.Due] 114) := ⟨_, rfl⟩
          have x0 : W.cell? ⟨wr.heap.size, 0, none⟩ = some (.int .i64 d.Id) := by rw [hW]; simp
          have x1 : W.cell? ⟨wr.heap.size, 1, none⟩ = some (.int .i64 d.Due) := by rw [hW]; simp
          have jb' : W.cell? ⟨w.heap.size, 5, none⟩ = some (.slice (some ⟨b1, o1, none⟩) j.Open.length cap) := by rw [hW]; exact ((Ext.refl wr).alloc _).cell jb
          have hset' : BSet Try.prog 2 4 W (w.heap.size + 1) k S := by rw [hW]; exact hset.ext ((Ext.refl wr).alloc _)
          have heW : Ext w W := by rw [hW]; exact he.alloc _
          have heR : Ext wr W := by rw [hW]; exact (Ext.refl wr).alloc _
          rw [← hW]
          clear hW
          cases hid : idOk d.Id
          · refine wp_region_ext (by kernel_rfl) (by kernel_rfl) ?_
            repeat (first | go_big_quiet_skip | (go_big_quiet_want; first | (refine quiet_load _ _ _ ?_ rfl rfl (fun wq hq => ?_) ?_; rotate_left; (focus (have q0 := hq.cell x0; have q1 := hq.cell x1; go_simp; first | done | rfl)); (try simp only [Act.put, List.setIfInBounds_toArray, List.set_cons_zero, List.set_cons_succ]); go_big_quiet_on) | (refine quiet_lookup _ _ _ _ _ ?_ rfl rfl rfl (fun wq hq => ?_) ?_; rotate_left; (focus (fail)); (try simp only [Act.put, List.setIfInBounds_toArray, List.set_cons_zero, List.set_cons_succ]); go_big_quiet_on) | (go_big_quiet_op; first | go_big_quiet_on | (refine ⟨_, fun _ _ => rfl, ?_⟩; go_big_quiet_on) | (apply Exists.intro; refine ⟨fun wq hq => ?_, ?_⟩; (focus (first | exact call_same hq (by have c := idOk_c wq d.Id; rw [hid] at c; exact c))); go_big_quiet_on))))
            refine wpQuiet_nil ?_
            intro w1 hx1
            go_wp2
            go_ret
            exact ⟨congrArg (fun z => Ending.returned (.bool z)) (HB0.out.trans (openOk_false (fun hh => by have := (hh.2 k hlt d HD.out).1; rw [hid] at this; cases this))).symm, heW.trans hx1⟩
          · have hw : (Lit.int .i64 d.Id).wf = true := by
              have := inb_true.1 hid
              exact WalkArith.wf_i64 (by omega)
            cases htm : timeOk d.Due
            · refine wp_region_ext (by kernel_rfl) (by kernel_rfl) ?_
              repeat (first | go_big_quiet_skip | (go_big_quiet_want; first | (refine quiet_load _ _ _ ?_ rfl rfl (fun wq hq => ?_) ?_; rotate_left; (focus (have q0 := hq.cell x0; have q1 := hq.cell x1; go_simp; first | done | rfl)); (try simp only [Act.put, List.setIfInBounds_toArray, List.set_cons_zero, List.set_cons_succ]); go_big_quiet_on) | (refine quiet_lookup _ _ _ _ _ ?_ rfl rfl rfl (fun wq hq => ?_) ?_; rotate_left; (focus (fail)); (try simp only [Act.put, List.setIfInBounds_toArray, List.set_cons_zero, List.set_cons_succ]); go_big_quiet_on) | (go_big_quiet_op; first | go_big_quiet_on | (refine ⟨_, fun _ _ => rfl, ?_⟩; go_big_quiet_on) | (apply Exists.intro; refine ⟨fun wq hq => ?_, ?_⟩; (focus (first | exact call_same hq (by have c := idOk_c wq d.Id; rw [hid] at c; exact c) | exact call_same hq (by have c := timeOk_c wq d.Due; rw [htm] at c; exact c))); go_big_quiet_on))))
              refine wpQuiet_nil ?_
              intro w1 hx1
              go_wp2
              go_ret
              exact ⟨congrArg (fun z => Ending.returned (.bool z)) (HB0.out.trans (openOk_false (fun hh => by have := (hh.2 k hlt d HD.out).2.1; rw [htm] at this; cases this))).symm, heW.trans hx1⟩
            · by_cases hmem : d.Id ∈ S
              · have hnu : decide (d.Id ∈ S) = true := by simpa using hmem
                have HMM := Lib.hid hmem
                clear hmem
                refine wp_region_ext (by kernel_rfl) (by kernel_rfl) ?_
                repeat (first | go_big_quiet_skip | (go_big_quiet_want; first | (refine quiet_load _ _ _ ?_ rfl rfl (fun wq hq => ?_) ?_; rotate_left; (focus (have q0 := hq.cell x0; have q1 := hq.cell x1; go_simp; first | done | rfl)); (try simp only [Act.put, List.setIfInBounds_toArray, List.set_cons_zero, List.set_cons_succ]); go_big_quiet_on) | (refine quiet_lookup _ _ _ _ _ ?_ rfl rfl rfl (fun wq hq => ?_) ?_; rotate_left; (focus (exact (by have c := (hset'.ext hq).look (t := 124) Try.underlying2 Try.underlying124 Try.underlying4 (zb _) hw; rw [hnu] at c; exact c))); (try simp only [Act.put, List.setIfInBounds_toArray, List.set_cons_zero, List.set_cons_succ]); go_big_quiet_on) | (go_big_quiet_op; first | go_big_quiet_on | (refine ⟨_, fun _ _ => rfl, ?_⟩; go_big_quiet_on) | (apply Exists.intro; refine ⟨fun wq hq => ?_, ?_⟩; (focus (first | exact call_same hq (by have c := idOk_c wq d.Id; rw [hid] at c; exact c) | exact call_same hq (by have c := timeOk_c wq d.Due; rw [htm] at c; exact c))); go_big_quiet_on))))
                refine wpQuiet_nil ?_
                intro w1 hx1
                go_wp2
                go_ret
                exact ⟨congrArg (fun z => Ending.returned (.bool z)) (HB0.out.trans (openOk_false (fun hh => by obtain ⟨i, e, hi, he', hid'⟩ := (HM.out d.Id).1 HMM.out; exact (hh.2 k hlt d HD.out).2.2.2 i e hi he' hid'))).symm, heW.trans hx1⟩
              · have hnu : decide (d.Id ∈ S) = false := by simpa using hmem
                have hnd : ∀ i e, i < k → j.Open[i]? = some e → e.Id ≠ d.Id := fun i e hi he' hid' => hmem ((HM.out d.Id).2 ⟨i, e, hi, he', hid'⟩)
                have HND := Lib.hid hnd
                clear hmem hnd
                have hnext : (∀ e, 0 < k → j.Open[k - 1]? = some e → dueLess e d = true) → ∀ i, i < k + 1 → OpenAt j.Open i := by
                  intro n1 i hi
                  by_cases hik : i = k
                  · subst hik
                    intro d' hd'
                    rw [HD.out] at hd'
                    obtain rfl := Option.some.inj hd'
                    exact ⟨hid, htm, n1, HND.out⟩
                  · exact HO.out i (by omega)
                have HN := Lib.hid hnext
                clear hnext
                have hs2 : ∀ x, x ∈ d.Id :: S ↔ ∃ i e, i < k + 1 ∧ j.Open[i]? = some e ∧ e.Id = x := by
                  intro x
                  rw [List.mem_cons, HM.out x]
                  constructor
                  · rintro (rfl | ⟨i, e, hi, h1, h2⟩)
                    · exact ⟨k, d, by omega, HD.out, rfl⟩
                    · exact ⟨i, e, by omega, h1, h2⟩
                  · rintro ⟨i, e, hi, h1, h2⟩
                    by_cases hik : i = k
                    · subst hik
                      rw [HD.out] at h1
                      obtain rfl := Option.some.inj h1
                      exact .inl h2.symm
                    · exact .inr ⟨i, e, by omega, h1, h2⟩
                have HS := Lib.hid hs2
                clear hs2
                by_cases hk0 : k = 0
                · subst hk0
                  refine wp_region_ext (by kernel_rfl) (by kernel_rfl) ?_
                  repeat (first | go_big_quiet_skip | (go_big_quiet_want; first | (refine quiet_load _ _ _ ?_ rfl rfl (fun wq hq => ?_) ?_; rotate_left; (focus (have q0 := hq.cell x0; have q1 := hq.cell x1; go_simp; first | done | rfl)); (try simp only [Act.put, List.setIfInBounds_toArray, List.set_cons_zero, List.set_cons_succ]); go_big_quiet_on) | (refine quiet_lookup _ _ _ _ _ ?_ rfl rfl rfl (fun wq hq => ?_) ?_; rotate_left; (focus (exact (by have c := (hset'.ext hq).look (t := 124) Try.underlying2 Try.underlying124 Try.underlying4 (zb _) hw; rw [hnu] at c; exact c))); (try simp only [Act.put, List.setIfInBounds_toArray, List.set_cons_zero, List.set_cons_succ]); go_big_quiet_on) | (go_big_quiet_op; first | go_big_quiet_on | (refine ⟨_, fun _ _ => rfl, ?_⟩; go_big_quiet_on) | (apply Exists.intro; refine ⟨fun wq hq => ?_, ?_⟩; (focus (first | exact call_same hq (by have c := idOk_c wq d.Id; rw [hid] at c; exact c) | exact call_same hq (by have c := timeOk_c wq d.Due; rw [htm] at c; exact c))); go_big_quiet_on))))
                  refine wpQuiet_nil ?_
                  intro w1 hx1
                  have x0' := hx1.cell x0
                  go_wp2_with (at_mapUpdate; refine wpList_put rfl _ _ _ 124 rfl 2 4 Try.underlying2 Try.underlying124 Try.underlying4 _ _ _ _ rfl rfl rfl (hset'.ext hx1) (by unfold maxLen; omega) hw ?_; intro w2 hset2 hgr2)
                  have hx2 := (heW.trans hx1).grownOwn hgr2 (by omega)
                  go_roundw
                  case rel => exact ⟨0 + 1, by omega, by go_num, hx2, hgr2.cell (hx1.cell jb') (by first | (simp; done) | (simp; omega)), _, hset2, HN.out (fun e h => by omega), HS.out⟩
                  case measure => simp [intOf]; omega
                · obtain ⟨e, b2, o2, hde, hbo, _, c⟩ := HA.out (k - 1) (by omega)
                  obtain ⟨rfl, rfl⟩ : b1 = b2 ∧ o1 = o2 := by simpa using hbo
                  have e0' := heW.cell (c 0 _ (by decide) rfl)
                  have e1' := heW.cell (c 1 _ (by decide) rfl)
                  simp only [Nat.add_zero] at e0'
                  have HE := Lib.hid hde
                  clear c hde hbo
                  have hk1 : decide (0 < k) = true := by simp; omega
                  cases hls : dueLess e d
                  · refine wp_region_ext (by kernel_rfl) (by kernel_rfl) ?_
                    repeat (first | go_big_quiet_skip | (go_big_quiet_want; first | (refine quiet_load _ _ _ ?_ rfl rfl (fun wq hq => ?_) ?_; rotate_left; (focus (have q0 := hq.cell x0; have q1 := hq.cell x1; have q2 := hq.cell jb'; have p0 := hq.cell e0'; have p1 := hq.cell e1'; go_simp; first | done | rfl)); (try simp only [Act.put, List.setIfInBounds_toArray, List.set_cons_zero, List.set_cons_succ]); go_big_quiet_on) | (refine quiet_lookup _ _ _ _ _ ?_ rfl rfl rfl (fun wq hq => ?_) ?_; rotate_left; (focus (exact (by have c := (hset'.ext hq).look (t := 124) Try.underlying2 Try.underlying124 Try.underlying4 (zb _) hw; rw [hnu] at c; exact c))); (try simp only [Act.put, List.setIfInBounds_toArray, List.set_cons_zero, List.set_cons_succ]); go_big_quiet_on) | (go_big_quiet_op; first | go_big_quiet_on | (refine ⟨_, fun _ _ => rfl, ?_⟩; go_big_quiet_on) | (apply Exists.intro; refine ⟨fun wq hq => ?_, ?_⟩; (focus (first | exact call_same hq (by have c := idOk_c wq d.Id; rw [hid] at c; exact c) | exact call_same hq (by have c := timeOk_c wq d.Due; rw [htm] at c; exact c) | exact call_ext hq (by have c := dueLess_c wq e d; rw [hls] at c; exact c))); go_big_quiet_on))))
                    refine wpQuiet_nil ?_
                    intro w1 hx1
                    go_wp2
                    go_ret
                    exact ⟨congrArg (fun z => Ending.returned (.bool z)) (HB0.out.trans (openOk_false (fun hh => by have := (hh.2 k hlt d HD.out).2.2.1 e (by omega) HE.out; rw [hls] at this; cases this))).symm, heW.trans hx1⟩
                  · refine wp_region_ext (by kernel_rfl) (by kernel_rfl) ?_
                    repeat (first | go_big_quiet_skip | (go_big_quiet_want; first | (refine quiet_load _ _ _ ?_ rfl rfl (fun wq hq => ?_) ?_; rotate_left; (focus (have q0 := hq.cell x0; have q1 := hq.cell x1; have q2 := hq.cell jb'; have p0 := hq.cell e0'; have p1 := hq.cell e1'; go_simp; first | done | rfl)); (try simp only [Act.put, List.setIfInBounds_toArray, List.set_cons_zero, List.set_cons_succ]); go_big_quiet_on) | (refine quiet_lookup _ _ _ _ _ ?_ rfl rfl rfl (fun wq hq => ?_) ?_; rotate_left; (focus (exact (by have c := (hset'.ext hq).look (t := 124) Try.underlying2 Try.underlying124 Try.underlying4 (zb _) hw; rw [hnu] at c; exact c))); (try simp only [Act.put, List.setIfInBounds_toArray, List.set_cons_zero, List.set_cons_succ]); go_big_quiet_on) | (go_big_quiet_op; first | go_big_quiet_on | (refine ⟨_, fun _ _ => rfl, ?_⟩; go_big_quiet_on) | (apply Exists.intro; refine ⟨fun wq hq => ?_, ?_⟩; (focus (first | exact call_same hq (by have c := idOk_c wq d.Id; rw [hid] at c; exact c) | exact call_same hq (by have c := timeOk_c wq d.Due; rw [htm] at c; exact c) | exact call_ext hq (by have c := dueLess_c wq e d; rw [hls] at c; exact c))); go_big_quiet_on))))
                    refine wpQuiet_nil ?_
                    intro w1 hx1
                    have x0' := hx1.cell x0
                    go_wp2_with (at_mapUpdate; refine wpList_put rfl _ _ _ 124 rfl 2 4 Try.underlying2 Try.underlying124 Try.underlying4 _ _ _ _ rfl rfl rfl (hset'.ext hx1) (by unfold maxLen; omega) hw ?_; intro w2 hset2 hgr2)
                    have hx2 := (heW.trans hx1).grownOwn hgr2 (by omega)
                    go_roundw
                    case rel => exact ⟨k + 1, by omega, by go_num, hx2, hgr2.cell (hx1.cell jb') (by first | (simp; done) | (simp; omega)), _, hset2, HN.out (fun e' _ hl => by rw [HE.out] at hl; obtain rfl := Option.some.inj hl; exact hls), HS.out⟩
                    case measure => simp [intOf]; omega
        · obtain rfl : k = j.Open.length := by omega
          go_wp2
          go_ret
          exact ⟨congrArg (fun z => Ending.returned (.bool z)) (HB0.out.trans (openOk_true ⟨by omega, HO.out⟩)).symm, he⟩

end Go.Proofs.Ythegnmdknenefaa
