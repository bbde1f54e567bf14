/- Jobs: the program says right or not. -/
import Derived.Test.YtemhbbpbmgpcaaaP3
set_option linter.unusedSimpArgs false
set_option linter.unusedVariables false
namespace Go.Proofs.Ytemhbbpbmgpcaaa
open Go.RowKit Go.G8

theorem zbP (w : World) : (zeroValue 4).run Try.prog w = .ok (.bool false) w := by kernel_rfl
theorem sets_next {l : List DJob} {k : Nat} {d : DJob} {S : List Int} (hd : l[k]? = some d) (hS : ∀ x, x ∈ S ↔ ∃ i e, i < k ∧ l[i]? = some e ∧ e.Fired = x) : ∀ x, x ∈ d.Fired :: S ↔ ∃ i e, i < k + 1 ∧ l[i]? = some e ∧ e.Fired = x := by
  intro x
  rw [List.mem_cons, hS x]
  constructor
  · rintro (rfl | ⟨i, e, hi, h1, h2⟩)
    · exact ⟨k, d, by omega, hd, rfl⟩
    · exact ⟨i, e, by omega, h1, h2⟩
  · rintro ⟨i, e, hi, h1, h2⟩
    by_cases hik : i = k
    · subst hik
      rw [hd] at h1
      obtain rfl := Option.some.inj h1
      exact .inl h2.symm
    · exact .inr ⟨i, e, by omega, h1, h2⟩
set_option maxHeartbeats 3200000 in
set_option maxRecDepth 100000 in
theorem jobsOk_c (w : World) (s0_0 : Value) (l0_0 : List DJob) (h0_0 : Ints 5 w s0_0 (flJob l0_0)) : Calls Try.prog 88 #[s0_0] w (RetV w (.bool (jobsOk l0_0))) := by
  obtain ⟨a, cap, rfl, hcap, hm, ha⟩ := h0_0.recs (f := DJob.ints) (fun _ => rfl) (by decide)
  have HA := Lib.hid ha
  clear ha
  unfold maxLen at hm
  have hmm := @run_makeMap Try.prog
  by_cases h8 : l0_0.length ≤ 8
  rotate_left
  · go_enter Try.func88, Try.ntmps88
    go_wp2
    go_ret
    exact ⟨congrArg (fun z => Ending.returned (.bool z)) (jobsOk_false (fun hh => h8 hh.1)).symm, Ext.refl _⟩
  · go_enter Try.func88, Try.ntmps88
    go_wp2
    clear hmm
    go_loopw [12] (fun i wr => ∃ k : Nat, k ≤ l0_0.length ∧ i = .int .i64 k ∧ Ext w wr ∧ ∃ S, BSet Try.prog 2 4 wr w.heap.size k S ∧ Hid (∀ i, i < k → JobAt l0_0 i) ∧ Hid (∀ x, x ∈ S ↔ ∃ i e, i < k ∧ l0_0[i]? = some e ∧ e.Fired = x)) (fun i _ => l0_0.length - (intOf i).toNat)
    case atStart => exact ⟨0, Nat.zero_le _, rfl, (Ext.refl _).alloc _, [], BSet.made Try.prog 2 4 w, Lib.hid (fun i hi => by omega), Lib.hid (fun x => by simp)⟩
    case round =>
      obtain ⟨k, hk, rfl, he, S, hset, HO, HM⟩ := hrel
      have hsz := he.size
      have hset0 := hset.lt
      by_cases hlt : k < l0_0.length
      · obtain ⟨d, b1, o1, hd, rfl, hb1, c⟩ := HA.out k hlt
        have d0 := he.cell (c 0 _ (by decide) rfl)
        have d1 := he.cell (c 1 _ (by decide) rfl)
        have d2 := he.cell (c 2 _ (by decide) rfl)
        have d3 := he.cell (c 3 _ (by decide) rfl)
        have d4 := he.cell (c 4 _ (by decide) rfl)
        simp only [Nat.add_zero] at d0
        have HD := Lib.hid hd
        clear c hd
        go_wp2
        obtain ⟨W, hW⟩ : ∃ W, W = wr.alloc (.cells #[.int .i64 d.Id, .int .i64 d.Due, .int .i64 d.Key, .int .i64 d.Value, .int .i64 d.Fired] 104) := ⟨_, rfl⟩
        have x0 : W.cell? ⟨wr.heap.size, 0, none⟩ = some (.int .i64 d.Id) := by rw [hW]; simp
        have x1 : W.cell? ⟨wr.heap.size, 1, none⟩ = some (.int .i64 d.Due) := by rw [hW]; simp
        have x2 : W.cell? ⟨wr.heap.size, 2, none⟩ = some (.int .i64 d.Key) := by rw [hW]; simp
        have x3 : W.cell? ⟨wr.heap.size, 3, none⟩ = some (.int .i64 d.Value) := by rw [hW]; simp
        have x4 : W.cell? ⟨wr.heap.size, 4, none⟩ = some (.int .i64 d.Fired) := by rw [hW]; simp
        have hset' : BSet Try.prog 2 4 W w.heap.size k S := by rw [hW]; exact hset.ext ((Ext.refl wr).alloc _)
        have heW : Ext w W := by rw [hW]; exact he.alloc _
        have heR : Ext wr W := by rw [hW]; exact (Ext.refl wr).alloc _
        rw [← hW]
        clear hW
        cases hp : jobOk d
        · have hp' : jobOk (⟨d.Id, d.Due, d.Key, d.Value, d.Fired⟩ : DJob) = false := hp
          have hcl : true = true := rfl
          refine wp_region_ext (by kernel_rfl) (by kernel_rfl) ?_
          repeat (first | go_big_quiet_skip | (go_big_quiet_want; first | (refine quiet_load _ _ _ ?_ rfl rfl (fun wq hq => ?_) ?_; rotate_left; (focus ((try have y0 := hq.cell x0); (try have y1 := hq.cell x1); (try have y2 := hq.cell x2); (try have y3 := hq.cell x3); (try have y4 := hq.cell x4); (try have y5 := hq.cell e0); go_simp; first | done | rfl)); (try simp only [Act.put, List.setIfInBounds_toArray, List.set_cons_zero, List.set_cons_succ]); go_big_quiet_on) | (refine quiet_lookup _ _ _ _ _ ?_ rfl rfl rfl (fun wq hq => ?_) ?_; rotate_left; (focus (fail)); (try simp only [Act.put, List.setIfInBounds_toArray, List.set_cons_zero, List.set_cons_succ]); go_big_quiet_on) | (go_big_quiet_op; first | go_big_quiet_on | (refine ⟨_, fun _ _ => rfl, ?_⟩; go_big_quiet_on) | (apply Exists.intro; refine ⟨fun wq hq => ?_, ?_⟩; (focus (first | exact call_ext hq (by have c := jobOk_c wq d.Id d.Due d.Key d.Value d.Fired; rw [hp'] at c; exact c) | exact call_ext hq (by have c := closed_c wq d.Id d.Due d.Key d.Value d.Fired; rw [hcl] at c; exact c))); go_big_quiet_on))))
          refine wpQuiet_nil ?_
          intro w1 hx1
          go_wp2
          go_ret
          exact ⟨congrArg (fun z => Ending.returned (.bool z)) (jobsOk_false (fun hh => by have := (hh.2 k hlt d HD.out).1; rw [hp] at this; cases this)).symm, heW.trans hx1⟩
        · have hp' : jobOk (⟨d.Id, d.Due, d.Key, d.Value, d.Fired⟩ : DJob) = true := hp
          have hw : (Lit.int .i64 d.Fired).wf = true := by
            have h1 := hp
            simp only [jobOk, Bool.and_eq_true] at h1
            have := inb_true.1 h1.2.2.2.2
            exact WalkArith.wf_i64 (by omega)
          have hge : 0 ≤ d.Fired := by
            have h1 := hp
            simp only [jobOk, Bool.and_eq_true] at h1
            exact (inb_true.1 h1.2.2.2.2).1
          by_cases hk0 : k = 0
          · have hk1 : decide (0 < k) = false := by simp; omega
            have HK := Lib.hid hk0
            clear hk0
            by_cases hf : d.Fired = 0
            · have hcl : (!decide (d.Fired = 0)) = false := by simp [hf]
              have HF := Lib.hid hf
              clear hf
              refine wp_region_ext (by kernel_rfl) (by kernel_rfl) ?_
              repeat (first | go_big_quiet_skip | (go_big_quiet_want; first | (refine quiet_load _ _ _ ?_ rfl rfl (fun wq hq => ?_) ?_; rotate_left; (focus ((try have y0 := hq.cell x0); (try have y1 := hq.cell x1); (try have y2 := hq.cell x2); (try have y3 := hq.cell x3); (try have y4 := hq.cell x4); (try have y5 := hq.cell e0); go_simp; first | done | rfl)); (try simp only [Act.put, List.setIfInBounds_toArray, List.set_cons_zero, List.set_cons_succ]); go_big_quiet_on) | (refine quiet_lookup _ _ _ _ _ ?_ rfl rfl rfl (fun wq hq => ?_) ?_; rotate_left; (focus (fail)); (try simp only [Act.put, List.setIfInBounds_toArray, List.set_cons_zero, List.set_cons_succ]); go_big_quiet_on) | (go_big_quiet_op; first | go_big_quiet_on | (refine ⟨_, fun _ _ => rfl, ?_⟩; go_big_quiet_on) | (apply Exists.intro; refine ⟨fun wq hq => ?_, ?_⟩; (focus (first | exact call_ext hq (by have c := jobOk_c wq d.Id d.Due d.Key d.Value d.Fired; rw [hp'] at c; exact c) | exact call_ext hq (by have c := closed_c wq d.Id d.Due d.Key d.Value d.Fired; rw [hcl] at c; exact c))); go_big_quiet_on))))
              refine wpQuiet_nil ?_
              intro w1 hx1
              have x4' := hx1.cell x4
              go_wp2_with (at_mapUpdate; refine wpList_put rfl _ _ _ 117 rfl 2 4 Try.underlying2 Try.underlying117 Try.underlying4 _ _ _ _ rfl rfl rfl (hset'.ext hx1) (by unfold maxLen; omega) hw ?_; intro w2 hset2 hgr2)
              have hx2 := (heW.trans hx1).grownOwn hgr2 (by omega)
              go_roundw
              case rel => exact ⟨k + 1, by omega, by go_num, hx2, _, hset2, Lib.hid (JobsOk.next HD.out HO.out hp (fun e h => by have := HK.out; omega) (fun h => by have := HF.out; omega)), Lib.hid (sets_next HD.out HM.out)⟩
              case measure => simp [intOf]; omega
            · have hcl : (!decide (d.Fired = 0)) = true := by simp [hf]
              have HF := Lib.hid hf
              clear hf
              by_cases hmem : d.Fired ∈ S
              · have hnu : decide (d.Fired ∈ S) = true := by simpa using hmem
                have HMM := Lib.hid hmem
                clear hmem
                refine wp_region_ext (by kernel_rfl) (by kernel_rfl) ?_
                repeat (first | go_big_quiet_skip | (go_big_quiet_want; first | (refine quiet_load _ _ _ ?_ rfl rfl (fun wq hq => ?_) ?_; rotate_left; (focus ((try have y0 := hq.cell x0); (try have y1 := hq.cell x1); (try have y2 := hq.cell x2); (try have y3 := hq.cell x3); (try have y4 := hq.cell x4); (try have y5 := hq.cell e0); go_simp; first | done | rfl)); (try simp only [Act.put, List.setIfInBounds_toArray, List.set_cons_zero, List.set_cons_succ]); go_big_quiet_on) | (refine quiet_lookup _ _ _ _ _ ?_ rfl rfl rfl (fun wq hq => ?_) ?_; rotate_left; (focus (exact (by have c := (hset'.ext hq).look (t := 117) Try.underlying2 Try.underlying117 Try.underlying4 (zbP _) hw; rw [hnu] at c; exact c))); (try simp only [Act.put, List.setIfInBounds_toArray, List.set_cons_zero, List.set_cons_succ]); go_big_quiet_on) | (go_big_quiet_op; first | go_big_quiet_on | (refine ⟨_, fun _ _ => rfl, ?_⟩; go_big_quiet_on) | (apply Exists.intro; refine ⟨fun wq hq => ?_, ?_⟩; (focus (first | exact call_ext hq (by have c := jobOk_c wq d.Id d.Due d.Key d.Value d.Fired; rw [hp'] at c; exact c) | exact call_ext hq (by have c := closed_c wq d.Id d.Due d.Key d.Value d.Fired; rw [hcl] at c; exact c))); go_big_quiet_on))))
                refine wpQuiet_nil ?_
                intro w1 hx1
                go_wp2
                go_ret
                exact ⟨congrArg (fun z => Ending.returned (.bool z)) (jobsOk_false (fun hh => by obtain ⟨i, e, hi, h1, h2⟩ := (HM.out d.Fired).1 HMM.out; exact (hh.2 k hlt d HD.out).2.2 (by have := HF.out; omega) i e hi h1 h2)).symm, heW.trans hx1⟩
              · have hnu : decide (d.Fired ∈ S) = false := by simpa using hmem
                have HMM := Lib.hid hmem
                clear hmem
                refine wp_region_ext (by kernel_rfl) (by kernel_rfl) ?_
                repeat (first | go_big_quiet_skip | (go_big_quiet_want; first | (refine quiet_load _ _ _ ?_ rfl rfl (fun wq hq => ?_) ?_; rotate_left; (focus ((try have y0 := hq.cell x0); (try have y1 := hq.cell x1); (try have y2 := hq.cell x2); (try have y3 := hq.cell x3); (try have y4 := hq.cell x4); (try have y5 := hq.cell e0); go_simp; first | done | rfl)); (try simp only [Act.put, List.setIfInBounds_toArray, List.set_cons_zero, List.set_cons_succ]); go_big_quiet_on) | (refine quiet_lookup _ _ _ _ _ ?_ rfl rfl rfl (fun wq hq => ?_) ?_; rotate_left; (focus (exact (by have c := (hset'.ext hq).look (t := 117) Try.underlying2 Try.underlying117 Try.underlying4 (zbP _) hw; rw [hnu] at c; exact c))); (try simp only [Act.put, List.setIfInBounds_toArray, List.set_cons_zero, List.set_cons_succ]); go_big_quiet_on) | (go_big_quiet_op; first | go_big_quiet_on | (refine ⟨_, fun _ _ => rfl, ?_⟩; go_big_quiet_on) | (apply Exists.intro; refine ⟨fun wq hq => ?_, ?_⟩; (focus (first | exact call_ext hq (by have c := jobOk_c wq d.Id d.Due d.Key d.Value d.Fired; rw [hp'] at c; exact c) | exact call_ext hq (by have c := closed_c wq d.Id d.Due d.Key d.Value d.Fired; rw [hcl] at c; exact c))); go_big_quiet_on))))
                refine wpQuiet_nil ?_
                intro w1 hx1
                have x4' := hx1.cell x4
                go_wp2_with (at_mapUpdate; refine wpList_put rfl _ _ _ 117 rfl 2 4 Try.underlying2 Try.underlying117 Try.underlying4 _ _ _ _ rfl rfl rfl (hset'.ext hx1) (by unfold maxLen; omega) hw ?_; intro w2 hset2 hgr2)
                have hx2 := (heW.trans hx1).grownOwn hgr2 (by omega)
                go_roundw
                case rel => exact ⟨k + 1, by omega, by go_num, hx2, _, hset2, Lib.hid (JobsOk.next HD.out HO.out hp (fun e h => by have := HK.out; omega) (fun _ i e hi h1 h2 => HMM.out ((HM.out d.Fired).2 ⟨i, e, hi, h1, h2⟩))), Lib.hid (sets_next HD.out HM.out)⟩
                case measure => simp [intOf]; omega
          · obtain ⟨e, b2, o2, hde, hbo, _, c⟩ := HA.out (k - 1) (by omega)
            obtain ⟨rfl, rfl⟩ : b1 = b2 ∧ o1 = o2 := by simpa using hbo
            have e0 := heW.cell (c 0 _ (by decide) rfl)
            simp only [Nat.add_zero] at e0
            have HE := Lib.hid hde
            clear c hde hbo
            have hk1 : decide (0 < k) = true := by simp; omega
            by_cases hle : d.Id ≤ e.Id
            · have hle' : decide (d.Id ≤ e.Id) = true := by simpa using hle
              have hcl : true = true := rfl
              refine wp_region_ext (by kernel_rfl) (by kernel_rfl) ?_
              repeat (first | go_big_quiet_skip | (go_big_quiet_want; first | (refine quiet_load _ _ _ ?_ rfl rfl (fun wq hq => ?_) ?_; rotate_left; (focus ((try have y0 := hq.cell x0); (try have y1 := hq.cell x1); (try have y2 := hq.cell x2); (try have y3 := hq.cell x3); (try have y4 := hq.cell x4); (try have y5 := hq.cell e0); go_simp; first | done | rfl)); (try simp only [Act.put, List.setIfInBounds_toArray, List.set_cons_zero, List.set_cons_succ]); go_big_quiet_on) | (refine quiet_lookup _ _ _ _ _ ?_ rfl rfl rfl (fun wq hq => ?_) ?_; rotate_left; (focus (fail)); (try simp only [Act.put, List.setIfInBounds_toArray, List.set_cons_zero, List.set_cons_succ]); go_big_quiet_on) | (go_big_quiet_op; first | go_big_quiet_on | (refine ⟨_, fun _ _ => rfl, ?_⟩; go_big_quiet_on) | (apply Exists.intro; refine ⟨fun wq hq => ?_, ?_⟩; (focus (first | exact call_ext hq (by have c := jobOk_c wq d.Id d.Due d.Key d.Value d.Fired; rw [hp'] at c; exact c) | exact call_ext hq (by have c := closed_c wq d.Id d.Due d.Key d.Value d.Fired; rw [hcl] at c; exact c))); go_big_quiet_on))))
              refine wpQuiet_nil ?_
              intro w1 hx1
              go_wp2
              go_ret
              exact ⟨congrArg (fun z => Ending.returned (.bool z)) (jobsOk_false (fun hh => by have := (hh.2 k hlt d HD.out).2.1 e (by omega) HE.out; omega)).symm, heW.trans hx1⟩
            · have hle' : decide (d.Id ≤ e.Id) = false := by simpa using hle
              by_cases hf : d.Fired = 0
              · have hcl : (!decide (d.Fired = 0)) = false := by simp [hf]
                have HF := Lib.hid hf
                clear hf
                refine wp_region_ext (by kernel_rfl) (by kernel_rfl) ?_
                repeat (first | go_big_quiet_skip | (go_big_quiet_want; first | (refine quiet_load _ _ _ ?_ rfl rfl (fun wq hq => ?_) ?_; rotate_left; (focus ((try have y0 := hq.cell x0); (try have y1 := hq.cell x1); (try have y2 := hq.cell x2); (try have y3 := hq.cell x3); (try have y4 := hq.cell x4); (try have y5 := hq.cell e0); go_simp; first | done | rfl)); (try simp only [Act.put, List.setIfInBounds_toArray, List.set_cons_zero, List.set_cons_succ]); go_big_quiet_on) | (refine quiet_lookup _ _ _ _ _ ?_ rfl rfl rfl (fun wq hq => ?_) ?_; rotate_left; (focus (fail)); (try simp only [Act.put, List.setIfInBounds_toArray, List.set_cons_zero, List.set_cons_succ]); go_big_quiet_on) | (go_big_quiet_op; first | go_big_quiet_on | (refine ⟨_, fun _ _ => rfl, ?_⟩; go_big_quiet_on) | (apply Exists.intro; refine ⟨fun wq hq => ?_, ?_⟩; (focus (first | exact call_ext hq (by have c := jobOk_c wq d.Id d.Due d.Key d.Value d.Fired; rw [hp'] at c; exact c) | exact call_ext hq (by have c := closed_c wq d.Id d.Due d.Key d.Value d.Fired; rw [hcl] at c; exact c))); go_big_quiet_on))))
                refine wpQuiet_nil ?_
                intro w1 hx1
                have x4' := hx1.cell x4
                go_wp2_with (at_mapUpdate; refine wpList_put rfl _ _ _ 117 rfl 2 4 Try.underlying2 Try.underlying117 Try.underlying4 _ _ _ _ rfl rfl rfl (hset'.ext hx1) (by unfold maxLen; omega) hw ?_; intro w2 hset2 hgr2)
                have hx2 := (heW.trans hx1).grownOwn hgr2 (by omega)
                go_roundw
                case rel => exact ⟨k + 1, by omega, by go_num, hx2, _, hset2, Lib.hid (JobsOk.next HD.out HO.out hp (fun e' _ hl => by rw [HE.out] at hl; obtain rfl := Option.some.inj hl; omega) (fun h => by have := HF.out; omega)), Lib.hid (sets_next HD.out HM.out)⟩
                case measure => simp [intOf]; omega
              · have hcl : (!decide (d.Fired = 0)) = true := by simp [hf]
                have HF := Lib.hid hf
                clear hf
                by_cases hmem : d.Fired ∈ S
                · have hnu : decide (d.Fired ∈ S) = true := by simpa using hmem
                  have HMM := Lib.hid hmem
                  clear hmem
                  refine wp_region_ext (by kernel_rfl) (by kernel_rfl) ?_
                  repeat (first | go_big_quiet_skip | (go_big_quiet_want; first | (refine quiet_load _ _ _ ?_ rfl rfl (fun wq hq => ?_) ?_; rotate_left; (focus ((try have y0 := hq.cell x0); (try have y1 := hq.cell x1); (try have y2 := hq.cell x2); (try have y3 := hq.cell x3); (try have y4 := hq.cell x4); (try have y5 := hq.cell e0); go_simp; first | done | rfl)); (try simp only [Act.put, List.setIfInBounds_toArray, List.set_cons_zero, List.set_cons_succ]); go_big_quiet_on) | (refine quiet_lookup _ _ _ _ _ ?_ rfl rfl rfl (fun wq hq => ?_) ?_; rotate_left; (focus (exact (by have c := (hset'.ext hq).look (t := 117) Try.underlying2 Try.underlying117 Try.underlying4 (zbP _) hw; rw [hnu] at c; exact c))); (try simp only [Act.put, List.setIfInBounds_toArray, List.set_cons_zero, List.set_cons_succ]); go_big_quiet_on) | (go_big_quiet_op; first | go_big_quiet_on | (refine ⟨_, fun _ _ => rfl, ?_⟩; go_big_quiet_on) | (apply Exists.intro; refine ⟨fun wq hq => ?_, ?_⟩; (focus (first | exact call_ext hq (by have c := jobOk_c wq d.Id d.Due d.Key d.Value d.Fired; rw [hp'] at c; exact c) | exact call_ext hq (by have c := closed_c wq d.Id d.Due d.Key d.Value d.Fired; rw [hcl] at c; exact c))); go_big_quiet_on))))
                  refine wpQuiet_nil ?_
                  intro w1 hx1
                  go_wp2
                  go_ret
                  exact ⟨congrArg (fun z => Ending.returned (.bool z)) (jobsOk_false (fun hh => by obtain ⟨i, e, hi, h1, h2⟩ := (HM.out d.Fired).1 HMM.out; exact (hh.2 k hlt d HD.out).2.2 (by have := HF.out; omega) i e hi h1 h2)).symm, heW.trans hx1⟩
                · have hnu : decide (d.Fired ∈ S) = false := by simpa using hmem
                  have HMM := Lib.hid hmem
                  clear hmem
                  refine wp_region_ext (by kernel_rfl) (by kernel_rfl) ?_
                  repeat (first | go_big_quiet_skip | (go_big_quiet_want; first | (refine quiet_load _ _ _ ?_ rfl rfl (fun wq hq => ?_) ?_; rotate_left; (focus ((try have y0 := hq.cell x0); (try have y1 := hq.cell x1); (try have y2 := hq.cell x2); (try have y3 := hq.cell x3); (try have y4 := hq.cell x4); (try have y5 := hq.cell e0); go_simp; first | done | rfl)); (try simp only [Act.put, List.setIfInBounds_toArray, List.set_cons_zero, List.set_cons_succ]); go_big_quiet_on) | (refine quiet_lookup _ _ _ _ _ ?_ rfl rfl rfl (fun wq hq => ?_) ?_; rotate_left; (focus (exact (by have c := (hset'.ext hq).look (t := 117) Try.underlying2 Try.underlying117 Try.underlying4 (zbP _) hw; rw [hnu] at c; exact c))); (try simp only [Act.put, List.setIfInBounds_toArray, List.set_cons_zero, List.set_cons_succ]); go_big_quiet_on) | (go_big_quiet_op; first | go_big_quiet_on | (refine ⟨_, fun _ _ => rfl, ?_⟩; go_big_quiet_on) | (apply Exists.intro; refine ⟨fun wq hq => ?_, ?_⟩; (focus (first | exact call_ext hq (by have c := jobOk_c wq d.Id d.Due d.Key d.Value d.Fired; rw [hp'] at c; exact c) | exact call_ext hq (by have c := closed_c wq d.Id d.Due d.Key d.Value d.Fired; rw [hcl] at c; exact c))); go_big_quiet_on))))
                  refine wpQuiet_nil ?_
                  intro w1 hx1
                  have x4' := hx1.cell x4
                  go_wp2_with (at_mapUpdate; refine wpList_put rfl _ _ _ 117 rfl 2 4 Try.underlying2 Try.underlying117 Try.underlying4 _ _ _ _ rfl rfl rfl (hset'.ext hx1) (by unfold maxLen; omega) hw ?_; intro w2 hset2 hgr2)
                  have hx2 := (heW.trans hx1).grownOwn hgr2 (by omega)
                  go_roundw
                  case rel => exact ⟨k + 1, by omega, by go_num, hx2, _, hset2, Lib.hid (JobsOk.next HD.out HO.out hp (fun e' _ hl => by rw [HE.out] at hl; obtain rfl := Option.some.inj hl; omega) (fun _ i e hi h1 h2 => HMM.out ((HM.out d.Fired).2 ⟨i, e, hi, h1, h2⟩))), Lib.hid (sets_next HD.out HM.out)⟩
                  case measure => simp [intOf]; omega
      · obtain rfl : k = l0_0.length := by omega
        go_wp2
        go_ret
        exact ⟨congrArg (fun z => Ending.returned (.bool z)) (jobsOk_true ⟨by omega, HO.out⟩).symm, he⟩

end Go.Proofs.Ytemhbbpbmgpcaaa
