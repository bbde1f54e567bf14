/- Jobs: the reference says right or not. -/
import Derived.Test.YtemhbbpbmgpcaaaP2
set_option linter.unusedSimpArgs false
set_option linter.unusedVariables false
namespace Go.Proofs.Ytemhbbpbmgpcaaa
open Go.RowKit Go.G8

end Go.Proofs.Ytemhbbpbmgpcaaa
namespace Go.G8
open Go.RowKit
/-- Element i of a list of jobs is in order. -/
def JobAt (l : List DJob) (i : Nat) : Prop := ∀ d, l[i]? = some d → jobOk d = true ∧ (∀ e, 0 < i → l[i - 1]? = some e → e.Id < d.Id) ∧ (0 < d.Fired → ∀ k e, k < i → l[k]? = some e → e.Fired ≠ d.Fired)
def JobsOk (l : List DJob) : Prop := l.length ≤ 8 ∧ ∀ i, i < l.length → JobAt l i
open Classical in
noncomputable def jobsOk (l : List DJob) : Bool := decide (JobsOk l)
theorem jobsOk_true {l : List DJob} (h : JobsOk l) : jobsOk l = true := by simp [jobsOk, h]
theorem jobsOk_false {l : List DJob} (h : ¬ JobsOk l) : jobsOk l = false := by simp [jobsOk, h]
theorem jobsOk_iff {l : List DJob} : jobsOk l = true ↔ JobsOk l := by simp [jobsOk]
theorem JobsOk.next {l : List DJob} {k : Nat} {d : DJob} (hd : l[k]? = some d) (h : ∀ i, i < k → JobAt l i) (h1 : jobOk d = true) (h2 : ∀ e, 0 < k → l[k - 1]? = some e → e.Id < d.Id)
    (h3 : 0 < d.Fired → ∀ i e, i < k → l[i]? = some e → e.Fired ≠ d.Fired) : ∀ i, i < k + 1 → JobAt l i := by
  intro i hi
  by_cases hik : i = k
  · subst hik
    intro d' hd'
    rw [hd] at hd'
    obtain rfl := Option.some.inj hd'
    exact ⟨h1, h2, h3⟩
  · exact h i (by omega)
end Go.G8
namespace Go.Proofs.Ytemhbbpbmgpcaaa
open Go.RowKit Go.G8
set_option maxHeartbeats 3200000 in
set_option maxRecDepth 100000 in
theorem sJobsOk_c (w : World) (s0_0 : Value) (l0_0 : List DJob) (h0_0 : Ints 5 w s0_0 (flJob l0_0)) : Calls Try.prog 82 #[s0_0] w (RetV w (.bool (jobsOk l0_0))) := by
  obtain ⟨a, cap, rfl, hcap, hm, ha⟩ := h0_0.recs (f := DJob.ints) (fun _ => rfl) (by decide)
  have HA := Lib.hid ha
  clear ha
  unfold maxLen at hm
  by_cases h8 : l0_0.length ≤ 8
  rotate_left
  · go_enter Try.func82, Try.ntmps82
    go_wp2
    go_ret
    exact ⟨congrArg (fun z => Ending.returned (.bool z)) (jobsOk_false (fun hh => h8 hh.1)).symm, Ext.refl _⟩
  · go_enter Try.func82, Try.ntmps82
    go_wp2
    go_loopw [3] (fun i wr => ∃ k : Nat, k ≤ l0_0.length ∧ i = .int .i64 k ∧ Ext w wr ∧ Hid (∀ i, i < k → JobAt l0_0 i)) (fun i _ => l0_0.length - (intOf i).toNat)
    case atStart => exact ⟨0, Nat.zero_le _, rfl, Ext.refl _, Lib.hid (fun i hi => by omega)⟩
    case round =>
      obtain ⟨k, hk, rfl, he, HO⟩ := hrel
      by_cases hlt : k < l0_0.length
      · obtain ⟨d, b1, o1, hd, rfl, hb1, c⟩ := HA.out k hlt
        have d0 := he.cell (c 0 _ (by decide) rfl)
        have d1 := he.cell (c 1 _ (by decide) rfl)
        have d2 := he.cell (c 2 _ (by decide) rfl)
        have d3 := he.cell (c 3 _ (by decide) rfl)
        have d4 := he.cell (c 4 _ (by decide) rfl)
        simp only [Nat.add_zero] at d0
        have HD := Lib.hid hd
        clear c hd
        cases hp : jobOk d
        · go_wp2
          refine wp_region_ext (by kernel_rfl) (by kernel_rfl) ?_
          repeat (first | go_big_quiet_skip | (go_big_quiet_want; first | (refine quiet_load _ _ _ ?_ rfl rfl (fun wq hq => ?_) ?_; rotate_left; (focus ((try have y0 := hq.cell d0); (try have y1 := hq.cell d1); (try have y2 := hq.cell d2); (try have y3 := hq.cell d3); (try have y4 := hq.cell d4); (try have y5 := hq.cell e0); go_simp; first | done | rfl)); (try simp only [Act.put, List.setIfInBounds_toArray, List.set_cons_zero, List.set_cons_succ]); go_big_quiet_on) | (go_big_quiet_op; first | go_big_quiet_on | (refine ⟨_, fun _ _ => rfl, ?_⟩; go_big_quiet_on) | (apply Exists.intro; refine ⟨fun wq hq => ?_, ?_⟩; (focus (exact call_ext hq (by have c := sJobOk_c wq d.Id d.Due d.Key d.Value d.Fired; rw [show jobOk (⟨d.Id, d.Due, d.Key, d.Value, d.Fired⟩ : DJob) = false from hp] at c; exact c))); go_big_quiet_on))))
          refine wpQuiet_nil ?_
          intro w1 hx1
          go_wp2
          go_ret
          exact ⟨congrArg (fun z => Ending.returned (.bool z)) (jobsOk_false (fun hh => by have := (hh.2 k hlt d HD.out).1; rw [hp] at this; cases this)).symm, he.trans hx1⟩
        · by_cases hk0 : k = 0
          · have hk1 : decide (0 < k) = false := by simp; omega
            have HK := Lib.hid hk0
            clear hk0
            go_wp2
            refine wp_region_ext (by kernel_rfl) (by kernel_rfl) ?_
            repeat (first | go_big_quiet_skip | (go_big_quiet_want; first | (refine quiet_load _ _ _ ?_ rfl rfl (fun wq hq => ?_) ?_; rotate_left; (focus ((try have y0 := hq.cell d0); (try have y1 := hq.cell d1); (try have y2 := hq.cell d2); (try have y3 := hq.cell d3); (try have y4 := hq.cell d4); (try have y5 := hq.cell e0); go_simp; first | done | rfl)); (try simp only [Act.put, List.setIfInBounds_toArray, List.set_cons_zero, List.set_cons_succ]); go_big_quiet_on) | (go_big_quiet_op; first | go_big_quiet_on | (refine ⟨_, fun _ _ => rfl, ?_⟩; go_big_quiet_on) | (apply Exists.intro; refine ⟨fun wq hq => ?_, ?_⟩; (focus (exact call_ext hq (by have c := sJobOk_c wq d.Id d.Due d.Key d.Value d.Fired; rw [show jobOk (⟨d.Id, d.Due, d.Key, d.Value, d.Fired⟩ : DJob) = true from hp] at c; exact c))); go_big_quiet_on))))
            refine wpQuiet_nil ?_
            intro w1 hx1
            go_wp2
            go_loopw [4] (fun i wr' => ∃ m : Nat, m ≤ k ∧ i = .int .i64 m ∧ Ext wr wr' ∧ Hid (0 < d.Fired → ∀ i e, i < m → l0_0[i]? = some e → e.Fired ≠ d.Fired)) (fun i _ => k - (intOf i).toNat)
            case atStart => exact ⟨0, by omega, rfl, hx1, Lib.hid (fun _ i e h => by omega)⟩
            case round =>
              obtain ⟨m, hm', rfl, he', HM⟩ := hrel
              by_cases hmk : m < k
              · obtain ⟨g, b2, o2, hdg, hbo, _, c⟩ := HA.out m (by omega)
                obtain ⟨rfl, rfl⟩ : b1 = b2 ∧ o1 = o2 := by simpa using hbo
                have g4 := (he.trans he').cell (c 4 _ (by decide) rfl)
                have f4 := he'.cell d4
                have HG := Lib.hid hdg
                clear c hdg hbo
                by_cases hf : 0 < d.Fired
                · have hf' : decide (0 < d.Fired) = true := by simpa using hf
                  by_cases heq : g.Fired = d.Fired
                  · have hb : (g.Fired == d.Fired) = true := by simpa using heq
                    have HEQ := Lib.hid heq
                    clear heq
                    go_wp2
                    go_quiet (fail)
                    go_wp2
                    go_ret
                    exact ⟨congrArg (fun z => Ending.returned (.bool z)) (jobsOk_false (fun hh => (hh.2 k hlt d HD.out).2.2 hf m g hmk HG.out HEQ.out)).symm, (he.trans he').drewN _⟩
                  · have hb : (g.Fired == d.Fired) = false := by simpa using heq
                    go_wp2
                    go_quiet (fail)
                    go_wp2
                    go_roundw
                    case rel =>
                      refine ⟨m + 1, by omega, by go_num, he'.drewN _, Lib.hid (fun _ i e' hi hl => ?_)⟩
                      by_cases him : i = m
                      · subst him
                        rw [HG.out] at hl
                        obtain rfl := Option.some.inj hl
                        exact heq
                      · exact HM.out hf i e' (by omega) hl
                    case measure => simp [intOf]; omega
                · have hf' : decide (0 < d.Fired) = false := by simpa using hf
                  go_wp2
                  go_quiet (fail)
                  go_wp2
                  go_roundw
                  case rel => exact ⟨m + 1, by omega, by go_num, he'.drewN _, Lib.hid (fun h => absurd h (by omega))⟩
                  case measure => simp [intOf]; omega
              · obtain rfl : m = k := by omega
                go_wp2
                go_roundw
                case rel => exact ⟨m + 1, by omega, by go_num, he.trans he', Lib.hid (JobsOk.next HD.out HO.out hp (fun e h => by have := HK.out; omega) HM.out)⟩
                case measure => simp [intOf]; omega
          · obtain ⟨e, b2, o2, hde, hbo, _, c⟩ := HA.out (k - 1) (by omega)
            obtain ⟨rfl, rfl⟩ : b1 = b2 ∧ o1 = o2 := by simpa using hbo
            have e0 := he.cell (c 0 _ (by decide) rfl)
            simp only [Nat.add_zero] at e0
            have HE := Lib.hid hde
            clear c hde hbo
            have hk1 : decide (0 < k) = true := by simp; omega
            by_cases hle : d.Id ≤ e.Id
            · have hle' : decide (d.Id ≤ e.Id) = true := by simpa using hle
              go_wp2
              refine wp_region_ext (by kernel_rfl) (by kernel_rfl) ?_
              repeat (first | go_big_quiet_skip | (go_big_quiet_want; first | (refine quiet_load _ _ _ ?_ rfl rfl (fun wq hq => ?_) ?_; rotate_left; (focus ((try have y0 := hq.cell d0); (try have y1 := hq.cell d1); (try have y2 := hq.cell d2); (try have y3 := hq.cell d3); (try have y4 := hq.cell d4); (try have y5 := hq.cell e0); go_simp; first | done | rfl)); (try simp only [Act.put, List.setIfInBounds_toArray, List.set_cons_zero, List.set_cons_succ]); go_big_quiet_on) | (go_big_quiet_op; first | go_big_quiet_on | (refine ⟨_, fun _ _ => rfl, ?_⟩; go_big_quiet_on) | (apply Exists.intro; refine ⟨fun wq hq => ?_, ?_⟩; (focus (exact call_ext hq (by have c := sJobOk_c wq d.Id d.Due d.Key d.Value d.Fired; rw [show jobOk (⟨d.Id, d.Due, d.Key, d.Value, d.Fired⟩ : DJob) = true from hp] at c; exact c))); go_big_quiet_on))))
              refine wpQuiet_nil ?_
              intro w1 hx1
              go_wp2
              go_ret
              exact ⟨congrArg (fun z => Ending.returned (.bool z)) (jobsOk_false (fun hh => by have := (hh.2 k hlt d HD.out).2.1 e (by omega) HE.out; omega)).symm, he.trans hx1⟩
            · have hle' : decide (d.Id ≤ e.Id) = false := by simpa using hle
              go_wp2
              refine wp_region_ext (by kernel_rfl) (by kernel_rfl) ?_
              repeat (first | go_big_quiet_skip | (go_big_quiet_want; first | (refine quiet_load _ _ _ ?_ rfl rfl (fun wq hq => ?_) ?_; rotate_left; (focus ((try have y0 := hq.cell d0); (try have y1 := hq.cell d1); (try have y2 := hq.cell d2); (try have y3 := hq.cell d3); (try have y4 := hq.cell d4); (try have y5 := hq.cell e0); go_simp; first | done | rfl)); (try simp only [Act.put, List.setIfInBounds_toArray, List.set_cons_zero, List.set_cons_succ]); go_big_quiet_on) | (go_big_quiet_op; first | go_big_quiet_on | (refine ⟨_, fun _ _ => rfl, ?_⟩; go_big_quiet_on) | (apply Exists.intro; refine ⟨fun wq hq => ?_, ?_⟩; (focus (exact call_ext hq (by have c := sJobOk_c wq d.Id d.Due d.Key d.Value d.Fired; rw [show jobOk (⟨d.Id, d.Due, d.Key, d.Value, d.Fired⟩ : DJob) = true from hp] at c; exact c))); go_big_quiet_on))))
              refine wpQuiet_nil ?_
              intro w1 hx1
              go_wp2
              go_loopw [4] (fun i wr' => ∃ m : Nat, m ≤ k ∧ i = .int .i64 m ∧ Ext wr wr' ∧ Hid (0 < d.Fired → ∀ i e, i < m → l0_0[i]? = some e → e.Fired ≠ d.Fired)) (fun i _ => k - (intOf i).toNat)
              case atStart => exact ⟨0, by omega, rfl, hx1, Lib.hid (fun _ i e h => by omega)⟩
              case round =>
                obtain ⟨m, hm', rfl, he', HM⟩ := hrel
                by_cases hmk : m < k
                · obtain ⟨g, b2, o2, hdg, hbo, _, c⟩ := HA.out m (by omega)
                  obtain ⟨rfl, rfl⟩ : b1 = b2 ∧ o1 = o2 := by simpa using hbo
                  have g4 := (he.trans he').cell (c 4 _ (by decide) rfl)
                  have f4 := he'.cell d4
                  have HG := Lib.hid hdg
                  clear c hdg hbo
                  by_cases hf : 0 < d.Fired
                  · have hf' : decide (0 < d.Fired) = true := by simpa using hf
                    by_cases heq : g.Fired = d.Fired
                    · have hb : (g.Fired == d.Fired) = true := by simpa using heq
                      have HEQ := Lib.hid heq
                      clear heq
                      go_wp2
                      go_quiet (fail)
                      go_wp2
                      go_ret
                      exact ⟨congrArg (fun z => Ending.returned (.bool z)) (jobsOk_false (fun hh => (hh.2 k hlt d HD.out).2.2 hf m g hmk HG.out HEQ.out)).symm, (he.trans he').drewN _⟩
                    · have hb : (g.Fired == d.Fired) = false := by simpa using heq
                      go_wp2
                      go_quiet (fail)
                      go_wp2
                      go_roundw
                      case rel =>
                        refine ⟨m + 1, by omega, by go_num, he'.drewN _, Lib.hid (fun _ i e' hi hl => ?_)⟩
                        by_cases him : i = m
                        · subst him
                          rw [HG.out] at hl
                          obtain rfl := Option.some.inj hl
                          exact heq
                        · exact HM.out hf i e' (by omega) hl
                      case measure => simp [intOf]; omega
                  · have hf' : decide (0 < d.Fired) = false := by simpa using hf
                    go_wp2
                    go_quiet (fail)
                    go_wp2
                    go_roundw
                    case rel => exact ⟨m + 1, by omega, by go_num, he'.drewN _, Lib.hid (fun h => absurd h (by omega))⟩
                    case measure => simp [intOf]; omega
                · obtain rfl : m = k := by omega
                  go_wp2
                  go_roundw
                  case rel => exact ⟨m + 1, by omega, by go_num, he.trans he', Lib.hid (JobsOk.next HD.out HO.out hp (fun e' _ hl => by rw [HE.out] at hl; obtain rfl := Option.some.inj hl; omega) HM.out)⟩
                  case measure => simp [intOf]; omega
      · obtain rfl : k = l0_0.length := by omega
        go_wp2
        go_ret
        exact ⟨congrArg (fun z => Ending.returned (.bool z)) (jobsOk_true ⟨by omega, HO.out⟩).symm, he⟩

end Go.Proofs.Ytemhbbpbmgpcaaa
