/- The order of a list of open jobs, in the reference. -/
import Derived.Test.YthegnmdknenefaaV1
namespace Go.Proofs.Ythegnmdknenefaa
open Go.RowKit Go.G8

set_option maxHeartbeats 1600000 in
theorem l11Open_c (w : World) (v : Value) (l : List DDue) (h : Ints 2 w v (dues l)) : Calls Try.prog 108 #[v] w (RetV w (.bool (openOk l))) := by
  obtain ⟨a, cap, rfl, hcap, hm, ha⟩ := h.recs (f := DDue.ints) (fun _ => rfl) (by decide)
  have HA := Lib.hid ha
  clear ha
  unfold maxLen at hm
  by_cases h8 : 8 < l.length
  · rw [openOk_false (fun hh => by have := hh.1; omega)]
    go_enter Try.func108, Try.ntmps108
    go_wp2
    go_ret
    exact ⟨rfl, Ext.refl _⟩
  · have h8' : decide ((8 : Int) < (l.length : Int)) = false := by simp; omega
    go_enter Try.func108, Try.ntmps108
    go_wp2
    go_loopw [3] (fun i wr => ∃ k : Nat, k ≤ l.length ∧ i = .int .i64 k ∧ Ext w wr ∧ ∀ i, i < k → OpenAt l i) (fun i _ => l.length - (intOf i).toNat)
    case atStart => exact ⟨0, Nat.zero_le _, rfl, Ext.refl _, fun i hi => by omega⟩
    case round =>
      obtain ⟨k, hk, rfl, he, hok⟩ := hrel
      have HO := Lib.hid hok
      clear hok
      by_cases hlt : k < l.length
      · obtain ⟨d, b1, o1, hd, rfl, hb1, c⟩ := HA.out k hlt
        have d0 := he.cell (c 0 _ (by decide) rfl)
        have d1 := he.cell (c 1 _ (by decide) rfl)
        simp only [Nat.add_zero] at d0
        have HD := Lib.hid hd
        clear c hd
        cases hid : idOk d.Id
        · go_wp2
          refine wp_region_ext (by kernel_rfl) (by kernel_rfl) ?_
          repeat (first | go_big_quiet_skip | (go_big_quiet_want; first | (refine quiet_load _ _ _ ?_ rfl rfl (fun wq hq => ?_) ?_; rotate_left; (focus (have q0 := hq.cell d0; have q1 := hq.cell d1; go_simp; first | done | rfl)); (try simp only [Act.put, List.setIfInBounds_toArray, List.set_cons_zero, List.set_cons_succ]); go_big_quiet_on) | (go_big_quiet_op; first | go_big_quiet_on | (refine ⟨_, fun _ _ => rfl, ?_⟩; go_big_quiet_on) | (apply Exists.intro; refine ⟨fun wq hq => ?_, ?_⟩; (focus (first | exact call_same hq (by have c := l7Id_c wq d.Id; rw [hid] at c; exact c))); go_big_quiet_on))))
          refine wpQuiet_nil ?_
          intro w1 hx1
          go_wp2
          go_ret
          exact ⟨congrArg (fun z => Ending.returned (.bool z)) (openOk_false (fun hh => by have := (hh.2 k hlt d HD.out).1; rw [hid] at this; cases this)).symm, he.trans hx1⟩
        · cases htm : timeOk d.Due
          · go_wp2
            refine wp_region_ext (by kernel_rfl) (by kernel_rfl) ?_
            repeat (first | go_big_quiet_skip | (go_big_quiet_want; first | (refine quiet_load _ _ _ ?_ rfl rfl (fun wq hq => ?_) ?_; rotate_left; (focus (have q0 := hq.cell d0; have q1 := hq.cell d1; go_simp; first | done | rfl)); (try simp only [Act.put, List.setIfInBounds_toArray, List.set_cons_zero, List.set_cons_succ]); go_big_quiet_on) | (go_big_quiet_op; first | go_big_quiet_on | (refine ⟨_, fun _ _ => rfl, ?_⟩; go_big_quiet_on) | (apply Exists.intro; refine ⟨fun wq hq => ?_, ?_⟩; (focus (first | exact call_same hq (by have c := l7Id_c wq d.Id; rw [hid] at c; exact c) | exact call_same hq (by have c := sTimeOk_c wq d.Due; rw [htm] at c; exact c))); go_big_quiet_on))))
            refine wpQuiet_nil ?_
            intro w1 hx1
            go_wp2
            go_ret
            exact ⟨congrArg (fun z => Ending.returned (.bool z)) (openOk_false (fun hh => by have := (hh.2 k hlt d HD.out).2.1; rw [htm] at this; cases this)).symm, he.trans hx1⟩
          · have hnext : (∀ e, 0 < k → l[k - 1]? = some e → dueLess e d = true) → (∀ i e, i < k → l[i]? = some e → e.Id ≠ d.Id) → ∀ i, i < k + 1 → OpenAt l i := by
              intro n1 n2 i hi
              by_cases hik : i = k
              · subst hik
                intro d' hd'
                rw [HD.out] at hd'
                obtain rfl := Option.some.inj hd'
                exact ⟨hid, htm, n1, n2⟩
              · exact HO.out i (by omega)
            have HN := Lib.hid hnext
            clear hnext
            have hdup : ∀ i e, i < k → l[i]? = some e → e.Id = d.Id → openOk l = false := fun i e hi he' hh => openOk_false (fun ho => (ho.2 k hlt d HD.out).2.2.2 i e hi he' hh)
            have HU := Lib.hid hdup
            clear hdup
            by_cases hk0 : k = 0
            · subst hk0
              simp only [Nat.zero_mul, Nat.add_zero] at d0 d1
              go_wp2
              refine wp_region_ext (by kernel_rfl) (by kernel_rfl) ?_
              repeat (first | go_big_quiet_skip | (go_big_quiet_want; first | (refine quiet_load _ _ _ ?_ rfl rfl (fun wq hq => ?_) ?_; rotate_left; (focus (have q0 := hq.cell d0; have q1 := hq.cell d1; go_simp; first | done | rfl)); (try simp only [Act.put, List.setIfInBounds_toArray, List.set_cons_zero, List.set_cons_succ]); go_big_quiet_on) | (go_big_quiet_op; first | go_big_quiet_on | (refine ⟨_, fun _ _ => rfl, ?_⟩; go_big_quiet_on) | (apply Exists.intro; refine ⟨fun wq hq => ?_, ?_⟩; (focus (first | exact call_same hq (by have c := l7Id_c wq d.Id; rw [hid] at c; exact c) | exact call_same hq (by have c := sTimeOk_c wq d.Due; rw [htm] at c; exact c))); go_big_quiet_on))))
              refine wpQuiet_nil ?_
              intro w1 hx1
              go_wp2
              go_loopw [4] (fun i wr' => i = .int .i64 0 ∧ Ext wr wr') (fun _ _ => 0)
              case atStart => exact ⟨rfl, hx1⟩
              case round =>
                obtain ⟨rfl, he'⟩ := hrel
                go_wp2
                go_roundw
                case rel => exact ⟨1, by omega, rfl, he.trans he', HN.out (fun e h => by omega) (fun i e h => by omega)⟩
                case measure => simp [intOf]; omega
            · obtain ⟨e, b2, o2, hde, hbo, _, c⟩ := HA.out (k - 1) (by omega)
              obtain ⟨rfl, rfl⟩ : b1 = b2 ∧ o1 = o2 := by simpa using hbo
              have e0 := he.cell (c 0 _ (by decide) rfl)
              have e1 := he.cell (c 1 _ (by decide) rfl)
              simp only [Nat.add_zero] at e0
              have HE := Lib.hid hde
              clear c hde hbo
              have hk1 : decide (0 < k) = true := by simp; omega
              cases hls : dueLess e d
              · go_wp2
                refine wp_region_ext (by kernel_rfl) (by kernel_rfl) ?_
                repeat (first | go_big_quiet_skip | (go_big_quiet_want; first | (refine quiet_load _ _ _ ?_ rfl rfl (fun wq hq => ?_) ?_; rotate_left; (focus (have q0 := hq.cell d0; have q1 := hq.cell d1; have p0 := hq.cell e0; have p1 := hq.cell e1; go_simp; first | done | rfl)); (try simp only [Act.put, List.setIfInBounds_toArray, List.set_cons_zero, List.set_cons_succ]); go_big_quiet_on) | (go_big_quiet_op; first | go_big_quiet_on | (refine ⟨_, fun _ _ => rfl, ?_⟩; go_big_quiet_on) | (apply Exists.intro; refine ⟨fun wq hq => ?_, ?_⟩; (focus (first | exact call_same hq (by have c := l7Id_c wq d.Id; rw [hid] at c; exact c) | exact call_same hq (by have c := sTimeOk_c wq d.Due; rw [htm] at c; exact c) | exact call_ext hq (by have c := l11DueLess_c wq e d; rw [hls] at c; exact c))); go_big_quiet_on))))
                refine wpQuiet_nil ?_
                intro w1 hx1
                go_wp2
                go_ret
                exact ⟨congrArg (fun z => Ending.returned (.bool z)) (openOk_false (fun hh => by have := (hh.2 k hlt d HD.out).2.2.1 e (by omega) HE.out; rw [hls] at this; cases this)).symm, he.trans hx1⟩
              · go_wp2
                refine wp_region_ext (by kernel_rfl) (by kernel_rfl) ?_
                repeat (first | go_big_quiet_skip | (go_big_quiet_want; first | (refine quiet_load _ _ _ ?_ rfl rfl (fun wq hq => ?_) ?_; rotate_left; (focus (have q0 := hq.cell d0; have q1 := hq.cell d1; have p0 := hq.cell e0; have p1 := hq.cell e1; go_simp; first | done | rfl)); (try simp only [Act.put, List.setIfInBounds_toArray, List.set_cons_zero, List.set_cons_succ]); go_big_quiet_on) | (go_big_quiet_op; first | go_big_quiet_on | (refine ⟨_, fun _ _ => rfl, ?_⟩; go_big_quiet_on) | (apply Exists.intro; refine ⟨fun wq hq => ?_, ?_⟩; (focus (first | exact call_same hq (by have c := l7Id_c wq d.Id; rw [hid] at c; exact c) | exact call_same hq (by have c := sTimeOk_c wq d.Due; rw [htm] at c; exact c) | exact call_ext hq (by have c := l11DueLess_c wq e d; rw [hls] at c; exact c))); go_big_quiet_on))))
                refine wpQuiet_nil ?_
                intro w1 hx1
                go_wp2
                go_loopw [4] (fun i wr' => ∃ m : Nat, m ≤ k ∧ i = .int .i64 m ∧ Ext wr wr' ∧ ∀ i e, i < m → l[i]? = some e → e.Id ≠ d.Id) (fun i _ => k - (intOf i).toNat)
                case atStart => exact ⟨0, by omega, rfl, hx1, fun i e h => by omega⟩
                case round =>
                  obtain ⟨m, hm', rfl, he', hno⟩ := hrel
                  have HM := Lib.hid hno
                  clear hno
                  by_cases hmk : m < k
                  · obtain ⟨g, b2, o2, hdg, hbo, _, c⟩ := HA.out m (by omega)
                    obtain ⟨rfl, rfl⟩ : b1 = b2 ∧ o1 = o2 := by simpa using hbo
                    have g0 := (he.trans he').cell (c 0 _ (by decide) rfl)
                    have f0 := he'.cell d0
                    simp only [Nat.add_zero] at g0
                    have HG := Lib.hid hdg
                    clear c hdg hbo
                    by_cases heq : g.Id = d.Id
                    · have hb : (g.Id == d.Id) = true := by simpa using heq
                      have HEQ := Lib.hid heq
                      clear heq
                      go_wp2
                      go_quiet (fail)
                      go_wp2
                      go_ret
                      exact ⟨congrArg (fun z => Ending.returned (.bool z)) (HU.out m g hmk HG.out HEQ.out).symm, (he.trans he').drewN _⟩
                    · have hb : (g.Id == d.Id) = false := by simpa using heq
                      go_wp2
                      go_quiet (fail)
                      go_wp2
                      go_roundw
                      case rel => 
                        refine ⟨m + 1, by omega, by go_num, he'.drewN _, fun i e' hi hl => ?_⟩
                        by_cases him : i = m
                        · subst him
                          rw [HG.out] at hl
                          obtain rfl := Option.some.inj hl
                          exact heq
                        · exact HM.out i e' (by omega) hl
                      case measure => simp [intOf]; omega
                  · obtain rfl : m = k := by omega
                    go_wp2
                    go_roundw
                    case rel => exact ⟨m + 1, by omega, by go_num, he.trans he', HN.out (fun e' _ hl => by rw [HE.out] at hl; obtain rfl := Option.some.inj hl; exact hls) HM.out⟩
                    case measure => simp [intOf]; omega
      · obtain rfl : k = l.length := by omega
        go_wp2
        go_ret
        exact ⟨congrArg (fun z => Ending.returned (.bool z)) (openOk_true ⟨by omega, HO.out⟩).symm, he⟩
end Go.Proofs.Ythegnmdknenefaa
