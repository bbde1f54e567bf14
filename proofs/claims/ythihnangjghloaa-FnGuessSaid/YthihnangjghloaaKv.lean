/- Contracts and plain laws: V2 V3 V4a V4b V4c V4 V5 V6 V7 V8 V9 V12 V13 V10 V11. -/
import Derived.Test.YthihnangjghloaaKb
import Derived.Test.YthihnangjghloaaKa
set_option linter.unusedSimpArgs false
set_option linter.unusedVariables false
-- The order of a list of open jobs, in the reference.
namespace Go.Proofs.Ythihnangjghloaa
open Go.RowKit Go.G8

set_option maxHeartbeats 1600000 in
theorem l11Open_c (w : World) (v : Value) (l : List DDue) (h : Ints 2 w v (dues l)) : Calls Try.prog 119 #[v] w (RetV w (.bool (openOk l))) := by
 obtain ⟨a, cap, rfl, hcap, hm, ha⟩ := h.recs (f := DDue.ints) (fun _ => rfl) (by decide)
 have HA := Lib.hid ha
 clear ha
 unfold maxLen at hm
 by_cases h8 : 8 < l.length
 ·
  rw [openOk_false (fun hh => by have := hh.1; omega)]
  go_enter Try.func119, Try.ntmps119
  go_wp2
  go_ret
  exact ⟨rfl, Ext.refl _⟩
 ·
  have h8' : decide ((8 : Int) < (l.length : Int)) = false := by simp; omega
  go_enter Try.func119, Try.ntmps119
  go_wp2
  go_loopw [3] (fun i wr => ∃ k : Nat, k ≤ l.length ∧ i = .int .i64 k ∧ Ext w wr ∧ ∀ i, i < k → OpenAt l i) (fun i _ => l.length - (intOf i).toNat)
  case atStart => exact ⟨0, Nat.zero_le _, rfl, Ext.refl _, fun i hi => by omega⟩
  case round =>
   obtain ⟨k, hk, rfl, he, hok⟩ := hrel
   have HO := Lib.hid hok
   clear hok
   by_cases hlt : k < l.length
   ·
    obtain ⟨d, b1, o1, hd, rfl, hb1, c⟩ := HA.out k hlt
    have d0 := he.cell (c 0 _ (by decide) rfl)
    have d1 := he.cell (c 1 _ (by decide) rfl)
    simp only [Nat.add_zero] at d0
    have HD := Lib.hid hd
    clear c hd
    cases hid : idOk d.Id
    ·
     go_wp2
     refine wp_region_ext (by kernel_rfl) (by kernel_rfl) ?_
     repeat (first | go_big_quiet_skip | (go_big_quiet_want; first | (refine quiet_load _ _ _ ?_ rfl rfl (fun wq hq => ?_) ?_; rotate_left; (focus (have q0 := hq.cell d0; have q1 := hq.cell d1; go_simp; first | done | rfl)); (try simp only [Act.put, List.setIfInBounds_toArray, List.set_cons_zero, List.set_cons_succ]); go_big_quiet_on) | (go_big_quiet_op; first | go_big_quiet_on | (refine ⟨_, fun _ _ => rfl, ?_⟩; go_big_quiet_on) | (apply Exists.intro; refine ⟨fun wq hq => ?_, ?_⟩; (focus (first | exact call_same hq (by have c := l7Id_c wq d.Id; rw [hid] at c; exact c))); go_big_quiet_on))))
     refine wpQuiet_nil ?_
     intro w1 hx1
     go_wp2
     go_ret
     exact ⟨congrArg (fun z => Ending.returned (.bool z)) (openOk_false (fun hh => by have := (hh.2 k hlt d HD.out).1; rw [hid] at this; cases this)).symm, he.trans hx1⟩
    ·
     cases htm : timeOk d.Due
     ·
      go_wp2
      refine wp_region_ext (by kernel_rfl) (by kernel_rfl) ?_
      repeat (first | go_big_quiet_skip | (go_big_quiet_want; first | (refine quiet_load _ _ _ ?_ rfl rfl (fun wq hq => ?_) ?_; rotate_left; (focus (have q0 := hq.cell d0; have q1 := hq.cell d1; go_simp; first | done | rfl)); (try simp only [Act.put, List.setIfInBounds_toArray, List.set_cons_zero, List.set_cons_succ]); go_big_quiet_on) | (go_big_quiet_op; first | go_big_quiet_on | (refine ⟨_, fun _ _ => rfl, ?_⟩; go_big_quiet_on) | (apply Exists.intro; refine ⟨fun wq hq => ?_, ?_⟩; (focus (first | exact call_same hq (by have c := l7Id_c wq d.Id; rw [hid] at c; exact c) | exact call_same hq (by have c := sTimeOk_c wq d.Due; rw [htm] at c; exact c))); go_big_quiet_on))))
      refine wpQuiet_nil ?_
      intro w1 hx1
      go_wp2
      go_ret
      exact ⟨congrArg (fun z => Ending.returned (.bool z)) (openOk_false (fun hh => by have := (hh.2 k hlt d HD.out).2.1; rw [htm] at this; cases this)).symm, he.trans hx1⟩
     ·
      have hnext : (∀ e, 0 < k → l[k - 1]? = some e → dueLess e d = true) → (∀ i e, i < k → l[i]? = some e → e.Id ≠ d.Id) → ∀ i, i < k + 1 → OpenAt l i := by
       intro n1 n2 i hi
       by_cases hik : i = k
       ·
        subst hik
        intro d' hd'
        rw [HD.out] at hd'
        obtain rfl := Option.some.inj hd'
        exact ⟨hid, htm, n1, n2⟩
       ·
        exact HO.out i (by omega)
      have HN := Lib.hid hnext
      clear hnext
      have hdup : ∀ i e, i < k → l[i]? = some e → e.Id = d.Id → openOk l = false := fun i e hi he' hh => openOk_false (fun ho => (ho.2 k hlt d HD.out).2.2.2 i e hi he' hh)
      have HU := Lib.hid hdup
      clear hdup
      by_cases hk0 : k = 0
      ·
       subst hk0
       simp only [Nat.zero_mul, Nat.add_zero] at d0 d1
       go_wp2
       refine wp_region_ext (by kernel_rfl) (by kernel_rfl) ?_
       repeat (first | go_big_quiet_skip | (go_big_quiet_want; first | (refine quiet_load _ _ _ ?_ rfl rfl (fun wq hq => ?_) ?_; rotate_left; (focus (have q0 := hq.cell d0; have q1 := hq.cell d1; go_simp; first | done | rfl)); (try simp only [Act.put, List.setIfInBounds_toArray, List.set_cons_zero, List.set_cons_succ]); go_big_quiet_on) | (go_big_quiet_op; first | go_big_quiet_on | (refine ⟨_, fun _ _ => rfl, ?_⟩; go_big_quiet_on) | (apply Exists.intro; refine ⟨fun wq hq => ?_, ?_⟩; (focus (first | exact call_same hq (by have c := l7Id_c wq d.Id; rw [hid] at c; exact c) | exact call_same hq (by have c := sTimeOk_c wq d.Due; rw [htm] at c; exact c))); go_big_quiet_on))))
       refine wpQuiet_nil ?_
       intro w1 hx1
       go_wp2
       go_loopw [4] (fun i wr' => i = .int .i64 0 ∧ Ext wr wr') (fun _ _ => 0)
       case atStart => exact ⟨rfl, hx1⟩
       case round =>
        obtain ⟨rfl, he'⟩ := hrel
        go_wp2
        go_roundw
        case rel => exact ⟨1, by omega, rfl, he.trans he', HN.out (fun e h => by omega) (fun i e h => by omega)⟩
        case measure => simp [intOf]; omega
      ·
       obtain ⟨e, b2, o2, hde, hbo, _, c⟩ := HA.out (k - 1) (by omega)
       obtain ⟨rfl, rfl⟩ : b1 = b2 ∧ o1 = o2 := by simpa using hbo
       have e0 := he.cell (c 0 _ (by decide) rfl)
       have e1 := he.cell (c 1 _ (by decide) rfl)
       simp only [Nat.add_zero] at e0
       have HE := Lib.hid hde
       clear c hde hbo
       have hk1 : decide (0 < k) = true := by simp; omega
       cases hls : dueLess e d
       ·
        go_wp2
        refine wp_region_ext (by kernel_rfl) (by kernel_rfl) ?_
        repeat (first | go_big_quiet_skip | (go_big_quiet_want; first | (refine quiet_load _ _ _ ?_ rfl rfl (fun wq hq => ?_) ?_; rotate_left; (focus (have q0 := hq.cell d0; have q1 := hq.cell d1; have p0 := hq.cell e0; have p1 := hq.cell e1; go_simp; first | done | rfl)); (try simp only [Act.put, List.setIfInBounds_toArray, List.set_cons_zero, List.set_cons_succ]); go_big_quiet_on) | (go_big_quiet_op; first | go_big_quiet_on | (refine ⟨_, fun _ _ => rfl, ?_⟩; go_big_quiet_on) | (apply Exists.intro; refine ⟨fun wq hq => ?_, ?_⟩; (focus (first | exact call_same hq (by have c := l7Id_c wq d.Id; rw [hid] at c; exact c) | exact call_same hq (by have c := sTimeOk_c wq d.Due; rw [htm] at c; exact c) | exact call_ext hq (by have c := l11DueLess_c wq e d; rw [hls] at c; exact c))); go_big_quiet_on))))
        refine wpQuiet_nil ?_
        intro w1 hx1
        go_wp2
        go_ret
        exact ⟨congrArg (fun z => Ending.returned (.bool z)) (openOk_false (fun hh => by have := (hh.2 k hlt d HD.out).2.2.1 e (by omega) HE.out; rw [hls] at this; cases this)).symm, he.trans hx1⟩
       ·
        go_wp2
        refine wp_region_ext (by kernel_rfl) (by kernel_rfl) ?_
        repeat (first | go_big_quiet_skip | (go_big_quiet_want; first | (refine quiet_load _ _ _ ?_ rfl rfl (fun wq hq => ?_) ?_; rotate_left; (focus (have q0 := hq.cell d0; have q1 := hq.cell d1; have p0 := hq.cell e0; have p1 := hq.cell e1; go_simp; first | done | rfl)); (try simp only [Act.put, List.setIfInBounds_toArray, List.set_cons_zero, List.set_cons_succ]); go_big_quiet_on) | (go_big_quiet_op; first | go_big_quiet_on | (refine ⟨_, fun _ _ => rfl, ?_⟩; go_big_quiet_on) | (apply Exists.intro; refine ⟨fun wq hq => ?_, ?_⟩; (focus (first | exact call_same hq (by have c := l7Id_c wq d.Id; rw [hid] at c; exact c) | exact call_same hq (by have c := sTimeOk_c wq d.Due; rw [htm] at c; exact c) | exact call_ext hq (by have c := l11DueLess_c wq e d; rw [hls] at c; exact c))); go_big_quiet_on))))
        refine wpQuiet_nil ?_
        intro w1 hx1
        go_wp2
        go_loopw [4] (fun i wr' => ∃ m : Nat, m ≤ k ∧ i = .int .i64 m ∧ Ext wr wr' ∧ ∀ i e, i < m → l[i]? = some e → e.Id ≠ d.Id) (fun i _ => k - (intOf i).toNat)
        case atStart => exact ⟨0, by omega, rfl, hx1, fun i e h => by omega⟩
        case round =>
         obtain ⟨m, hm', rfl, he', hno⟩ := hrel
         have HM := Lib.hid hno
         clear hno
         by_cases hmk : m < k
         ·
          obtain ⟨g, b2, o2, hdg, hbo, _, c⟩ := HA.out m (by omega)
          obtain ⟨rfl, rfl⟩ : b1 = b2 ∧ o1 = o2 := by simpa using hbo
          have g0 := (he.trans he').cell (c 0 _ (by decide) rfl)
          have f0 := he'.cell d0
          simp only [Nat.add_zero] at g0
          have HG := Lib.hid hdg
          clear c hdg hbo
          by_cases heq : g.Id = d.Id
          ·
           have hb : (g.Id == d.Id) = true := by simpa using heq
           have HEQ := Lib.hid heq
           clear heq
           go_wp2
           go_quiet (fail)
           go_wp2
           go_ret
           exact ⟨congrArg (fun z => Ending.returned (.bool z)) (HU.out m g hmk HG.out HEQ.out).symm, (he.trans he').drewN _⟩
          ·
           have hb : (g.Id == d.Id) = false := by simpa using heq
           go_wp2
           go_quiet (fail)
           go_wp2
           go_roundw
           case rel => 
            refine ⟨m + 1, by omega, by go_num, he'.drewN _, fun i e' hi hl => ?_⟩
            by_cases him : i = m
            ·
             subst him
             rw [HG.out] at hl
             obtain rfl := Option.some.inj hl
             exact heq
            ·
             exact HM.out i e' (by omega) hl
           case measure => simp [intOf]; omega
         ·
          obtain rfl : m = k := by omega
          go_wp2
          go_roundw
          case rel => exact ⟨m + 1, by omega, by go_num, he.trans he', HN.out (fun e' _ hl => by rw [HE.out] at hl; obtain rfl := Option.some.inj hl; exact hls) HM.out⟩
          case measure => simp [intOf]; omega
   ·
    obtain rfl : k = l.length := by omega
    go_wp2
    go_ret
    exact ⟨congrArg (fun z => Ending.returned (.bool z)) (openOk_true ⟨by omega, HO.out⟩).symm, he⟩
end Go.Proofs.Ythihnangjghloaa

-- Whether a list of open jobs, with its lease, is valid: the reference.
namespace Go.Proofs.Ythihnangjghloaa
open Go.RowKit Go.G8

set_option maxHeartbeats 400000 in
theorem l11Sched_c (w : World) (x : Int) : Calls Try.prog 118 #[.int .i64 x] w fun e w' => e = .returned (.bool (schedOk x)) ∧ w = w' := by
 by_cases h2 : x = 2
 ·
  subst h2
  go_enter Try.func118, Try.ntmps118
  go_wp2
  go_ret
  exact ⟨rfl, rfl⟩
 ·
  have e2 : (x == 2) = false := by simpa using h2
  by_cases h3 : x = 3
  ·
   subst h3
   go_enter Try.func118, Try.ntmps118
   go_wp2
   go_ret
   exact ⟨rfl, rfl⟩
  ·
   have e3 : (x == 3) = false := by simpa using h3
   go_enter Try.func118, Try.ntmps118
   go_wp2
   go_ret
   exact ⟨by simp [schedOk, e2, e3], rfl⟩
set_option maxHeartbeats 400000 in
theorem schedOk_c (w : World) (x : Int) : Calls Try.prog 80 #[.int .i64 x] w fun e w' => e = .returned (.bool (schedOk x)) ∧ w = w' := by
 by_cases h2 : x = 2
 ·
  subst h2
  go_enter Try.func80, Try.ntmps80
  go_wp2
  go_ret
  exact ⟨rfl, rfl⟩
 ·
  have e2 : (x == 2) = false := by simpa using h2
  by_cases h3 : x = 3
  ·
   subst h3
   go_enter Try.func80, Try.ntmps80
   go_wp2
   go_ret
   exact ⟨rfl, rfl⟩
  ·
   have e3 : (x == 3) = false := by simpa using h3
   go_enter Try.func80, Try.ntmps80
   go_wp2
   go_ret
   exact ⟨by simp [schedOk, e2, e3], rfl⟩

set_option maxHeartbeats 1600000 in
theorem sJobsOk2_c (w : World) (j : DJobs) (s : Value) (h : Ints 2 w s (dues j.Open)) : Calls Try.prog 77 #[.agg #[.int .i64 j.Index, .int .i64 j.Time, .int .i64 j.Holder, .int .i64 j.Epoch, .int .i64 j.Until, s]] w (RetV w (.bool (jobsOk2 j))) := by
 obtain ⟨a, n, c, rfl⟩ := h.shape
 by_cases hH : j.Holder = 0
 ·
  have hH' : (j.Holder == 0) = true := by simpa using hH
  clear hH
  go_enter Try.func77, Try.ntmps77
  go_wp2_with (first | (go_at_call 96; refine (l1In_c _ _ _ _).mono ?_; rintro e w1 ⟨rfl, rfl⟩) | (go_at_call 117; refine (sTimeOk_c _ _).mono ?_; rintro e w1 ⟨rfl, rfl⟩) | (go_at_call 118; refine (l11Sched_c _ _).mono ?_; rintro e w1 ⟨rfl, rfl⟩) | (go_at_call 119; refine (l11Open_c _ _ _ (h.ext (by (first | exact extT | omega)))).mono ?_; rintro e w1 ⟨rfl, hx1⟩))
  all_goals
   go_ret
   refine ⟨congrArg (fun z => Ending.returned (.bool z)) ?_, ?_⟩
   ·
    simp [jobsOk2, *]
   ·
    (first | exact extT | omega)
 ·
  have hH' : (j.Holder == 0) = false := by simpa using hH
  clear hH
  go_enter Try.func77, Try.ntmps77
  go_wp2_with (first | (go_at_call 96; refine (l1In_c _ _ _ _).mono ?_; rintro e w1 ⟨rfl, rfl⟩) | (go_at_call 117; refine (sTimeOk_c _ _).mono ?_; rintro e w1 ⟨rfl, rfl⟩) | (go_at_call 118; refine (l11Sched_c _ _).mono ?_; rintro e w1 ⟨rfl, rfl⟩) | (go_at_call 119; refine (l11Open_c _ _ _ (h.ext (by (first | exact extT | omega)))).mono ?_; rintro e w1 ⟨rfl, hx1⟩))
  all_goals
   go_ret
   refine ⟨congrArg (fun z => Ending.returned (.bool z)) ?_, ?_⟩
   ·
    simp [jobsOk2, *]
   ·
    (first | exact extT | omega)
end Go.Proofs.Ythihnangjghloaa

-- Whether a list of open jobs, with its lease, is valid: the program, where the head fails.
namespace Go.Proofs.Ythihnangjghloaa
open Go.RowKit Go.G8

theorem zb (w : World) : (zeroValue 4).run Try.prog w = .ok (.bool false) w := by kernel_rfl

set_option maxHeartbeats 3200000 in
theorem jobsOk2_bad (w : World) (j : DJobs) (s : Value) (h : Ints 2 w s (dues j.Open)) (hbad : ¬ (inb j.Index 0 2000 = true ∧ timeOk j.Time = true ∧ (j.Holder == 0 || schedOk j.Holder) = true ∧ inb j.Epoch 0 1000 = true ∧ inb j.Until 0 1001000 = true ∧ j.Open.length ≤ 8)) : Calls Try.prog 44 #[.agg #[.int .i64 j.Index, .int .i64 j.Time, .int .i64 j.Holder, .int .i64 j.Epoch, .int .i64 j.Until, s]] w (RetV w (.bool (jobsOk2 j))) := by
 obtain ⟨a, cap, rfl, hcap, hm, ha⟩ := h.recs (f := DDue.ints) (fun _ => rfl) (by decide)
 have HA := Lib.hid ha
 clear ha
 unfold maxLen at hm
 have hmm := @run_makeMap Try.prog
 have hb0 : jobsOk2 j = false := by
  have e8 : ¬ j.Open.length ≤ 8 → openOk j.Open = false := fun hn => openOk_false (fun hh => hn hh.1)
  cases h1 : inb j.Index 0 2000 <;> cases h2 : timeOk j.Time <;> cases h3 : (j.Holder == 0 || schedOk j.Holder) <;> cases h4 : inb j.Epoch 0 1000 <;> cases h5 : inb j.Until 0 1001000 <;> simp only [jobsOk2, h1, h2, h3, h4, h5, Bool.false_and, Bool.and_false, Bool.true_and]
  exact e8 (fun h8 => hbad ⟨h1, h2, h3, h4, h5, h8⟩)
 rw [hb0]
 have HBD := Lib.hid hbad
 clear hb0 hbad
 by_cases hH : j.Holder = 0
 ·
  have hH' : (j.Holder == 0) = true := by simpa using hH
  have hH2 : (j.Holder != 0) = false := by simpa using hH
  clear hH
  go_enter Try.func44, Try.ntmps44
  go_wp2_with (first | (go_at_call 92; refine (between_c _ _ _ _).mono ?_; rintro e w1 ⟨rfl, rfl⟩) | (go_at_call 78; refine (timeOk_c _ _).mono ?_; rintro e w1 ⟨rfl, rfl⟩) | (go_at_call 80; refine (schedOk_c _ _).mono ?_; rintro e w1 ⟨rfl, rfl⟩))
  all_goals try (go_ret; refine ⟨rfl, ?_⟩; ((first | exact extT | omega)); done)
  exfalso
  refine HBD.out ⟨?_, ?_, ?_, ?_, ?_, ?_⟩
  all_goals first | assumption | omega | (rw [Bool.or_eq_true]; first | exact .inl hH' | exact .inr (by simpa using ‹(!schedOk j.Holder) = false›))
 ·
  have hH' : (j.Holder == 0) = false := by simpa using hH
  have hH2 : (j.Holder != 0) = true := by simpa using hH
  clear hH
  go_enter Try.func44, Try.ntmps44
  go_wp2_with (first | (go_at_call 92; refine (between_c _ _ _ _).mono ?_; rintro e w1 ⟨rfl, rfl⟩) | (go_at_call 78; refine (timeOk_c _ _).mono ?_; rintro e w1 ⟨rfl, rfl⟩) | (go_at_call 80; refine (schedOk_c _ _).mono ?_; rintro e w1 ⟨rfl, rfl⟩))
  all_goals try (go_ret; refine ⟨rfl, ?_⟩; ((first | exact extT | omega)); done)
  exfalso
  refine HBD.out ⟨?_, ?_, ?_, ?_, ?_, ?_⟩
  all_goals first | assumption | omega | (rw [Bool.or_eq_true]; first | exact .inl hH' | exact .inr (by simpa using ‹(!schedOk j.Holder) = false›))
end Go.Proofs.Ythihnangjghloaa

-- .. where the lease is free.
namespace Go.Proofs.Ythihnangjghloaa
open Go.RowKit Go.G8

set_option maxHeartbeats 3200000 in
set_option maxRecDepth 100000 in
theorem jobsOk2_free (w : World) (j : DJobs) (s : Value) (h : Ints 2 w s (dues j.Open)) (h1 : inb j.Index 0 2000 = true) (h2 : timeOk j.Time = true) (h3 : (j.Holder == 0) = true) (h4 : inb j.Epoch 0 1000 = true) (h5 : inb j.Until 0 1001000 = true) (h8 : j.Open.length ≤ 8) : Calls Try.prog 44 #[.agg #[.int .i64 j.Index, .int .i64 j.Time, .int .i64 j.Holder, .int .i64 j.Epoch, .int .i64 j.Until, s]] w (RetV w (.bool (jobsOk2 j))) := by
 obtain ⟨a, cap, rfl, hcap, hm, ha⟩ := h.recs (f := DDue.ints) (fun _ => rfl) (by decide)
 have HA := Lib.hid ha
 clear ha
 unfold maxLen at hm
 have hmm := @run_makeMap Try.prog
 have hb0 : jobsOk2 j = openOk j.Open := by simp [jobsOk2, *]
 have HB0 := Lib.hid hb0
 clear hb0
 have h8' : decide ((8 : Int) < (j.Open.length : Int)) = false := by simp; omega
 have h3' : (j.Holder != 0) = false := by simpa using h3
 ·
  go_enter Try.func44, Try.ntmps44
  go_wp2_with (first | (go_at_call 92; refine (between_c _ _ _ _).mono ?_; rintro e w1 ⟨rfl, rfl⟩) | (go_at_call 78; refine (timeOk_c _ _).mono ?_; rintro e w1 ⟨rfl, rfl⟩) | (go_at_call 80; refine (schedOk_c _ _).mono ?_; rintro e w1 ⟨rfl, rfl⟩))
  clear hmm
  ·
   skip
   go_loopw [47] (fun i wr => ∃ k : Nat, k ≤ j.Open.length ∧ i = .int .i64 k ∧ Ext w wr ∧ wr.cell? ⟨w.heap.size, 5, none⟩ = some (.slice a j.Open.length cap) ∧ (∃ S, BSet Try.prog 2 4 wr (w.heap.size + 1) k S ∧ (∀ i, i < k → OpenAt j.Open i) ∧ (∀ x, x ∈ S ↔ ∃ i e, i < k ∧ j.Open[i]? = some e ∧ e.Id = x))) (fun i _ => j.Open.length - (intOf i).toNat)
   case atStart => exact ⟨0, Nat.zero_le _, rfl, ((Ext.refl _).alloc _).alloc _, by simp, [], by simpa using BSet.made Try.prog 2 4 (w.alloc _), fun i hi => by omega, fun x => by simp⟩
   case round =>
    obtain ⟨k, hk, rfl, he, jb, S, hset, hok, hS⟩ := hrel
    have HO := Lib.hid hok
    have HM := Lib.hid hS
    clear hok hS
    have hsz := he.size
    by_cases hlt : k < j.Open.length
    ·
     obtain ⟨d, b1, o1, hd, rfl, hb1, c⟩ := HA.out k hlt
     have d0 := he.cell (c 0 _ (by decide) rfl)
     have d1 := he.cell (c 1 _ (by decide) rfl)
     simp only [Nat.add_zero] at d0
     have HD := Lib.hid hd
     clear c hd
     go_wp2
     obtain ⟨W, hW⟩ : ∃ W, W = wr.alloc (.cells #[.int .i64 d.Id, .int .i64 d.Due] 132) := ⟨_, rfl⟩
     have x0 : W.cell? ⟨wr.heap.size, 0, none⟩ = some (.int .i64 d.Id) := by rw [hW]; simp
     have x1 : W.cell? ⟨wr.heap.size, 1, none⟩ = some (.int .i64 d.Due) := by rw [hW]; simp
     have jb' : W.cell? ⟨w.heap.size, 5, none⟩ = some (.slice (some ⟨b1, o1, none⟩) j.Open.length cap) := by rw [hW]; exact ((Ext.refl wr).alloc _).cell jb
     have hset' : BSet Try.prog 2 4 W (w.heap.size + 1) k S := by rw [hW]; exact hset.ext ((Ext.refl wr).alloc _)
     have heW : Ext w W := by rw [hW]; exact he.alloc _
     have heR : Ext wr W := by rw [hW]; exact (Ext.refl wr).alloc _
     rw [← hW]
     clear hW
     cases hid : idOk d.Id
     ·
      refine wp_region_ext (by kernel_rfl) (by kernel_rfl) ?_
      repeat (first | go_big_quiet_skip | (go_big_quiet_want; first | (refine quiet_load _ _ _ ?_ rfl rfl (fun wq hq => ?_) ?_; rotate_left; (focus (have q0 := hq.cell x0; have q1 := hq.cell x1; go_simp; first | done | rfl)); (try simp only [Act.put, List.setIfInBounds_toArray, List.set_cons_zero, List.set_cons_succ]); go_big_quiet_on) | (refine quiet_lookup _ _ _ _ _ ?_ rfl rfl rfl (fun wq hq => ?_) ?_; rotate_left; (focus (fail)); (try simp only [Act.put, List.setIfInBounds_toArray, List.set_cons_zero, List.set_cons_succ]); go_big_quiet_on) | (go_big_quiet_op; first | go_big_quiet_on | (refine ⟨_, fun _ _ => rfl, ?_⟩; go_big_quiet_on) | (apply Exists.intro; refine ⟨fun wq hq => ?_, ?_⟩; (focus (first | exact call_same hq (by have c := idOk_c wq d.Id; rw [hid] at c; exact c))); go_big_quiet_on))))
      refine wpQuiet_nil ?_
      intro w1 hx1
      go_wp2
      go_ret
      exact ⟨congrArg (fun z => Ending.returned (.bool z)) (HB0.out.trans (openOk_false (fun hh => by have := (hh.2 k hlt d HD.out).1; rw [hid] at this; cases this))).symm, heW.trans hx1⟩
     ·
      have hw : (Lit.int .i64 d.Id).wf = true := by
       have := inb_true.1 hid
       exact WalkArith.wf_i64 (by omega)
      cases htm : timeOk d.Due
      ·
       refine wp_region_ext (by kernel_rfl) (by kernel_rfl) ?_
       repeat (first | go_big_quiet_skip | (go_big_quiet_want; first | (refine quiet_load _ _ _ ?_ rfl rfl (fun wq hq => ?_) ?_; rotate_left; (focus (have q0 := hq.cell x0; have q1 := hq.cell x1; go_simp; first | done | rfl)); (try simp only [Act.put, List.setIfInBounds_toArray, List.set_cons_zero, List.set_cons_succ]); go_big_quiet_on) | (refine quiet_lookup _ _ _ _ _ ?_ rfl rfl rfl (fun wq hq => ?_) ?_; rotate_left; (focus (fail)); (try simp only [Act.put, List.setIfInBounds_toArray, List.set_cons_zero, List.set_cons_succ]); go_big_quiet_on) | (go_big_quiet_op; first | go_big_quiet_on | (refine ⟨_, fun _ _ => rfl, ?_⟩; go_big_quiet_on) | (apply Exists.intro; refine ⟨fun wq hq => ?_, ?_⟩; (focus (first | exact call_same hq (by have c := idOk_c wq d.Id; rw [hid] at c; exact c) | exact call_same hq (by have c := timeOk_c wq d.Due; rw [htm] at c; exact c))); go_big_quiet_on))))
       refine wpQuiet_nil ?_
       intro w1 hx1
       go_wp2
       go_ret
       exact ⟨congrArg (fun z => Ending.returned (.bool z)) (HB0.out.trans (openOk_false (fun hh => by have := (hh.2 k hlt d HD.out).2.1; rw [htm] at this; cases this))).symm, heW.trans hx1⟩
      ·
       by_cases hmem : d.Id ∈ S
       ·
        have hnu : decide (d.Id ∈ S) = true := by simpa using hmem
        have HMM := Lib.hid hmem
        clear hmem
        refine wp_region_ext (by kernel_rfl) (by kernel_rfl) ?_
        repeat (first | go_big_quiet_skip | (go_big_quiet_want; first | (refine quiet_load _ _ _ ?_ rfl rfl (fun wq hq => ?_) ?_; rotate_left; (focus (have q0 := hq.cell x0; have q1 := hq.cell x1; go_simp; first | done | rfl)); (try simp only [Act.put, List.setIfInBounds_toArray, List.set_cons_zero, List.set_cons_succ]); go_big_quiet_on) | (refine quiet_lookup _ _ _ _ _ ?_ rfl rfl rfl (fun wq hq => ?_) ?_; rotate_left; (focus (exact (by have c := (hset'.ext hq).look (t := 151) Try.underlying2 Try.underlying151 Try.underlying4 (zb _) hw; rw [hnu] at c; exact c))); (try simp only [Act.put, List.setIfInBounds_toArray, List.set_cons_zero, List.set_cons_succ]); go_big_quiet_on) | (go_big_quiet_op; first | go_big_quiet_on | (refine ⟨_, fun _ _ => rfl, ?_⟩; go_big_quiet_on) | (apply Exists.intro; refine ⟨fun wq hq => ?_, ?_⟩; (focus (first | exact call_same hq (by have c := idOk_c wq d.Id; rw [hid] at c; exact c) | exact call_same hq (by have c := timeOk_c wq d.Due; rw [htm] at c; exact c))); go_big_quiet_on))))
        refine wpQuiet_nil ?_
        intro w1 hx1
        go_wp2
        go_ret
        exact ⟨congrArg (fun z => Ending.returned (.bool z)) (HB0.out.trans (openOk_false (fun hh => by obtain ⟨i, e, hi, he', hid'⟩ := (HM.out d.Id).1 HMM.out; exact (hh.2 k hlt d HD.out).2.2.2 i e hi he' hid'))).symm, heW.trans hx1⟩
       ·
        have hnu : decide (d.Id ∈ S) = false := by simpa using hmem
        have hnd : ∀ i e, i < k → j.Open[i]? = some e → e.Id ≠ d.Id := fun i e hi he' hid' => hmem ((HM.out d.Id).2 ⟨i, e, hi, he', hid'⟩)
        have HND := Lib.hid hnd
        clear hmem hnd
        have hnext : (∀ e, 0 < k → j.Open[k - 1]? = some e → dueLess e d = true) → ∀ i, i < k + 1 → OpenAt j.Open i := by
         intro n1 i hi
         by_cases hik : i = k
         ·
          subst hik
          intro d' hd'
          rw [HD.out] at hd'
          obtain rfl := Option.some.inj hd'
          exact ⟨hid, htm, n1, HND.out⟩
         ·
          exact HO.out i (by omega)
        have HN := Lib.hid hnext
        clear hnext
        have hs2 : ∀ x, x ∈ d.Id :: S ↔ ∃ i e, i < k + 1 ∧ j.Open[i]? = some e ∧ e.Id = x := by
         intro x
         rw [List.mem_cons, HM.out x]
         constructor
         ·
          rintro (rfl | ⟨i, e, hi, h1, h2⟩)
          ·
           exact ⟨k, d, by omega, HD.out, rfl⟩
          ·
           exact ⟨i, e, by omega, h1, h2⟩
         ·
          rintro ⟨i, e, hi, h1, h2⟩
          by_cases hik : i = k
          ·
           subst hik
           rw [HD.out] at h1
           obtain rfl := Option.some.inj h1
           exact .inl h2.symm
          ·
           exact .inr ⟨i, e, by omega, h1, h2⟩
        have HS := Lib.hid hs2
        clear hs2
        by_cases hk0 : k = 0
        ·
         subst hk0
         refine wp_region_ext (by kernel_rfl) (by kernel_rfl) ?_
         repeat (first | go_big_quiet_skip | (go_big_quiet_want; first | (refine quiet_load _ _ _ ?_ rfl rfl (fun wq hq => ?_) ?_; rotate_left; (focus (have q0 := hq.cell x0; have q1 := hq.cell x1; go_simp; first | done | rfl)); (try simp only [Act.put, List.setIfInBounds_toArray, List.set_cons_zero, List.set_cons_succ]); go_big_quiet_on) | (refine quiet_lookup _ _ _ _ _ ?_ rfl rfl rfl (fun wq hq => ?_) ?_; rotate_left; (focus (exact (by have c := (hset'.ext hq).look (t := 151) Try.underlying2 Try.underlying151 Try.underlying4 (zb _) hw; rw [hnu] at c; exact c))); (try simp only [Act.put, List.setIfInBounds_toArray, List.set_cons_zero, List.set_cons_succ]); go_big_quiet_on) | (go_big_quiet_op; first | go_big_quiet_on | (refine ⟨_, fun _ _ => rfl, ?_⟩; go_big_quiet_on) | (apply Exists.intro; refine ⟨fun wq hq => ?_, ?_⟩; (focus (first | exact call_same hq (by have c := idOk_c wq d.Id; rw [hid] at c; exact c) | exact call_same hq (by have c := timeOk_c wq d.Due; rw [htm] at c; exact c))); go_big_quiet_on))))
         refine wpQuiet_nil ?_
         intro w1 hx1
         have x0' := hx1.cell x0
         go_wp2_with (at_mapUpdate; refine wpList_put rfl _ _ _ 151 rfl 2 4 Try.underlying2 Try.underlying151 Try.underlying4 _ _ _ _ rfl rfl rfl (hset'.ext hx1) (by unfold maxLen; omega) hw ?_; intro w2 hset2 hgr2)
         have hx2 := (heW.trans hx1).grownOwn hgr2 (by omega)
         go_roundw
         case rel => exact ⟨0 + 1, by omega, by go_num, hx2, hgr2.cell (hx1.cell jb') (by first | (simp; done) | (simp; omega)), _, hset2, HN.out (fun e h => by omega), HS.out⟩
         case measure => simp [intOf]; omega
        ·
         obtain ⟨e, b2, o2, hde, hbo, _, c⟩ := HA.out (k - 1) (by omega)
         obtain ⟨rfl, rfl⟩ : b1 = b2 ∧ o1 = o2 := by simpa using hbo
         have e0' := heW.cell (c 0 _ (by decide) rfl)
         have e1' := heW.cell (c 1 _ (by decide) rfl)
         simp only [Nat.add_zero] at e0'
         have HE := Lib.hid hde
         clear c hde hbo
         have hk1 : decide (0 < k) = true := by simp; omega
         cases hls : dueLess e d
         ·
          refine wp_region_ext (by kernel_rfl) (by kernel_rfl) ?_
          repeat (first | go_big_quiet_skip | (go_big_quiet_want; first | (refine quiet_load _ _ _ ?_ rfl rfl (fun wq hq => ?_) ?_; rotate_left; (focus (have q0 := hq.cell x0; have q1 := hq.cell x1; have q2 := hq.cell jb'; have p0 := hq.cell e0'; have p1 := hq.cell e1'; go_simp; first | done | rfl)); (try simp only [Act.put, List.setIfInBounds_toArray, List.set_cons_zero, List.set_cons_succ]); go_big_quiet_on) | (refine quiet_lookup _ _ _ _ _ ?_ rfl rfl rfl (fun wq hq => ?_) ?_; rotate_left; (focus (exact (by have c := (hset'.ext hq).look (t := 151) Try.underlying2 Try.underlying151 Try.underlying4 (zb _) hw; rw [hnu] at c; exact c))); (try simp only [Act.put, List.setIfInBounds_toArray, List.set_cons_zero, List.set_cons_succ]); go_big_quiet_on) | (go_big_quiet_op; first | go_big_quiet_on | (refine ⟨_, fun _ _ => rfl, ?_⟩; go_big_quiet_on) | (apply Exists.intro; refine ⟨fun wq hq => ?_, ?_⟩; (focus (first | exact call_same hq (by have c := idOk_c wq d.Id; rw [hid] at c; exact c) | exact call_same hq (by have c := timeOk_c wq d.Due; rw [htm] at c; exact c) | exact call_ext hq (by have c := dueLess_c wq e d; rw [hls] at c; exact c))); go_big_quiet_on))))
          refine wpQuiet_nil ?_
          intro w1 hx1
          go_wp2
          go_ret
          exact ⟨congrArg (fun z => Ending.returned (.bool z)) (HB0.out.trans (openOk_false (fun hh => by have := (hh.2 k hlt d HD.out).2.2.1 e (by omega) HE.out; rw [hls] at this; cases this))).symm, heW.trans hx1⟩
         ·
          refine wp_region_ext (by kernel_rfl) (by kernel_rfl) ?_
          repeat (first | go_big_quiet_skip | (go_big_quiet_want; first | (refine quiet_load _ _ _ ?_ rfl rfl (fun wq hq => ?_) ?_; rotate_left; (focus (have q0 := hq.cell x0; have q1 := hq.cell x1; have q2 := hq.cell jb'; have p0 := hq.cell e0'; have p1 := hq.cell e1'; go_simp; first | done | rfl)); (try simp only [Act.put, List.setIfInBounds_toArray, List.set_cons_zero, List.set_cons_succ]); go_big_quiet_on) | (refine quiet_lookup _ _ _ _ _ ?_ rfl rfl rfl (fun wq hq => ?_) ?_; rotate_left; (focus (exact (by have c := (hset'.ext hq).look (t := 151) Try.underlying2 Try.underlying151 Try.underlying4 (zb _) hw; rw [hnu] at c; exact c))); (try simp only [Act.put, List.setIfInBounds_toArray, List.set_cons_zero, List.set_cons_succ]); go_big_quiet_on) | (go_big_quiet_op; first | go_big_quiet_on | (refine ⟨_, fun _ _ => rfl, ?_⟩; go_big_quiet_on) | (apply Exists.intro; refine ⟨fun wq hq => ?_, ?_⟩; (focus (first | exact call_same hq (by have c := idOk_c wq d.Id; rw [hid] at c; exact c) | exact call_same hq (by have c := timeOk_c wq d.Due; rw [htm] at c; exact c) | exact call_ext hq (by have c := dueLess_c wq e d; rw [hls] at c; exact c))); go_big_quiet_on))))
          refine wpQuiet_nil ?_
          intro w1 hx1
          have x0' := hx1.cell x0
          go_wp2_with (at_mapUpdate; refine wpList_put rfl _ _ _ 151 rfl 2 4 Try.underlying2 Try.underlying151 Try.underlying4 _ _ _ _ rfl rfl rfl (hset'.ext hx1) (by unfold maxLen; omega) hw ?_; intro w2 hset2 hgr2)
          have hx2 := (heW.trans hx1).grownOwn hgr2 (by omega)
          go_roundw
          case rel => exact ⟨k + 1, by omega, by go_num, hx2, hgr2.cell (hx1.cell jb') (by first | (simp; done) | (simp; omega)), _, hset2, HN.out (fun e' _ hl => by rw [HE.out] at hl; obtain rfl := Option.some.inj hl; exact hls), HS.out⟩
          case measure => simp [intOf]; omega
    ·
     obtain rfl : k = j.Open.length := by omega
     go_wp2
     go_ret
     exact ⟨congrArg (fun z => Ending.returned (.bool z)) (HB0.out.trans (openOk_true ⟨by omega, HO.out⟩)).symm, he⟩

end Go.Proofs.Ythihnangjghloaa

-- .. where the lease is held.
namespace Go.Proofs.Ythihnangjghloaa
open Go.RowKit Go.G8

set_option maxHeartbeats 3200000 in
set_option maxRecDepth 100000 in
theorem jobsOk2_held (w : World) (j : DJobs) (s : Value) (h : Ints 2 w s (dues j.Open)) (h1 : inb j.Index 0 2000 = true) (h2 : timeOk j.Time = true) (h3 : (j.Holder == 0) = false) (h6 : schedOk j.Holder = true) (h4 : inb j.Epoch 0 1000 = true) (h5 : inb j.Until 0 1001000 = true) (h8 : j.Open.length ≤ 8) : Calls Try.prog 44 #[.agg #[.int .i64 j.Index, .int .i64 j.Time, .int .i64 j.Holder, .int .i64 j.Epoch, .int .i64 j.Until, s]] w (RetV w (.bool (jobsOk2 j))) := by
 obtain ⟨a, cap, rfl, hcap, hm, ha⟩ := h.recs (f := DDue.ints) (fun _ => rfl) (by decide)
 have HA := Lib.hid ha
 clear ha
 unfold maxLen at hm
 have hmm := @run_makeMap Try.prog
 have hb0 : jobsOk2 j = openOk j.Open := by simp [jobsOk2, *]
 have HB0 := Lib.hid hb0
 clear hb0
 have h8' : decide ((8 : Int) < (j.Open.length : Int)) = false := by simp; omega
 have h3' : (j.Holder != 0) = true := by simpa using h3
 ·
  go_enter Try.func44, Try.ntmps44
  go_wp2_with (first | (go_at_call 92; refine (between_c _ _ _ _).mono ?_; rintro e w1 ⟨rfl, rfl⟩) | (go_at_call 78; refine (timeOk_c _ _).mono ?_; rintro e w1 ⟨rfl, rfl⟩) | (go_at_call 80; refine (schedOk_c _ _).mono ?_; rintro e w1 ⟨rfl, rfl⟩))
  clear hmm
  ·
   skip
   go_loopw [47] (fun i wr => ∃ k : Nat, k ≤ j.Open.length ∧ i = .int .i64 k ∧ Ext w wr ∧ wr.cell? ⟨w.heap.size, 5, none⟩ = some (.slice a j.Open.length cap) ∧ (∃ S, BSet Try.prog 2 4 wr (w.heap.size + 1) k S ∧ (∀ i, i < k → OpenAt j.Open i) ∧ (∀ x, x ∈ S ↔ ∃ i e, i < k ∧ j.Open[i]? = some e ∧ e.Id = x))) (fun i _ => j.Open.length - (intOf i).toNat)
   case atStart => exact ⟨0, Nat.zero_le _, rfl, ((Ext.refl _).alloc _).alloc _, by simp, [], by simpa using BSet.made Try.prog 2 4 (w.alloc _), fun i hi => by omega, fun x => by simp⟩
   case round =>
    obtain ⟨k, hk, rfl, he, jb, S, hset, hok, hS⟩ := hrel
    have HO := Lib.hid hok
    have HM := Lib.hid hS
    clear hok hS
    have hsz := he.size
    by_cases hlt : k < j.Open.length
    ·
     obtain ⟨d, b1, o1, hd, rfl, hb1, c⟩ := HA.out k hlt
     have d0 := he.cell (c 0 _ (by decide) rfl)
     have d1 := he.cell (c 1 _ (by decide) rfl)
     simp only [Nat.add_zero] at d0
     have HD := Lib.hid hd
     clear c hd
     go_wp2
     obtain ⟨W, hW⟩ : ∃ W, W = wr.alloc (.cells #[.int .i64 d.Id, .int .i64 d.Due] 132) := ⟨_, rfl⟩
     have x0 : W.cell? ⟨wr.heap.size, 0, none⟩ = some (.int .i64 d.Id) := by rw [hW]; simp
     have x1 : W.cell? ⟨wr.heap.size, 1, none⟩ = some (.int .i64 d.Due) := by rw [hW]; simp
     have jb' : W.cell? ⟨w.heap.size, 5, none⟩ = some (.slice (some ⟨b1, o1, none⟩) j.Open.length cap) := by rw [hW]; exact ((Ext.refl wr).alloc _).cell jb
     have hset' : BSet Try.prog 2 4 W (w.heap.size + 1) k S := by rw [hW]; exact hset.ext ((Ext.refl wr).alloc _)
     have heW : Ext w W := by rw [hW]; exact he.alloc _
     have heR : Ext wr W := by rw [hW]; exact (Ext.refl wr).alloc _
     rw [← hW]
     clear hW
     cases hid : idOk d.Id
     ·
      refine wp_region_ext (by kernel_rfl) (by kernel_rfl) ?_
      repeat (first | go_big_quiet_skip | (go_big_quiet_want; first | (refine quiet_load _ _ _ ?_ rfl rfl (fun wq hq => ?_) ?_; rotate_left; (focus (have q0 := hq.cell x0; have q1 := hq.cell x1; go_simp; first | done | rfl)); (try simp only [Act.put, List.setIfInBounds_toArray, List.set_cons_zero, List.set_cons_succ]); go_big_quiet_on) | (refine quiet_lookup _ _ _ _ _ ?_ rfl rfl rfl (fun wq hq => ?_) ?_; rotate_left; (focus (fail)); (try simp only [Act.put, List.setIfInBounds_toArray, List.set_cons_zero, List.set_cons_succ]); go_big_quiet_on) | (go_big_quiet_op; first | go_big_quiet_on | (refine ⟨_, fun _ _ => rfl, ?_⟩; go_big_quiet_on) | (apply Exists.intro; refine ⟨fun wq hq => ?_, ?_⟩; (focus (first | exact call_same hq (by have c := idOk_c wq d.Id; rw [hid] at c; exact c))); go_big_quiet_on))))
      refine wpQuiet_nil ?_
      intro w1 hx1
      go_wp2
      go_ret
      exact ⟨congrArg (fun z => Ending.returned (.bool z)) (HB0.out.trans (openOk_false (fun hh => by have := (hh.2 k hlt d HD.out).1; rw [hid] at this; cases this))).symm, heW.trans hx1⟩
     ·
      have hw : (Lit.int .i64 d.Id).wf = true := by
       have := inb_true.1 hid
       exact WalkArith.wf_i64 (by omega)
      cases htm : timeOk d.Due
      ·
       refine wp_region_ext (by kernel_rfl) (by kernel_rfl) ?_
       repeat (first | go_big_quiet_skip | (go_big_quiet_want; first | (refine quiet_load _ _ _ ?_ rfl rfl (fun wq hq => ?_) ?_; rotate_left; (focus (have q0 := hq.cell x0; have q1 := hq.cell x1; go_simp; first | done | rfl)); (try simp only [Act.put, List.setIfInBounds_toArray, List.set_cons_zero, List.set_cons_succ]); go_big_quiet_on) | (refine quiet_lookup _ _ _ _ _ ?_ rfl rfl rfl (fun wq hq => ?_) ?_; rotate_left; (focus (fail)); (try simp only [Act.put, List.setIfInBounds_toArray, List.set_cons_zero, List.set_cons_succ]); go_big_quiet_on) | (go_big_quiet_op; first | go_big_quiet_on | (refine ⟨_, fun _ _ => rfl, ?_⟩; go_big_quiet_on) | (apply Exists.intro; refine ⟨fun wq hq => ?_, ?_⟩; (focus (first | exact call_same hq (by have c := idOk_c wq d.Id; rw [hid] at c; exact c) | exact call_same hq (by have c := timeOk_c wq d.Due; rw [htm] at c; exact c))); go_big_quiet_on))))
       refine wpQuiet_nil ?_
       intro w1 hx1
       go_wp2
       go_ret
       exact ⟨congrArg (fun z => Ending.returned (.bool z)) (HB0.out.trans (openOk_false (fun hh => by have := (hh.2 k hlt d HD.out).2.1; rw [htm] at this; cases this))).symm, heW.trans hx1⟩
      ·
       by_cases hmem : d.Id ∈ S
       ·
        have hnu : decide (d.Id ∈ S) = true := by simpa using hmem
        have HMM := Lib.hid hmem
        clear hmem
        refine wp_region_ext (by kernel_rfl) (by kernel_rfl) ?_
        repeat (first | go_big_quiet_skip | (go_big_quiet_want; first | (refine quiet_load _ _ _ ?_ rfl rfl (fun wq hq => ?_) ?_; rotate_left; (focus (have q0 := hq.cell x0; have q1 := hq.cell x1; go_simp; first | done | rfl)); (try simp only [Act.put, List.setIfInBounds_toArray, List.set_cons_zero, List.set_cons_succ]); go_big_quiet_on) | (refine quiet_lookup _ _ _ _ _ ?_ rfl rfl rfl (fun wq hq => ?_) ?_; rotate_left; (focus (exact (by have c := (hset'.ext hq).look (t := 151) Try.underlying2 Try.underlying151 Try.underlying4 (zb _) hw; rw [hnu] at c; exact c))); (try simp only [Act.put, List.setIfInBounds_toArray, List.set_cons_zero, List.set_cons_succ]); go_big_quiet_on) | (go_big_quiet_op; first | go_big_quiet_on | (refine ⟨_, fun _ _ => rfl, ?_⟩; go_big_quiet_on) | (apply Exists.intro; refine ⟨fun wq hq => ?_, ?_⟩; (focus (first | exact call_same hq (by have c := idOk_c wq d.Id; rw [hid] at c; exact c) | exact call_same hq (by have c := timeOk_c wq d.Due; rw [htm] at c; exact c))); go_big_quiet_on))))
        refine wpQuiet_nil ?_
        intro w1 hx1
        go_wp2
        go_ret
        exact ⟨congrArg (fun z => Ending.returned (.bool z)) (HB0.out.trans (openOk_false (fun hh => by obtain ⟨i, e, hi, he', hid'⟩ := (HM.out d.Id).1 HMM.out; exact (hh.2 k hlt d HD.out).2.2.2 i e hi he' hid'))).symm, heW.trans hx1⟩
       ·
        have hnu : decide (d.Id ∈ S) = false := by simpa using hmem
        have hnd : ∀ i e, i < k → j.Open[i]? = some e → e.Id ≠ d.Id := fun i e hi he' hid' => hmem ((HM.out d.Id).2 ⟨i, e, hi, he', hid'⟩)
        have HND := Lib.hid hnd
        clear hmem hnd
        have hnext : (∀ e, 0 < k → j.Open[k - 1]? = some e → dueLess e d = true) → ∀ i, i < k + 1 → OpenAt j.Open i := by
         intro n1 i hi
         by_cases hik : i = k
         ·
          subst hik
          intro d' hd'
          rw [HD.out] at hd'
          obtain rfl := Option.some.inj hd'
          exact ⟨hid, htm, n1, HND.out⟩
         ·
          exact HO.out i (by omega)
        have HN := Lib.hid hnext
        clear hnext
        have hs2 : ∀ x, x ∈ d.Id :: S ↔ ∃ i e, i < k + 1 ∧ j.Open[i]? = some e ∧ e.Id = x := by
         intro x
         rw [List.mem_cons, HM.out x]
         constructor
         ·
          rintro (rfl | ⟨i, e, hi, h1, h2⟩)
          ·
           exact ⟨k, d, by omega, HD.out, rfl⟩
          ·
           exact ⟨i, e, by omega, h1, h2⟩
         ·
          rintro ⟨i, e, hi, h1, h2⟩
          by_cases hik : i = k
          ·
           subst hik
           rw [HD.out] at h1
           obtain rfl := Option.some.inj h1
           exact .inl h2.symm
          ·
           exact .inr ⟨i, e, by omega, h1, h2⟩
        have HS := Lib.hid hs2
        clear hs2
        by_cases hk0 : k = 0
        ·
         subst hk0
         refine wp_region_ext (by kernel_rfl) (by kernel_rfl) ?_
         repeat (first | go_big_quiet_skip | (go_big_quiet_want; first | (refine quiet_load _ _ _ ?_ rfl rfl (fun wq hq => ?_) ?_; rotate_left; (focus (have q0 := hq.cell x0; have q1 := hq.cell x1; go_simp; first | done | rfl)); (try simp only [Act.put, List.setIfInBounds_toArray, List.set_cons_zero, List.set_cons_succ]); go_big_quiet_on) | (refine quiet_lookup _ _ _ _ _ ?_ rfl rfl rfl (fun wq hq => ?_) ?_; rotate_left; (focus (exact (by have c := (hset'.ext hq).look (t := 151) Try.underlying2 Try.underlying151 Try.underlying4 (zb _) hw; rw [hnu] at c; exact c))); (try simp only [Act.put, List.setIfInBounds_toArray, List.set_cons_zero, List.set_cons_succ]); go_big_quiet_on) | (go_big_quiet_op; first | go_big_quiet_on | (refine ⟨_, fun _ _ => rfl, ?_⟩; go_big_quiet_on) | (apply Exists.intro; refine ⟨fun wq hq => ?_, ?_⟩; (focus (first | exact call_same hq (by have c := idOk_c wq d.Id; rw [hid] at c; exact c) | exact call_same hq (by have c := timeOk_c wq d.Due; rw [htm] at c; exact c))); go_big_quiet_on))))
         refine wpQuiet_nil ?_
         intro w1 hx1
         have x0' := hx1.cell x0
         go_wp2_with (at_mapUpdate; refine wpList_put rfl _ _ _ 151 rfl 2 4 Try.underlying2 Try.underlying151 Try.underlying4 _ _ _ _ rfl rfl rfl (hset'.ext hx1) (by unfold maxLen; omega) hw ?_; intro w2 hset2 hgr2)
         have hx2 := (heW.trans hx1).grownOwn hgr2 (by omega)
         go_roundw
         case rel => exact ⟨0 + 1, by omega, by go_num, hx2, hgr2.cell (hx1.cell jb') (by first | (simp; done) | (simp; omega)), _, hset2, HN.out (fun e h => by omega), HS.out⟩
         case measure => simp [intOf]; omega
        ·
         obtain ⟨e, b2, o2, hde, hbo, _, c⟩ := HA.out (k - 1) (by omega)
         obtain ⟨rfl, rfl⟩ : b1 = b2 ∧ o1 = o2 := by simpa using hbo
         have e0' := heW.cell (c 0 _ (by decide) rfl)
         have e1' := heW.cell (c 1 _ (by decide) rfl)
         simp only [Nat.add_zero] at e0'
         have HE := Lib.hid hde
         clear c hde hbo
         have hk1 : decide (0 < k) = true := by simp; omega
         cases hls : dueLess e d
         ·
          refine wp_region_ext (by kernel_rfl) (by kernel_rfl) ?_
          repeat (first | go_big_quiet_skip | (go_big_quiet_want; first | (refine quiet_load _ _ _ ?_ rfl rfl (fun wq hq => ?_) ?_; rotate_left; (focus (have q0 := hq.cell x0; have q1 := hq.cell x1; have q2 := hq.cell jb'; have p0 := hq.cell e0'; have p1 := hq.cell e1'; go_simp; first | done | rfl)); (try simp only [Act.put, List.setIfInBounds_toArray, List.set_cons_zero, List.set_cons_succ]); go_big_quiet_on) | (refine quiet_lookup _ _ _ _ _ ?_ rfl rfl rfl (fun wq hq => ?_) ?_; rotate_left; (focus (exact (by have c := (hset'.ext hq).look (t := 151) Try.underlying2 Try.underlying151 Try.underlying4 (zb _) hw; rw [hnu] at c; exact c))); (try simp only [Act.put, List.setIfInBounds_toArray, List.set_cons_zero, List.set_cons_succ]); go_big_quiet_on) | (go_big_quiet_op; first | go_big_quiet_on | (refine ⟨_, fun _ _ => rfl, ?_⟩; go_big_quiet_on) | (apply Exists.intro; refine ⟨fun wq hq => ?_, ?_⟩; (focus (first | exact call_same hq (by have c := idOk_c wq d.Id; rw [hid] at c; exact c) | exact call_same hq (by have c := timeOk_c wq d.Due; rw [htm] at c; exact c) | exact call_ext hq (by have c := dueLess_c wq e d; rw [hls] at c; exact c))); go_big_quiet_on))))
          refine wpQuiet_nil ?_
          intro w1 hx1
          go_wp2
          go_ret
          exact ⟨congrArg (fun z => Ending.returned (.bool z)) (HB0.out.trans (openOk_false (fun hh => by have := (hh.2 k hlt d HD.out).2.2.1 e (by omega) HE.out; rw [hls] at this; cases this))).symm, heW.trans hx1⟩
         ·
          refine wp_region_ext (by kernel_rfl) (by kernel_rfl) ?_
          repeat (first | go_big_quiet_skip | (go_big_quiet_want; first | (refine quiet_load _ _ _ ?_ rfl rfl (fun wq hq => ?_) ?_; rotate_left; (focus (have q0 := hq.cell x0; have q1 := hq.cell x1; have q2 := hq.cell jb'; have p0 := hq.cell e0'; have p1 := hq.cell e1'; go_simp; first | done | rfl)); (try simp only [Act.put, List.setIfInBounds_toArray, List.set_cons_zero, List.set_cons_succ]); go_big_quiet_on) | (refine quiet_lookup _ _ _ _ _ ?_ rfl rfl rfl (fun wq hq => ?_) ?_; rotate_left; (focus (exact (by have c := (hset'.ext hq).look (t := 151) Try.underlying2 Try.underlying151 Try.underlying4 (zb _) hw; rw [hnu] at c; exact c))); (try simp only [Act.put, List.setIfInBounds_toArray, List.set_cons_zero, List.set_cons_succ]); go_big_quiet_on) | (go_big_quiet_op; first | go_big_quiet_on | (refine ⟨_, fun _ _ => rfl, ?_⟩; go_big_quiet_on) | (apply Exists.intro; refine ⟨fun wq hq => ?_, ?_⟩; (focus (first | exact call_same hq (by have c := idOk_c wq d.Id; rw [hid] at c; exact c) | exact call_same hq (by have c := timeOk_c wq d.Due; rw [htm] at c; exact c) | exact call_ext hq (by have c := dueLess_c wq e d; rw [hls] at c; exact c))); go_big_quiet_on))))
          refine wpQuiet_nil ?_
          intro w1 hx1
          have x0' := hx1.cell x0
          go_wp2_with (at_mapUpdate; refine wpList_put rfl _ _ _ 151 rfl 2 4 Try.underlying2 Try.underlying151 Try.underlying4 _ _ _ _ rfl rfl rfl (hset'.ext hx1) (by unfold maxLen; omega) hw ?_; intro w2 hset2 hgr2)
          have hx2 := (heW.trans hx1).grownOwn hgr2 (by omega)
          go_roundw
          case rel => exact ⟨k + 1, by omega, by go_num, hx2, hgr2.cell (hx1.cell jb') (by first | (simp; done) | (simp; omega)), _, hset2, HN.out (fun e' _ hl => by rw [HE.out] at hl; obtain rfl := Option.some.inj hl; exact hls), HS.out⟩
          case measure => simp [intOf]; omega
    ·
     obtain rfl : k = j.Open.length := by omega
     go_wp2
     go_ret
     exact ⟨congrArg (fun z => Ending.returned (.bool z)) (HB0.out.trans (openOk_true ⟨by omega, HO.out⟩)).symm, he⟩

end Go.Proofs.Ythihnangjghloaa

-- Whether a list of open jobs, with its lease, is valid: the program.
namespace Go.Proofs.Ythihnangjghloaa
open Go.RowKit Go.G8

theorem jobsOk2_c (w : World) (j : DJobs) (s : Value) (h : Ints 2 w s (dues j.Open)) : Calls Try.prog 44 #[.agg #[.int .i64 j.Index, .int .i64 j.Time, .int .i64 j.Holder, .int .i64 j.Epoch, .int .i64 j.Until, s]] w (RetV w (.bool (jobsOk2 j))) := by
 by_cases hg : inb j.Index 0 2000 = true ∧ timeOk j.Time = true ∧ (j.Holder == 0 || schedOk j.Holder) = true ∧ inb j.Epoch 0 1000 = true ∧ inb j.Until 0 1001000 = true ∧ j.Open.length ≤ 8
 ·
  obtain ⟨h1, h2, h3, h4, h5, h8⟩ := hg
  cases h6 : (j.Holder == 0)
  ·
   exact jobsOk2_held w j s h h1 h2 h6 (by simpa [h6] using h3) h4 h5 h8
  ·
   exact jobsOk2_free w j s h h1 h2 h6 h4 h5 h8
 ·
  exact jobsOk2_bad w j s h hg
end Go.Proofs.Ythihnangjghloaa

-- Views: whether one is valid.
namespace Go.Proofs.Ythihnangjghloaa
open Go.RowKit Go.G8

set_option maxHeartbeats 400000 in
theorem sViewOk_c (w : World) (v : DView) (s : Value) (h : Ints 2 w s (dues v.Jobs.Open)) : Calls Try.prog 30 #[.agg #[.int .i64 v.Jobs.Index, .int .i64 v.Jobs.Time, .int .i64 v.Jobs.Holder, .int .i64 v.Jobs.Epoch, .int .i64 v.Jobs.Until, s]] w (RetV w (.bool (jobsOk2 v.Jobs))) := by
 obtain ⟨a, n, c, rfl⟩ := h.shape
 go_enter Try.func30, Try.ntmps30
 go_wp2_with (first | (go_at_call 77; refine (sJobsOk2_c _ v.Jobs _ (h.ext (by (first | exact extT | omega)))).mono ?_; rintro e w1 ⟨rfl, hx1⟩; have hz1 := hx1.size; obtain ⟨hc1, hf1⟩ := hx1.cells; (repeat (first | simp only [World.size_alloc] at hz1 hc1 hf1 | simp only [World.size_setCell] at hz1 hc1 hf1)); have hy1_0 : w.heap.size < w1.heap.size := (by omega)))
 go_ret
 refine ⟨rfl, ?_⟩
 (first | exact extT | omega)

set_option maxHeartbeats 400000 in
theorem viewOk_c (w : World) (v : DView) (s : Value) (h : Ints 2 w s (dues v.Jobs.Open)) : Calls Try.prog 43 #[.agg #[.int .i64 v.Jobs.Index, .int .i64 v.Jobs.Time, .int .i64 v.Jobs.Holder, .int .i64 v.Jobs.Epoch, .int .i64 v.Jobs.Until, s]] w (RetV w (.bool (jobsOk2 v.Jobs))) := by
 obtain ⟨a, n, c, rfl⟩ := h.shape
 go_enter Try.func43, Try.ntmps43
 go_wp2_with (first | (go_at_call 44; refine (jobsOk2_c _ v.Jobs _ (h.ext (by (first | exact extT | omega)))).mono ?_; rintro e w1 ⟨rfl, hx1⟩; have hz1 := hx1.size; obtain ⟨hc1, hf1⟩ := hx1.cells; (repeat (first | simp only [World.size_alloc] at hz1 hc1 hf1 | simp only [World.size_setCell] at hz1 hc1 hf1)); have hy1_0 : w.heap.size < w1.heap.size := (by omega)))
 go_ret
 refine ⟨rfl, ?_⟩
 (first | exact extT | omega)

end Go.Proofs.Ythihnangjghloaa

-- Views: stale, and the estimate of the time.
namespace Go.Proofs.Ythihnangjghloaa
open Go.RowKit Go.G8

set_option maxHeartbeats 400000 in
theorem l1Max_c (w : World) (x y : Int) : Calls Try.prog 79 #[.int .i64 x, .int .i64 y] w fun e w' => e = .returned (.int .i64 (max x y)) ∧ w = w' := by
 by_cases h : y < x
 ·
  rw [show max x y = x by omega]
  go_enter Try.func79, Try.ntmps79
  go_wp2
  go_ret
  exact ⟨rfl, rfl⟩
 ·
  rw [show max x y = y by omega]
  go_enter Try.func79, Try.ntmps79
  go_wp2
  go_ret
  exact ⟨rfl, rfl⟩
set_option maxHeartbeats 800000 in
theorem sGuessOf_c (w : World) (v : DView) (s : Value) (now : Int) (h : Ints 2 w s (dues v.Jobs.Open)) : Calls Try.prog 32 #[.agg #[.int .i64 v.Jobs.Index, .int .i64 v.Jobs.Time, .int .i64 v.Jobs.Holder, .int .i64 v.Jobs.Epoch, .int .i64 v.Jobs.Until, s], .int .i64 now] w (RetV w (.int .i64 (guessOf v now))) := by
 obtain ⟨a, n, c, rfl⟩ := h.shape
 cases hb : jobsOk2 v.Jobs
 ·
  have hv : guessOf v now = -1 := by simp [guessOf, hb]
  rw [hv]
  clear hv
  go_enter Try.func32, Try.ntmps32
  go_wp2_with (first | (go_at_call 30; refine (sViewOk_c _ v _ (h.ext (by (first | exact extT | omega)))).mono ?_; rintro e w1 ⟨rfl, hx1⟩; rw [hb]; have hz1 := hx1.size; obtain ⟨hc1, hf1⟩ := hx1.cells; (repeat (first | simp only [World.size_alloc] at hz1 hc1 hf1 | simp only [World.size_setCell] at hz1 hc1 hf1)); have hy1_0 : w.heap.size < w1.heap.size := (by omega)) | (go_at_call 51; refine (l16Time_c _ _).mono ?_; rintro e wt ⟨rfl, rfl⟩; try rw [ht]))
  all_goals
   go_ret
   refine ⟨rfl, ?_⟩
   (first | exact extT | omega)
 ·
  cases ht : timeOk now
  ·
   have hv : guessOf v now = -1 := by simp [guessOf, hb, ht]
   rw [hv]
   clear hv
   go_enter Try.func32, Try.ntmps32
   go_wp2_with (first | (go_at_call 30; refine (sViewOk_c _ v _ (h.ext (by (first | exact extT | omega)))).mono ?_; rintro e w1 ⟨rfl, hx1⟩; rw [hb]; have hz1 := hx1.size; obtain ⟨hc1, hf1⟩ := hx1.cells; (repeat (first | simp only [World.size_alloc] at hz1 hc1 hf1 | simp only [World.size_setCell] at hz1 hc1 hf1)); have hy1_0 : w.heap.size < w1.heap.size := (by omega)) | (go_at_call 51; refine (l16Time_c _ _).mono ?_; rintro e wt ⟨rfl, rfl⟩; try rw [ht]))
   all_goals
    go_ret
    refine ⟨rfl, ?_⟩
    (first | exact extT | omega)
  ·
   have hv : guessOf v now = max v.Jobs.Time now := by simp [guessOf, hb, ht]
   rw [hv]
   clear hv
   go_enter Try.func32, Try.ntmps32
   go_wp2_with (first | (go_at_call 30; refine (sViewOk_c _ v _ (h.ext (by (first | exact extT | omega)))).mono ?_; rintro e w1 ⟨rfl, hx1⟩; rw [hb]; have hz1 := hx1.size; obtain ⟨hc1, hf1⟩ := hx1.cells; (repeat (first | simp only [World.size_alloc] at hz1 hc1 hf1 | simp only [World.size_setCell] at hz1 hc1 hf1)); have hy1_0 : w.heap.size < w1.heap.size := (by omega)) | (go_at_call 51; refine (l16Time_c _ _).mono ?_; rintro e wt ⟨rfl, rfl⟩; try rw [ht]) | (go_at_call 79; refine (l1Max_c _ _ _).mono ?_; rintro e wm ⟨rfl, rfl⟩))
   all_goals
    go_ret
    refine ⟨by first | rfl | (simp; done) | (simp; omega), ?_⟩
    (first | exact extT | omega)

set_option maxHeartbeats 800000 in
theorem guessOf_c (w : World) (v : DView) (s : Value) (now : Int) (h : Ints 2 w s (dues v.Jobs.Open)) : Calls Try.prog 31 #[.agg #[.int .i64 v.Jobs.Index, .int .i64 v.Jobs.Time, .int .i64 v.Jobs.Holder, .int .i64 v.Jobs.Epoch, .int .i64 v.Jobs.Until, s], .int .i64 now] w (RetV w (.int .i64 (guessOf v now))) := by
 obtain ⟨a, n, c, rfl⟩ := h.shape
 cases hb : jobsOk2 v.Jobs
 ·
  have hv : guessOf v now = -1 := by simp [guessOf, hb]
  rw [hv]
  clear hv
  go_enter Try.func31, Try.ntmps31
  go_wp2_with (first | (go_at_call 43; refine (viewOk_c _ v _ (h.ext (by (first | exact extT | omega)))).mono ?_; rintro e w1 ⟨rfl, hx1⟩; rw [hb]; have hz1 := hx1.size; obtain ⟨hc1, hf1⟩ := hx1.cells; (repeat (first | simp only [World.size_alloc] at hz1 hc1 hf1 | simp only [World.size_setCell] at hz1 hc1 hf1)); have hy1_0 : w.heap.size < w1.heap.size := (by omega)) | (go_at_call 78; refine (timeOk_c _ _).mono ?_; rintro e wt ⟨rfl, rfl⟩; try rw [ht]))
  all_goals
   go_ret
   refine ⟨rfl, ?_⟩
   (first | exact extT | omega)
 ·
  cases ht : timeOk now
  ·
   have hv : guessOf v now = -1 := by simp [guessOf, hb, ht]
   rw [hv]
   clear hv
   go_enter Try.func31, Try.ntmps31
   go_wp2_with (first | (go_at_call 43; refine (viewOk_c _ v _ (h.ext (by (first | exact extT | omega)))).mono ?_; rintro e w1 ⟨rfl, hx1⟩; rw [hb]; have hz1 := hx1.size; obtain ⟨hc1, hf1⟩ := hx1.cells; (repeat (first | simp only [World.size_alloc] at hz1 hc1 hf1 | simp only [World.size_setCell] at hz1 hc1 hf1)); have hy1_0 : w.heap.size < w1.heap.size := (by omega)) | (go_at_call 78; refine (timeOk_c _ _).mono ?_; rintro e wt ⟨rfl, rfl⟩; try rw [ht]))
   all_goals
    go_ret
    refine ⟨rfl, ?_⟩
    (first | exact extT | omega)
  ·
   have hv : guessOf v now = max v.Jobs.Time now := by simp [guessOf, hb, ht]
   rw [hv]
   clear hv
   go_enter Try.func31, Try.ntmps31
   go_wp2_with (first | (go_at_call 43; refine (viewOk_c _ v _ (h.ext (by (first | exact extT | omega)))).mono ?_; rintro e w1 ⟨rfl, hx1⟩; rw [hb]; have hz1 := hx1.size; obtain ⟨hc1, hf1⟩ := hx1.cells; (repeat (first | simp only [World.size_alloc] at hz1 hc1 hf1 | simp only [World.size_setCell] at hz1 hc1 hf1)); have hy1_0 : w.heap.size < w1.heap.size := (by omega)) | (go_at_call 78; refine (timeOk_c _ _).mono ?_; rintro e wt ⟨rfl, rfl⟩; try rw [ht]) | fail)
   all_goals
    go_ret
    refine ⟨by first | rfl | (simp; done) | (simp; omega), ?_⟩
    (first | exact extT | omega)

end Go.Proofs.Ythihnangjghloaa

-- Views: free, and held by one.
namespace Go.Proofs.Ythihnangjghloaa
open Go.RowKit Go.G8

noncomputable def freeIn (v : DView) (now : Int) : Bool := decide (0 ≤ guessOf v now) && (decide (v.Jobs.Holder = 0) || decide (v.Jobs.Until ≤ guessOf v now))
noncomputable def holdsIn (v : DView) (id now : Int) : Bool := decide (0 ≤ guessOf v now) && (schedOk id && (decide (v.Jobs.Holder = id) && decide (guessOf v now < v.Jobs.Until)))

set_option maxHeartbeats 800000 in
theorem freeIn_c (w : World) (v : DView) (s : Value) (now : Int) (h : Ints 2 w s (dues v.Jobs.Open)) : Calls Try.prog 36 #[.agg #[.int .i64 v.Jobs.Index, .int .i64 v.Jobs.Time, .int .i64 v.Jobs.Holder, .int .i64 v.Jobs.Epoch, .int .i64 v.Jobs.Until, s], .int .i64 now] w (RetV w (.bool (freeIn v now))) := by
 obtain ⟨a, n, c, rfl⟩ := h.shape
 generalize hg : guessOf v now = G
 have hv : freeIn v now = (decide (0 ≤ G) && (decide (v.Jobs.Holder = 0) || decide (v.Jobs.Until ≤ G))) := by simp [freeIn, hg]
 rw [hv]
 clear hv
 go_enter Try.func36, Try.ntmps36
 go_wp2_with (first | (go_at_call 31; refine (guessOf_c _ v _ _ (h.ext (by (first | exact extT | omega)))).mono ?_; rintro e w1 ⟨rfl, hx1⟩; rw [hg]; have hz1 := hx1.size; obtain ⟨hc1, hf1⟩ := hx1.cells; (repeat (first | simp only [World.size_alloc] at hz1 hc1 hf1 | simp only [World.size_setCell] at hz1 hc1 hf1)); have hy1_0 : w.heap.size < w1.heap.size := (by omega)))
 all_goals
  go_ret
  refine ⟨by first | (simp [*]; done) | (simp [*]; omega) | (simp_all; done) | (simp_all; omega), ?_⟩
  (first | exact extT | omega)

set_option maxHeartbeats 800000 in
theorem holdsIn_c (w : World) (v : DView) (s : Value) (id : Int) (now : Int) (h : Ints 2 w s (dues v.Jobs.Open)) : Calls Try.prog 37 #[.agg #[.int .i64 v.Jobs.Index, .int .i64 v.Jobs.Time, .int .i64 v.Jobs.Holder, .int .i64 v.Jobs.Epoch, .int .i64 v.Jobs.Until, s], .int .i64 id, .int .i64 now] w (RetV w (.bool (holdsIn v id now))) := by
 obtain ⟨a, n, c, rfl⟩ := h.shape
 generalize hg : guessOf v now = G
 cases hs : schedOk id
 all_goals
  have hv : holdsIn v id now = (decide (0 ≤ G) && (schedOk id && (decide (v.Jobs.Holder = id) && decide (G < v.Jobs.Until)))) := by simp [holdsIn, hg]
  rw [hv, hs]
  clear hv
  go_enter Try.func37, Try.ntmps37
  go_wp2_with (first | (go_at_call 31; refine (guessOf_c _ v _ _ (h.ext (by (first | exact extT | omega)))).mono ?_; rintro e w1 ⟨rfl, hx1⟩; rw [hg]; have hz1 := hx1.size; obtain ⟨hc1, hf1⟩ := hx1.cells; (repeat (first | simp only [World.size_alloc] at hz1 hc1 hf1 | simp only [World.size_setCell] at hz1 hc1 hf1)); have hy1_0 : w.heap.size < w1.heap.size := (by omega)) | (go_at_call 80; refine (schedOk_c _ _).mono ?_; rintro e wt ⟨rfl, rfl⟩; try rw [hs]))
  all_goals
   go_ret
   refine ⟨by first | (simp [*]; done) | (simp [*]; omega) | (simp_all; done) | (simp_all; omega), ?_⟩
   (first | exact extT | omega)

end Go.Proofs.Ythihnangjghloaa

-- Views: what is due.
namespace Go.Proofs.Ythihnangjghloaa
open Go.RowKit Go.G8

def dueIds (l : List DDue) (G : Int) : List Int := if G < 0 then [] else (l.filter (fun d => decide (d.Due ≤ G))).map DDue.Id
theorem dueIds_neg {l : List DDue} {G : Int} (h : G < 0) : dueIds l G = [] := by simp [dueIds, h]
theorem dueIds_yes {l : List DDue} {G : Int} {k : Nat} {d : DDue} (hd : l[k]? = some d) (h : 0 ≤ G) (h' : d.Due ≤ G) : dueIds (l.take (k + 1)) G = dueIds (l.take k) G ++ [d.Id] := by
 rw [List.take_add_one, hd]
 simp [dueIds, h', show ¬ G < 0 by omega]
theorem dueIds_no {l : List DDue} {G : Int} {k : Nat} {d : DDue} (hd : l[k]? = some d) (h' : ¬ d.Due ≤ G) : dueIds (l.take (k + 1)) G = dueIds (l.take k) G := by
 rw [List.take_add_one, hd]
 simp [dueIds, h']
theorem dueIds_len (l : List DDue) (G : Int) : (dueIds l G).length ≤ l.length := by
 unfold dueIds
 split
 ·
  simp
 ·
  simpa using List.length_filter_le _ l

set_option maxHeartbeats 1600000 in
theorem dueCount_c (w : World) (v : DView) (s : Value) (now : Int) (h : Ints 2 w s (dues v.Jobs.Open)) : Calls Try.prog 34 #[.agg #[.int .i64 v.Jobs.Index, .int .i64 v.Jobs.Time, .int .i64 v.Jobs.Holder, .int .i64 v.Jobs.Epoch, .int .i64 v.Jobs.Until, s], .int .i64 now] w (RetV w (.int .i64 (dueIds v.Jobs.Open (guessOf v now)).length)) := by
 obtain ⟨a, cap, rfl, hcap, hm, ha⟩ := h.recs (f := DDue.ints) (fun _ => rfl) (by decide)
 generalize hg : guessOf v now = G
 have HA := Lib.hid ha
 clear ha
 unfold maxLen at hm
 go_enter Try.func34, Try.ntmps34
 go_wp2_with fail
 refine (guessOf_c _ v _ _ (h.ext (by (first | exact extT | omega)))).mono ?_
 rintro e w1 ⟨rfl, hx1⟩
 rw [hg]
 obtain ⟨W0, hW0⟩ : ∃ W0, W0 = w.alloc (.cells #[.int .i64 v.Jobs.Index, .int .i64 v.Jobs.Time, .int .i64 v.Jobs.Holder, .int .i64 v.Jobs.Epoch, .int .i64 v.Jobs.Until, .slice a v.Jobs.Open.length cap] 34) := ⟨_, rfl⟩
 rw [← hW0] at hx1
 have hE0 : Ext w W0 := by rw [hW0]; exact (Ext.refl _).alloc _
 have jb0 : W0.cell? ⟨w.heap.size, 5, none⟩ = some (.slice a v.Jobs.Open.length cap) := by rw [hW0]; simp
 have jb1 := hx1.cell jb0
 clear hW0
 go_wp2_with fail
 go_loopw [16, 6] (fun i m wr => ∃ k : Nat, k ≤ v.Jobs.Open.length ∧ i = .int .i64 k ∧ m = .int .i64 (dueIds (v.Jobs.Open.take k) G).length ∧ Ext W0 wr) (fun i _ _ => v.Jobs.Open.length - (intOf i).toNat)
 case atStart => exact ⟨0, Nat.zero_le _, rfl, by simp [dueIds], hx1⟩
 case round =>
  obtain ⟨k, hk, rfl, rfl, he⟩ := hrel
  have jb := he.cell jb0
  by_cases hlt : k < v.Jobs.Open.length
  ·
   obtain ⟨d, b1, o1, hd, rfl, hb1, c⟩ := HA.out k hlt
   have d0 := (hE0.trans he).cell (c 0 _ (by decide) rfl)
   have d1 := (hE0.trans he).cell (c 1 _ (by decide) rfl)
   simp only [Nat.add_zero] at d0
   have HD := Lib.hid hd
   clear c hd
   have hdl := dueIds_len (v.Jobs.Open.take k) G
   simp only [List.length_take] at hdl
   go_wp2
   ·
    go_roundw
    case rel => exact ⟨k + 1, by omega, by go_num, by rw [dueIds_yes HD.out (by assumption) (by assumption)]; simp, he.alloc _⟩
    case measure => simp [intOf]; omega
   ·
    go_roundw
    case rel => exact ⟨k + 1, by omega, by go_num, by rw [dueIds_no HD.out (by omega)], he.alloc _⟩
    case measure => simp [intOf]; omega
   ·
    have hn : G < 0 := by omega
    go_roundw
    case rel => exact ⟨k + 1, by omega, by go_num, by rw [dueIds_neg hn, dueIds_neg hn], he.alloc _⟩
    case measure => simp [intOf]; omega
  ·
   obtain rfl : k = v.Jobs.Open.length := by omega
   go_wp2
   go_ret
   rw [List.take_length]
   exact ⟨rfl, hE0.trans he⟩
end Go.Proofs.Ythihnangjghloaa

-- Views: what fires next.
namespace Go.Proofs.Ythihnangjghloaa
open Go.RowKit Go.G8

theorem dueIds_head {l : List DDue} {G : Int} {k : Nat} {d : DDue} (hd : l[k]? = some d) (h : 0 ≤ G) (h' : d.Due ≤ G) (h0 : dueIds (l.take k) G = []) : ∃ r, dueIds l G = d.Id :: r := by
 have h1 := dueIds_yes hd h h'
 rw [h0, List.nil_append] at h1
 refine ⟨dueIds (l.drop (k + 1)) G, ?_⟩
 have h2 : dueIds l G = dueIds (l.take (k + 1)) G ++ dueIds (l.drop (k + 1)) G := by
  simp only [dueIds, show ¬ G < 0 by omega, if_false]
  rw [← List.map_append, ← List.filter_append, List.take_append_drop]
 rw [h2, h1]
 rfl

set_option maxHeartbeats 1600000 in
theorem nextFire_c (w : World) (v : DView) (s : Value) (now : Int) (h : Ints 2 w s (dues v.Jobs.Open)) : Calls Try.prog 33 #[.agg #[.int .i64 v.Jobs.Index, .int .i64 v.Jobs.Time, .int .i64 v.Jobs.Holder, .int .i64 v.Jobs.Epoch, .int .i64 v.Jobs.Until, s], .int .i64 now] w (RetV w (.tuple #[.int .i64 ((dueIds v.Jobs.Open (guessOf v now)).headD 0), .bool (decide (0 < (dueIds v.Jobs.Open (guessOf v now)).length))])) := by
 obtain ⟨a, cap, rfl, hcap, hm, ha⟩ := h.recs (f := DDue.ints) (fun _ => rfl) (by decide)
 generalize hg : guessOf v now = G
 have HA := Lib.hid ha
 clear ha
 unfold maxLen at hm
 go_enter Try.func33, Try.ntmps33
 go_wp2_with fail
 go_step3
 go_wp2_with fail
 refine (guessOf_c _ v _ _ (h.ext (by (first | exact extT | omega)))).mono ?_
 rintro e w1 ⟨rfl, hx1⟩
 rw [hg]
 obtain ⟨W0, hW0⟩ : ∃ W0, W0 = w.alloc (.cells #[.int .i64 v.Jobs.Index, .int .i64 v.Jobs.Time, .int .i64 v.Jobs.Holder, .int .i64 v.Jobs.Epoch, .int .i64 v.Jobs.Until, .slice a v.Jobs.Open.length cap] 34) := ⟨_, rfl⟩
 rw [← hW0] at hx1
 have hE0 : Ext w W0 := by rw [hW0]; exact (Ext.refl _).alloc _
 have jb0 : W0.cell? ⟨w.heap.size, 5, none⟩ = some (.slice a v.Jobs.Open.length cap) := by rw [hW0]; simp
 have jb1 := hx1.cell jb0
 clear hW0
 go_wp2_with fail
 go_step3
 go_wp2_with fail
 go_loopw [18, 7, 8] (fun i m b wr => ∃ k : Nat, k ≤ v.Jobs.Open.length ∧ i = .int .i64 k ∧ m = .int .i64 0 ∧ b = .bool false ∧ Ext W0 wr ∧ dueIds (v.Jobs.Open.take k) G = []) (fun i _ _ _ => v.Jobs.Open.length - (intOf i).toNat)
 case atStart => exact ⟨0, Nat.zero_le _, rfl, rfl, rfl, hx1, by simp [dueIds]⟩
 case round =>
  obtain ⟨k, hk, rfl, rfl, rfl, he, hn⟩ := hrel
  have jb := he.cell jb0
  have HN := Lib.hid hn
  clear hn
  by_cases hlt : k < v.Jobs.Open.length
  ·
   obtain ⟨d, b1, o1, hd, rfl, hb1, c⟩ := HA.out k hlt
   have d0 := (hE0.trans he).cell (c 0 _ (by decide) rfl)
   have d1 := (hE0.trans he).cell (c 1 _ (by decide) rfl)
   simp only [Nat.add_zero] at d0
   have HD := Lib.hid hd
   clear c hd
   go_wp2
   ·
    rw [Exit.noGoto_ret]
    go_ret2
    exact ⟨by rw [dueIds_neg (by assumption)]; rfl, hE0.trans (he.alloc _)⟩
   ·
    rw [Exit.noGoto_ret]
    go_ret2
    obtain ⟨r, hr⟩ := dueIds_head HD.out (by assumption) (by assumption) HN.out
    exact ⟨by rw [hr]; simp, hE0.trans (he.alloc _)⟩
   ·
    go_roundw
    case rel => exact ⟨k + 1, by omega, by go_num, rfl, rfl, he.alloc _, by rw [dueIds_no HD.out (by omega)]; exact HN.out⟩
    case measure => simp [intOf]; omega
  ·
   obtain rfl : k = v.Jobs.Open.length := by omega
   go_wp2
   rw [Exit.noGoto_ret]
   go_ret2
   have hn := HN.out
   rw [List.take_length] at hn
   exact ⟨by rw [hn]; rfl, hE0.trans he⟩
end Go.Proofs.Ythihnangjghloaa

-- Operations: right or not.
namespace Go.Proofs.Ythihnangjghloaa
open Go.RowKit Go.G8


end Go.Proofs.Ythihnangjghloaa

-- Schedulers: right or not.
namespace Go.Proofs.Ythihnangjghloaa
open Go.RowKit Go.G8

end Go.Proofs.Ythihnangjghloaa

-- Views: copies.
namespace Go.Proofs.Ythihnangjghloaa
open Go.RowKit Go.G8

end Go.Proofs.Ythihnangjghloaa

-- Views: what is heard of the jobs.
namespace Go.Proofs.Ythihnangjghloaa
open Go.RowKit Go.G8

end Go.Proofs.Ythihnangjghloaa
