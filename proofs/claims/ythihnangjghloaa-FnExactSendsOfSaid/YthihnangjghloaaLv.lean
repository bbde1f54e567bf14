/- Contracts and plain laws: V2 V3 V4a V4b V4c V4 V5 V6 V7 V12 V13 V8 V9 V10 V11. -/
import Derived.Test.YthihnangjghloaaLb
import Derived.Test.YthihnangjghloaaLa
set_option linter.unusedSimpArgs false
set_option linter.unusedVariables false
-- The order of a list of open jobs, in the reference.
namespace Go.Proofs.Ythihnangjghloaa
open Go.RowKit Go.G8

set_option maxHeartbeats 1600000 in
theorem l11Open_c (w : World) (v : Value) (l : List DDue) (h : Ints 2 w v (dues l)) : Calls Try.prog 119 #[v] w (RetV w (.bool (openOk l))) := by
 obtain ⟨a, cap, rfl, hcap, hm, ha⟩ := h.recs (f := DDue.ints) (fun _ => rfl) (by decide)
 have HA := Lib.hid ha
 clear ha
 unfold maxLen at hm
 by_cases h8 : 8 < l.length
 ·
  rw [openOk_false (fun hh => by have := hh.1; omega)]
  go_enter Try.func119, Try.ntmps119
  go_wp2
  go_ret
  exact ⟨rfl, Ext.refl _⟩
 ·
  have h8' : decide ((8 : Int) < (l.length : Int)) = false := by simp; omega
  go_enter Try.func119, Try.ntmps119
  go_wp2
  go_loopw [3] (fun i wr => ∃ k : Nat, k ≤ l.length ∧ i = .int .i64 k ∧ Ext w wr ∧ ∀ i, i < k → OpenAt l i) (fun i _ => l.length - (intOf i).toNat)
  case atStart => exact ⟨0, Nat.zero_le _, rfl, Ext.refl _, fun i hi => by omega⟩
  case round =>
   obtain ⟨k, hk, rfl, he, hok⟩ := hrel
   have HO := Lib.hid hok
   clear hok
   by_cases hlt : k < l.length
   ·
    obtain ⟨d, b1, o1, hd, rfl, hb1, c⟩ := HA.out k hlt
    have d0 := he.cell (c 0 _ (by decide) rfl)
    have d1 := he.cell (c 1 _ (by decide) rfl)
    simp only [Nat.add_zero] at d0
    have HD := Lib.hid hd
    clear c hd
    cases hid : idOk d.Id
    ·
     go_wp2
     refine wp_region_ext (by kernel_rfl) (by kernel_rfl) ?_
     repeat (first | go_big_quiet_skip | (go_big_quiet_want; first | (refine quiet_load _ _ _ ?_ rfl rfl (fun wq hq => ?_) ?_; rotate_left; (focus (have q0 := hq.cell d0; have q1 := hq.cell d1; go_simp; first | done | rfl)); (try simp only [Act.put, List.setIfInBounds_toArray, List.set_cons_zero, List.set_cons_succ]); go_big_quiet_on) | (go_big_quiet_op; first | go_big_quiet_on | (refine ⟨_, fun _ _ => rfl, ?_⟩; go_big_quiet_on) | (apply Exists.intro; refine ⟨fun wq hq => ?_, ?_⟩; (focus (first | exact call_same hq (by have c := l7Id_c wq d.Id; rw [hid] at c; exact c))); go_big_quiet_on))))
     refine wpQuiet_nil ?_
     intro w1 hx1
     go_wp2
     go_ret
     exact ⟨congrArg (fun z => Ending.returned (.bool z)) (openOk_false (fun hh => by have := (hh.2 k hlt d HD.out).1; rw [hid] at this; cases this)).symm, he.trans hx1⟩
    ·
     cases htm : timeOk d.Due
     ·
      go_wp2
      refine wp_region_ext (by kernel_rfl) (by kernel_rfl) ?_
      repeat (first | go_big_quiet_skip | (go_big_quiet_want; first | (refine quiet_load _ _ _ ?_ rfl rfl (fun wq hq => ?_) ?_; rotate_left; (focus (have q0 := hq.cell d0; have q1 := hq.cell d1; go_simp; first | done | rfl)); (try simp only [Act.put, List.setIfInBounds_toArray, List.set_cons_zero, List.set_cons_succ]); go_big_quiet_on) | (go_big_quiet_op; first | go_big_quiet_on | (refine ⟨_, fun _ _ => rfl, ?_⟩; go_big_quiet_on) | (apply Exists.intro; refine ⟨fun wq hq => ?_, ?_⟩; (focus (first | exact call_same hq (by have c := l7Id_c wq d.Id; rw [hid] at c; exact c) | exact call_same hq (by have c := sTimeOk_c wq d.Due; rw [htm] at c; exact c))); go_big_quiet_on))))
      refine wpQuiet_nil ?_
      intro w1 hx1
      go_wp2
      go_ret
      exact ⟨congrArg (fun z => Ending.returned (.bool z)) (openOk_false (fun hh => by have := (hh.2 k hlt d HD.out).2.1; rw [htm] at this; cases this)).symm, he.trans hx1⟩
     ·
      have hnext : (∀ e, 0 < k → l[k - 1]? = some e → dueLess e d = true) → (∀ i e, i < k → l[i]? = some e → e.Id ≠ d.Id) → ∀ i, i < k + 1 → OpenAt l i := by
       intro n1 n2 i hi
       by_cases hik : i = k
       ·
        subst hik
        intro d' hd'
        rw [HD.out] at hd'
        obtain rfl := Option.some.inj hd'
        exact ⟨hid, htm, n1, n2⟩
       ·
        exact HO.out i (by omega)
      have HN := Lib.hid hnext
      clear hnext
      have hdup : ∀ i e, i < k → l[i]? = some e → e.Id = d.Id → openOk l = false := fun i e hi he' hh => openOk_false (fun ho => (ho.2 k hlt d HD.out).2.2.2 i e hi he' hh)
      have HU := Lib.hid hdup
      clear hdup
      by_cases hk0 : k = 0
      ·
       subst hk0
       simp only [Nat.zero_mul, Nat.add_zero] at d0 d1
       go_wp2
       refine wp_region_ext (by kernel_rfl) (by kernel_rfl) ?_
       repeat (first | go_big_quiet_skip | (go_big_quiet_want; first | (refine quiet_load _ _ _ ?_ rfl rfl (fun wq hq => ?_) ?_; rotate_left; (focus (have q0 := hq.cell d0; have q1 := hq.cell d1; go_simp; first | done | rfl)); (try simp only [Act.put, List.setIfInBounds_toArray, List.set_cons_zero, List.set_cons_succ]); go_big_quiet_on) | (go_big_quiet_op; first | go_big_quiet_on | (refine ⟨_, fun _ _ => rfl, ?_⟩; go_big_quiet_on) | (apply Exists.intro; refine ⟨fun wq hq => ?_, ?_⟩; (focus (first | exact call_same hq (by have c := l7Id_c wq d.Id; rw [hid] at c; exact c) | exact call_same hq (by have c := sTimeOk_c wq d.Due; rw [htm] at c; exact c))); go_big_quiet_on))))
       refine wpQuiet_nil ?_
       intro w1 hx1
       go_wp2
       go_loopw [4] (fun i wr' => i = .int .i64 0 ∧ Ext wr wr') (fun _ _ => 0)
       case atStart => exact ⟨rfl, hx1⟩
       case round =>
        obtain ⟨rfl, he'⟩ := hrel
        go_wp2
        go_roundw
        case rel => exact ⟨1, by omega, rfl, he.trans he', HN.out (fun e h => by omega) (fun i e h => by omega)⟩
        case measure => simp [intOf]; omega
      ·
       obtain ⟨e, b2, o2, hde, hbo, _, c⟩ := HA.out (k - 1) (by omega)
       obtain ⟨rfl, rfl⟩ : b1 = b2 ∧ o1 = o2 := by simpa using hbo
       have e0 := he.cell (c 0 _ (by decide) rfl)
       have e1 := he.cell (c 1 _ (by decide) rfl)
       simp only [Nat.add_zero] at e0
       have HE := Lib.hid hde
       clear c hde hbo
       have hk1 : decide (0 < k) = true := by simp; omega
       cases hls : dueLess e d
       ·
        go_wp2
        refine wp_region_ext (by kernel_rfl) (by kernel_rfl) ?_
        repeat (first | go_big_quiet_skip | (go_big_quiet_want; first | (refine quiet_load _ _ _ ?_ rfl rfl (fun wq hq => ?_) ?_; rotate_left; (focus (have q0 := hq.cell d0; have q1 := hq.cell d1; have p0 := hq.cell e0; have p1 := hq.cell e1; go_simp; first | done | rfl)); (try simp only [Act.put, List.setIfInBounds_toArray, List.set_cons_zero, List.set_cons_succ]); go_big_quiet_on) | (go_big_quiet_op; first | go_big_quiet_on | (refine ⟨_, fun _ _ => rfl, ?_⟩; go_big_quiet_on) | (apply Exists.intro; refine ⟨fun wq hq => ?_, ?_⟩; (focus (first | exact call_same hq (by have c := l7Id_c wq d.Id; rw [hid] at c; exact c) | exact call_same hq (by have c := sTimeOk_c wq d.Due; rw [htm] at c; exact c) | exact call_ext hq (by have c := l11DueLess_c wq e d; rw [hls] at c; exact c))); go_big_quiet_on))))
        refine wpQuiet_nil ?_
        intro w1 hx1
        go_wp2
        go_ret
        exact ⟨congrArg (fun z => Ending.returned (.bool z)) (openOk_false (fun hh => by have := (hh.2 k hlt d HD.out).2.2.1 e (by omega) HE.out; rw [hls] at this; cases this)).symm, he.trans hx1⟩
       ·
        go_wp2
        refine wp_region_ext (by kernel_rfl) (by kernel_rfl) ?_
        repeat (first | go_big_quiet_skip | (go_big_quiet_want; first | (refine quiet_load _ _ _ ?_ rfl rfl (fun wq hq => ?_) ?_; rotate_left; (focus (have q0 := hq.cell d0; have q1 := hq.cell d1; have p0 := hq.cell e0; have p1 := hq.cell e1; go_simp; first | done | rfl)); (try simp only [Act.put, List.setIfInBounds_toArray, List.set_cons_zero, List.set_cons_succ]); go_big_quiet_on) | (go_big_quiet_op; first | go_big_quiet_on | (refine ⟨_, fun _ _ => rfl, ?_⟩; go_big_quiet_on) | (apply Exists.intro; refine ⟨fun wq hq => ?_, ?_⟩; (focus (first | exact call_same hq (by have c := l7Id_c wq d.Id; rw [hid] at c; exact c) | exact call_same hq (by have c := sTimeOk_c wq d.Due; rw [htm] at c; exact c) | exact call_ext hq (by have c := l11DueLess_c wq e d; rw [hls] at c; exact c))); go_big_quiet_on))))
        refine wpQuiet_nil ?_
        intro w1 hx1
        go_wp2
        go_loopw [4] (fun i wr' => ∃ m : Nat, m ≤ k ∧ i = .int .i64 m ∧ Ext wr wr' ∧ ∀ i e, i < m → l[i]? = some e → e.Id ≠ d.Id) (fun i _ => k - (intOf i).toNat)
        case atStart => exact ⟨0, by omega, rfl, hx1, fun i e h => by omega⟩
        case round =>
         obtain ⟨m, hm', rfl, he', hno⟩ := hrel
         have HM := Lib.hid hno
         clear hno
         by_cases hmk : m < k
         ·
          obtain ⟨g, b2, o2, hdg, hbo, _, c⟩ := HA.out m (by omega)
          obtain ⟨rfl, rfl⟩ : b1 = b2 ∧ o1 = o2 := by simpa using hbo
          have g0 := (he.trans he').cell (c 0 _ (by decide) rfl)
          have f0 := he'.cell d0
          simp only [Nat.add_zero] at g0
          have HG := Lib.hid hdg
          clear c hdg hbo
          by_cases heq : g.Id = d.Id
          ·
           have hb : (g.Id == d.Id) = true := by simpa using heq
           have HEQ := Lib.hid heq
           clear heq
           go_wp2
           go_quiet (fail)
           go_wp2
           go_ret
           exact ⟨congrArg (fun z => Ending.returned (.bool z)) (HU.out m g hmk HG.out HEQ.out).symm, (he.trans he').drewN _⟩
          ·
           have hb : (g.Id == d.Id) = false := by simpa using heq
           go_wp2
           go_quiet (fail)
           go_wp2
           go_roundw
           case rel => 
            refine ⟨m + 1, by omega, by go_num, he'.drewN _, fun i e' hi hl => ?_⟩
            by_cases him : i = m
            ·
             subst him
             rw [HG.out] at hl
             obtain rfl := Option.some.inj hl
             exact heq
            ·
             exact HM.out i e' (by omega) hl
           case measure => simp [intOf]; omega
         ·
          obtain rfl : m = k := by omega
          go_wp2
          go_roundw
          case rel => exact ⟨m + 1, by omega, by go_num, he.trans he', HN.out (fun e' _ hl => by rw [HE.out] at hl; obtain rfl := Option.some.inj hl; exact hls) HM.out⟩
          case measure => simp [intOf]; omega
   ·
    obtain rfl : k = l.length := by omega
    go_wp2
    go_ret
    exact ⟨congrArg (fun z => Ending.returned (.bool z)) (openOk_true ⟨by omega, HO.out⟩).symm, he⟩
end Go.Proofs.Ythihnangjghloaa

-- Whether a list of open jobs, with its lease, is valid: the reference.
namespace Go.Proofs.Ythihnangjghloaa
open Go.RowKit Go.G8

set_option maxHeartbeats 400000 in
theorem l11Sched_c (w : World) (x : Int) : Calls Try.prog 118 #[.int .i64 x] w fun e w' => e = .returned (.bool (schedOk x)) ∧ w = w' := by
 by_cases h2 : x = 2
 ·
  subst h2
  go_enter Try.func118, Try.ntmps118
  go_wp2
  go_ret
  exact ⟨rfl, rfl⟩
 ·
  have e2 : (x == 2) = false := by simpa using h2
  by_cases h3 : x = 3
  ·
   subst h3
   go_enter Try.func118, Try.ntmps118
   go_wp2
   go_ret
   exact ⟨rfl, rfl⟩
  ·
   have e3 : (x == 3) = false := by simpa using h3
   go_enter Try.func118, Try.ntmps118
   go_wp2
   go_ret
   exact ⟨by simp [schedOk, e2, e3], rfl⟩
set_option maxHeartbeats 400000 in
theorem l16Who_c (w : World) (x : Int) : Calls Try.prog 99 #[.int .i64 x] w fun e w' => e = .returned (.bool (schedOk x)) ∧ w = w' := by
 by_cases h2 : x = 2
 ·
  subst h2
  go_enter Try.func99, Try.ntmps99
  go_wp2
  go_ret
  exact ⟨rfl, rfl⟩
 ·
  have e2 : (x == 2) = false := by simpa using h2
  by_cases h3 : x = 3
  ·
   subst h3
   go_enter Try.func99, Try.ntmps99
   go_wp2
   go_ret
   exact ⟨rfl, rfl⟩
  ·
   have e3 : (x == 3) = false := by simpa using h3
   go_enter Try.func99, Try.ntmps99
   go_wp2
   go_ret
   exact ⟨by simp [schedOk, e2, e3], rfl⟩
set_option maxHeartbeats 400000 in
theorem schedOk_c (w : World) (x : Int) : Calls Try.prog 80 #[.int .i64 x] w fun e w' => e = .returned (.bool (schedOk x)) ∧ w = w' := by
 by_cases h2 : x = 2
 ·
  subst h2
  go_enter Try.func80, Try.ntmps80
  go_wp2
  go_ret
  exact ⟨rfl, rfl⟩
 ·
  have e2 : (x == 2) = false := by simpa using h2
  by_cases h3 : x = 3
  ·
   subst h3
   go_enter Try.func80, Try.ntmps80
   go_wp2
   go_ret
   exact ⟨rfl, rfl⟩
  ·
   have e3 : (x == 3) = false := by simpa using h3
   go_enter Try.func80, Try.ntmps80
   go_wp2
   go_ret
   exact ⟨by simp [schedOk, e2, e3], rfl⟩

set_option maxHeartbeats 1600000 in
theorem sJobsOk2_c (w : World) (j : DJobs) (s : Value) (h : Ints 2 w s (dues j.Open)) : Calls Try.prog 77 #[.agg #[.int .i64 j.Index, .int .i64 j.Time, .int .i64 j.Holder, .int .i64 j.Epoch, .int .i64 j.Until, s]] w (RetV w (.bool (jobsOk2 j))) := by
 obtain ⟨a, n, c, rfl⟩ := h.shape
 by_cases hH : j.Holder = 0
 ·
  have hH' : (j.Holder == 0) = true := by simpa using hH
  clear hH
  go_enter Try.func77, Try.ntmps77
  go_wp2_with (first | (go_at_call 96; refine (l1In_c _ _ _ _).mono ?_; rintro e w1 ⟨rfl, rfl⟩) | (go_at_call 117; refine (sTimeOk_c _ _).mono ?_; rintro e w1 ⟨rfl, rfl⟩) | (go_at_call 118; refine (l11Sched_c _ _).mono ?_; rintro e w1 ⟨rfl, rfl⟩) | (go_at_call 119; refine (l11Open_c _ _ _ (h.ext (by (first | exact extT | omega)))).mono ?_; rintro e w1 ⟨rfl, hx1⟩))
  all_goals
   go_ret
   refine ⟨congrArg (fun z => Ending.returned (.bool z)) ?_, ?_⟩
   ·
    simp [jobsOk2, *]
   ·
    (first | exact extT | omega)
 ·
  have hH' : (j.Holder == 0) = false := by simpa using hH
  clear hH
  go_enter Try.func77, Try.ntmps77
  go_wp2_with (first | (go_at_call 96; refine (l1In_c _ _ _ _).mono ?_; rintro e w1 ⟨rfl, rfl⟩) | (go_at_call 117; refine (sTimeOk_c _ _).mono ?_; rintro e w1 ⟨rfl, rfl⟩) | (go_at_call 118; refine (l11Sched_c _ _).mono ?_; rintro e w1 ⟨rfl, rfl⟩) | (go_at_call 119; refine (l11Open_c _ _ _ (h.ext (by (first | exact extT | omega)))).mono ?_; rintro e w1 ⟨rfl, hx1⟩))
  all_goals
   go_ret
   refine ⟨congrArg (fun z => Ending.returned (.bool z)) ?_, ?_⟩
   ·
    simp [jobsOk2, *]
   ·
    (first | exact extT | omega)
end Go.Proofs.Ythihnangjghloaa

-- Whether a list of open jobs, with its lease, is valid: the program, where the head fails.
namespace Go.Proofs.Ythihnangjghloaa
open Go.RowKit Go.G8

theorem zb (w : World) : (zeroValue 4).run Try.prog w = .ok (.bool false) w := by kernel_rfl

set_option maxHeartbeats 3200000 in
theorem jobsOk2_bad (w : World) (j : DJobs) (s : Value) (h : Ints 2 w s (dues j.Open)) (hbad : ¬ (inb j.Index 0 2000 = true ∧ timeOk j.Time = true ∧ (j.Holder == 0 || schedOk j.Holder) = true ∧ inb j.Epoch 0 1000 = true ∧ inb j.Until 0 1001000 = true ∧ j.Open.length ≤ 8)) : Calls Try.prog 44 #[.agg #[.int .i64 j.Index, .int .i64 j.Time, .int .i64 j.Holder, .int .i64 j.Epoch, .int .i64 j.Until, s]] w (RetV w (.bool (jobsOk2 j))) := by
 obtain ⟨a, cap, rfl, hcap, hm, ha⟩ := h.recs (f := DDue.ints) (fun _ => rfl) (by decide)
 have HA := Lib.hid ha
 clear ha
 unfold maxLen at hm
 have hmm := @run_makeMap Try.prog
 have hb0 : jobsOk2 j = false := by
  have e8 : ¬ j.Open.length ≤ 8 → openOk j.Open = false := fun hn => openOk_false (fun hh => hn hh.1)
  cases h1 : inb j.Index 0 2000 <;> cases h2 : timeOk j.Time <;> cases h3 : (j.Holder == 0 || schedOk j.Holder) <;> cases h4 : inb j.Epoch 0 1000 <;> cases h5 : inb j.Until 0 1001000 <;> simp only [jobsOk2, h1, h2, h3, h4, h5, Bool.false_and, Bool.and_false, Bool.true_and]
  exact e8 (fun h8 => hbad ⟨h1, h2, h3, h4, h5, h8⟩)
 rw [hb0]
 have HBD := Lib.hid hbad
 clear hb0 hbad
 by_cases hH : j.Holder = 0
 ·
  have hH' : (j.Holder == 0) = true := by simpa using hH
  have hH2 : (j.Holder != 0) = false := by simpa using hH
  clear hH
  go_enter Try.func44, Try.ntmps44
  go_wp2_with (first | (go_at_call 92; refine (between_c _ _ _ _).mono ?_; rintro e w1 ⟨rfl, rfl⟩) | (go_at_call 78; refine (timeOk_c _ _).mono ?_; rintro e w1 ⟨rfl, rfl⟩) | (go_at_call 80; refine (schedOk_c _ _).mono ?_; rintro e w1 ⟨rfl, rfl⟩))
  all_goals try (go_ret; refine ⟨rfl, ?_⟩; ((first | exact extT | omega)); done)
  exfalso
  refine HBD.out ⟨?_, ?_, ?_, ?_, ?_, ?_⟩
  all_goals first | assumption | omega | (rw [Bool.or_eq_true]; first | exact .inl hH' | exact .inr (by simpa using ‹(!schedOk j.Holder) = false›))
 ·
  have hH' : (j.Holder == 0) = false := by simpa using hH
  have hH2 : (j.Holder != 0) = true := by simpa using hH
  clear hH
  go_enter Try.func44, Try.ntmps44
  go_wp2_with (first | (go_at_call 92; refine (between_c _ _ _ _).mono ?_; rintro e w1 ⟨rfl, rfl⟩) | (go_at_call 78; refine (timeOk_c _ _).mono ?_; rintro e w1 ⟨rfl, rfl⟩) | (go_at_call 80; refine (schedOk_c _ _).mono ?_; rintro e w1 ⟨rfl, rfl⟩))
  all_goals try (go_ret; refine ⟨rfl, ?_⟩; ((first | exact extT | omega)); done)
  exfalso
  refine HBD.out ⟨?_, ?_, ?_, ?_, ?_, ?_⟩
  all_goals first | assumption | omega | (rw [Bool.or_eq_true]; first | exact .inl hH' | exact .inr (by simpa using ‹(!schedOk j.Holder) = false›))
end Go.Proofs.Ythihnangjghloaa

-- .. where the lease is free.
namespace Go.Proofs.Ythihnangjghloaa
open Go.RowKit Go.G8

set_option maxHeartbeats 3200000 in
set_option maxRecDepth 100000 in
theorem jobsOk2_free (w : World) (j : DJobs) (s : Value) (h : Ints 2 w s (dues j.Open)) (h1 : inb j.Index 0 2000 = true) (h2 : timeOk j.Time = true) (h3 : (j.Holder == 0) = true) (h4 : inb j.Epoch 0 1000 = true) (h5 : inb j.Until 0 1001000 = true) (h8 : j.Open.length ≤ 8) : Calls Try.prog 44 #[.agg #[.int .i64 j.Index, .int .i64 j.Time, .int .i64 j.Holder, .int .i64 j.Epoch, .int .i64 j.Until, s]] w (RetV w (.bool (jobsOk2 j))) := by
 obtain ⟨a, cap, rfl, hcap, hm, ha⟩ := h.recs (f := DDue.ints) (fun _ => rfl) (by decide)
 have HA := Lib.hid ha
 clear ha
 unfold maxLen at hm
 have hmm := @run_makeMap Try.prog
 have hb0 : jobsOk2 j = openOk j.Open := by simp [jobsOk2, *]
 have HB0 := Lib.hid hb0
 clear hb0
 have h8' : decide ((8 : Int) < (j.Open.length : Int)) = false := by simp; omega
 have h3' : (j.Holder != 0) = false := by simpa using h3
 ·
  go_enter Try.func44, Try.ntmps44
  go_wp2_with (first | (go_at_call 92; refine (between_c _ _ _ _).mono ?_; rintro e w1 ⟨rfl, rfl⟩) | (go_at_call 78; refine (timeOk_c _ _).mono ?_; rintro e w1 ⟨rfl, rfl⟩) | (go_at_call 80; refine (schedOk_c _ _).mono ?_; rintro e w1 ⟨rfl, rfl⟩))
  clear hmm
  ·
   skip
   go_loopw [47] (fun i wr => ∃ k : Nat, k ≤ j.Open.length ∧ i = .int .i64 k ∧ Ext w wr ∧ wr.cell? ⟨w.heap.size, 5, none⟩ = some (.slice a j.Open.length cap) ∧ (∃ S, BSet Try.prog 2 4 wr (w.heap.size + 1) k S ∧ (∀ i, i < k → OpenAt j.Open i) ∧ (∀ x, x ∈ S ↔ ∃ i e, i < k ∧ j.Open[i]? = some e ∧ e.Id = x))) (fun i _ => j.Open.length - (intOf i).toNat)
   case atStart => exact ⟨0, Nat.zero_le _, rfl, ((Ext.refl _).alloc _).alloc _, by simp, [], by simpa using BSet.made Try.prog 2 4 (w.alloc _), fun i hi => by omega, fun x => by simp⟩
   case round =>
    obtain ⟨k, hk, rfl, he, jb, S, hset, hok, hS⟩ := hrel
    have HO := Lib.hid hok
    have HM := Lib.hid hS
    clear hok hS
    have hsz := he.size
    by_cases hlt : k < j.Open.length
    ·
     obtain ⟨d, b1, o1, hd, rfl, hb1, c⟩ := HA.out k hlt
     have d0 := he.cell (c 0 _ (by decide) rfl)
     have d1 := he.cell (c 1 _ (by decide) rfl)
     simp only [Nat.add_zero] at d0
     have HD := Lib.hid hd
     clear c hd
     go_wp2
     obtain ⟨W, hW⟩ : ∃ W, W = wr.alloc (.cells #[.int .i64 d.Id, .int .i64 d.Due] 132) := ⟨_, rfl⟩
     have x0 : W.cell? ⟨wr.heap.size, 0, none⟩ = some (.int .i64 d.Id) := by rw [hW]; simp
     have x1 : W.cell? ⟨wr.heap.size, 1, none⟩ = some (.int .i64 d.Due) := by rw [hW]; simp
     have jb' : W.cell? ⟨w.heap.size, 5, none⟩ = some (.slice (some ⟨b1, o1, none⟩) j.Open.length cap) := by rw [hW]; exact ((Ext.refl wr).alloc _).cell jb
     have hset' : BSet Try.prog 2 4 W (w.heap.size + 1) k S := by rw [hW]; exact hset.ext ((Ext.refl wr).alloc _)
     have heW : Ext w W := by rw [hW]; exact he.alloc _
     have heR : Ext wr W := by rw [hW]; exact (Ext.refl wr).alloc _
     rw [← hW]
     clear hW
     cases hid : idOk d.Id
     ·
      refine wp_region_ext (by kernel_rfl) (by kernel_rfl) ?_
      repeat (first | go_big_quiet_skip | (go_big_quiet_want; first | (refine quiet_load _ _ _ ?_ rfl rfl (fun wq hq => ?_) ?_; rotate_left; (focus (have q0 := hq.cell x0; have q1 := hq.cell x1; go_simp; first | done | rfl)); (try simp only [Act.put, List.setIfInBounds_toArray, List.set_cons_zero, List.set_cons_succ]); go_big_quiet_on) | (refine quiet_lookup _ _ _ _ _ ?_ rfl rfl rfl (fun wq hq => ?_) ?_; rotate_left; (focus (fail)); (try simp only [Act.put, List.setIfInBounds_toArray, List.set_cons_zero, List.set_cons_succ]); go_big_quiet_on) | (go_big_quiet_op; first | go_big_quiet_on | (refine ⟨_, fun _ _ => rfl, ?_⟩; go_big_quiet_on) | (apply Exists.intro; refine ⟨fun wq hq => ?_, ?_⟩; (focus (first | exact call_same hq (by have c := idOk_c wq d.Id; rw [hid] at c; exact c))); go_big_quiet_on))))
      refine wpQuiet_nil ?_
      intro w1 hx1
      go_wp2
      go_ret
      exact ⟨congrArg (fun z => Ending.returned (.bool z)) (HB0.out.trans (openOk_false (fun hh => by have := (hh.2 k hlt d HD.out).1; rw [hid] at this; cases this))).symm, heW.trans hx1⟩
     ·
      have hw : (Lit.int .i64 d.Id).wf = true := by
       have := inb_true.1 hid
       exact WalkArith.wf_i64 (by omega)
      cases htm : timeOk d.Due
      ·
       refine wp_region_ext (by kernel_rfl) (by kernel_rfl) ?_
       repeat (first | go_big_quiet_skip | (go_big_quiet_want; first | (refine quiet_load _ _ _ ?_ rfl rfl (fun wq hq => ?_) ?_; rotate_left; (focus (have q0 := hq.cell x0; have q1 := hq.cell x1; go_simp; first | done | rfl)); (try simp only [Act.put, List.setIfInBounds_toArray, List.set_cons_zero, List.set_cons_succ]); go_big_quiet_on) | (refine quiet_lookup _ _ _ _ _ ?_ rfl rfl rfl (fun wq hq => ?_) ?_; rotate_left; (focus (fail)); (try simp only [Act.put, List.setIfInBounds_toArray, List.set_cons_zero, List.set_cons_succ]); go_big_quiet_on) | (go_big_quiet_op; first | go_big_quiet_on | (refine ⟨_, fun _ _ => rfl, ?_⟩; go_big_quiet_on) | (apply Exists.intro; refine ⟨fun wq hq => ?_, ?_⟩; (focus (first | exact call_same hq (by have c := idOk_c wq d.Id; rw [hid] at c; exact c) | exact call_same hq (by have c := timeOk_c wq d.Due; rw [htm] at c; exact c))); go_big_quiet_on))))
       refine wpQuiet_nil ?_
       intro w1 hx1
       go_wp2
       go_ret
       exact ⟨congrArg (fun z => Ending.returned (.bool z)) (HB0.out.trans (openOk_false (fun hh => by have := (hh.2 k hlt d HD.out).2.1; rw [htm] at this; cases this))).symm, heW.trans hx1⟩
      ·
       by_cases hmem : d.Id ∈ S
       ·
        have hnu : decide (d.Id ∈ S) = true := by simpa using hmem
        have HMM := Lib.hid hmem
        clear hmem
        refine wp_region_ext (by kernel_rfl) (by kernel_rfl) ?_
        repeat (first | go_big_quiet_skip | (go_big_quiet_want; first | (refine quiet_load _ _ _ ?_ rfl rfl (fun wq hq => ?_) ?_; rotate_left; (focus (have q0 := hq.cell x0; have q1 := hq.cell x1; go_simp; first | done | rfl)); (try simp only [Act.put, List.setIfInBounds_toArray, List.set_cons_zero, List.set_cons_succ]); go_big_quiet_on) | (refine quiet_lookup _ _ _ _ _ ?_ rfl rfl rfl (fun wq hq => ?_) ?_; rotate_left; (focus (exact (by have c := (hset'.ext hq).look (t := 151) Try.underlying2 Try.underlying151 Try.underlying4 (zb _) hw; rw [hnu] at c; exact c))); (try simp only [Act.put, List.setIfInBounds_toArray, List.set_cons_zero, List.set_cons_succ]); go_big_quiet_on) | (go_big_quiet_op; first | go_big_quiet_on | (refine ⟨_, fun _ _ => rfl, ?_⟩; go_big_quiet_on) | (apply Exists.intro; refine ⟨fun wq hq => ?_, ?_⟩; (focus (first | exact call_same hq (by have c := idOk_c wq d.Id; rw [hid] at c; exact c) | exact call_same hq (by have c := timeOk_c wq d.Due; rw [htm] at c; exact c))); go_big_quiet_on))))
        refine wpQuiet_nil ?_
        intro w1 hx1
        go_wp2
        go_ret
        exact ⟨congrArg (fun z => Ending.returned (.bool z)) (HB0.out.trans (openOk_false (fun hh => by obtain ⟨i, e, hi, he', hid'⟩ := (HM.out d.Id).1 HMM.out; exact (hh.2 k hlt d HD.out).2.2.2 i e hi he' hid'))).symm, heW.trans hx1⟩
       ·
        have hnu : decide (d.Id ∈ S) = false := by simpa using hmem
        have hnd : ∀ i e, i < k → j.Open[i]? = some e → e.Id ≠ d.Id := fun i e hi he' hid' => hmem ((HM.out d.Id).2 ⟨i, e, hi, he', hid'⟩)
        have HND := Lib.hid hnd
        clear hmem hnd
        have hnext : (∀ e, 0 < k → j.Open[k - 1]? = some e → dueLess e d = true) → ∀ i, i < k + 1 → OpenAt j.Open i := by
         intro n1 i hi
         by_cases hik : i = k
         ·
          subst hik
          intro d' hd'
          rw [HD.out] at hd'
          obtain rfl := Option.some.inj hd'
          exact ⟨hid, htm, n1, HND.out⟩
         ·
          exact HO.out i (by omega)
        have HN := Lib.hid hnext
        clear hnext
        have hs2 : ∀ x, x ∈ d.Id :: S ↔ ∃ i e, i < k + 1 ∧ j.Open[i]? = some e ∧ e.Id = x := by
         intro x
         rw [List.mem_cons, HM.out x]
         constructor
         ·
          rintro (rfl | ⟨i, e, hi, h1, h2⟩)
          ·
           exact ⟨k, d, by omega, HD.out, rfl⟩
          ·
           exact ⟨i, e, by omega, h1, h2⟩
         ·
          rintro ⟨i, e, hi, h1, h2⟩
          by_cases hik : i = k
          ·
           subst hik
           rw [HD.out] at h1
           obtain rfl := Option.some.inj h1
           exact .inl h2.symm
          ·
           exact .inr ⟨i, e, by omega, h1, h2⟩
        have HS := Lib.hid hs2
        clear hs2
        by_cases hk0 : k = 0
        ·
         subst hk0
         refine wp_region_ext (by kernel_rfl) (by kernel_rfl) ?_
         repeat (first | go_big_quiet_skip | (go_big_quiet_want; first | (refine quiet_load _ _ _ ?_ rfl rfl (fun wq hq => ?_) ?_; rotate_left; (focus (have q0 := hq.cell x0; have q1 := hq.cell x1; go_simp; first | done | rfl)); (try simp only [Act.put, List.setIfInBounds_toArray, List.set_cons_zero, List.set_cons_succ]); go_big_quiet_on) | (refine quiet_lookup _ _ _ _ _ ?_ rfl rfl rfl (fun wq hq => ?_) ?_; rotate_left; (focus (exact (by have c := (hset'.ext hq).look (t := 151) Try.underlying2 Try.underlying151 Try.underlying4 (zb _) hw; rw [hnu] at c; exact c))); (try simp only [Act.put, List.setIfInBounds_toArray, List.set_cons_zero, List.set_cons_succ]); go_big_quiet_on) | (go_big_quiet_op; first | go_big_quiet_on | (refine ⟨_, fun _ _ => rfl, ?_⟩; go_big_quiet_on) | (apply Exists.intro; refine ⟨fun wq hq => ?_, ?_⟩; (focus (first | exact call_same hq (by have c := idOk_c wq d.Id; rw [hid] at c; exact c) | exact call_same hq (by have c := timeOk_c wq d.Due; rw [htm] at c; exact c))); go_big_quiet_on))))
         refine wpQuiet_nil ?_
         intro w1 hx1
         have x0' := hx1.cell x0
         go_wp2_with (at_mapUpdate; refine wpList_put rfl _ _ _ 151 rfl 2 4 Try.underlying2 Try.underlying151 Try.underlying4 _ _ _ _ rfl rfl rfl (hset'.ext hx1) (by unfold maxLen; omega) hw ?_; intro w2 hset2 hgr2)
         have hx2 := (heW.trans hx1).grownOwn hgr2 (by omega)
         go_roundw
         case rel => exact ⟨0 + 1, by omega, by go_num, hx2, hgr2.cell (hx1.cell jb') (by first | (simp; done) | (simp; omega)), _, hset2, HN.out (fun e h => by omega), HS.out⟩
         case measure => simp [intOf]; omega
        ·
         obtain ⟨e, b2, o2, hde, hbo, _, c⟩ := HA.out (k - 1) (by omega)
         obtain ⟨rfl, rfl⟩ : b1 = b2 ∧ o1 = o2 := by simpa using hbo
         have e0' := heW.cell (c 0 _ (by decide) rfl)
         have e1' := heW.cell (c 1 _ (by decide) rfl)
         simp only [Nat.add_zero] at e0'
         have HE := Lib.hid hde
         clear c hde hbo
         have hk1 : decide (0 < k) = true := by simp; omega
         cases hls : dueLess e d
         ·
          refine wp_region_ext (by kernel_rfl) (by kernel_rfl) ?_
          repeat (first | go_big_quiet_skip | (go_big_quiet_want; first | (refine quiet_load _ _ _ ?_ rfl rfl (fun wq hq => ?_) ?_; rotate_left; (focus (have q0 := hq.cell x0; have q1 := hq.cell x1; have q2 := hq.cell jb'; have p0 := hq.cell e0'; have p1 := hq.cell e1'; go_simp; first | done | rfl)); (try simp only [Act.put, List.setIfInBounds_toArray, List.set_cons_zero, List.set_cons_succ]); go_big_quiet_on) | (refine quiet_lookup _ _ _ _ _ ?_ rfl rfl rfl (fun wq hq => ?_) ?_; rotate_left; (focus (exact (by have c := (hset'.ext hq).look (t := 151) Try.underlying2 Try.underlying151 Try.underlying4 (zb _) hw; rw [hnu] at c; exact c))); (try simp only [Act.put, List.setIfInBounds_toArray, List.set_cons_zero, List.set_cons_succ]); go_big_quiet_on) | (go_big_quiet_op; first | go_big_quiet_on | (refine ⟨_, fun _ _ => rfl, ?_⟩; go_big_quiet_on) | (apply Exists.intro; refine ⟨fun wq hq => ?_, ?_⟩; (focus (first | exact call_same hq (by have c := idOk_c wq d.Id; rw [hid] at c; exact c) | exact call_same hq (by have c := timeOk_c wq d.Due; rw [htm] at c; exact c) | exact call_ext hq (by have c := dueLess_c wq e d; rw [hls] at c; exact c))); go_big_quiet_on))))
          refine wpQuiet_nil ?_
          intro w1 hx1
          go_wp2
          go_ret
          exact ⟨congrArg (fun z => Ending.returned (.bool z)) (HB0.out.trans (openOk_false (fun hh => by have := (hh.2 k hlt d HD.out).2.2.1 e (by omega) HE.out; rw [hls] at this; cases this))).symm, heW.trans hx1⟩
         ·
          refine wp_region_ext (by kernel_rfl) (by kernel_rfl) ?_
          repeat (first | go_big_quiet_skip | (go_big_quiet_want; first | (refine quiet_load _ _ _ ?_ rfl rfl (fun wq hq => ?_) ?_; rotate_left; (focus (have q0 := hq.cell x0; have q1 := hq.cell x1; have q2 := hq.cell jb'; have p0 := hq.cell e0'; have p1 := hq.cell e1'; go_simp; first | done | rfl)); (try simp only [Act.put, List.setIfInBounds_toArray, List.set_cons_zero, List.set_cons_succ]); go_big_quiet_on) | (refine quiet_lookup _ _ _ _ _ ?_ rfl rfl rfl (fun wq hq => ?_) ?_; rotate_left; (focus (exact (by have c := (hset'.ext hq).look (t := 151) Try.underlying2 Try.underlying151 Try.underlying4 (zb _) hw; rw [hnu] at c; exact c))); (try simp only [Act.put, List.setIfInBounds_toArray, List.set_cons_zero, List.set_cons_succ]); go_big_quiet_on) | (go_big_quiet_op; first | go_big_quiet_on | (refine ⟨_, fun _ _ => rfl, ?_⟩; go_big_quiet_on) | (apply Exists.intro; refine ⟨fun wq hq => ?_, ?_⟩; (focus (first | exact call_same hq (by have c := idOk_c wq d.Id; rw [hid] at c; exact c) | exact call_same hq (by have c := timeOk_c wq d.Due; rw [htm] at c; exact c) | exact call_ext hq (by have c := dueLess_c wq e d; rw [hls] at c; exact c))); go_big_quiet_on))))
          refine wpQuiet_nil ?_
          intro w1 hx1
          have x0' := hx1.cell x0
          go_wp2_with (at_mapUpdate; refine wpList_put rfl _ _ _ 151 rfl 2 4 Try.underlying2 Try.underlying151 Try.underlying4 _ _ _ _ rfl rfl rfl (hset'.ext hx1) (by unfold maxLen; omega) hw ?_; intro w2 hset2 hgr2)
          have hx2 := (heW.trans hx1).grownOwn hgr2 (by omega)
          go_roundw
          case rel => exact ⟨k + 1, by omega, by go_num, hx2, hgr2.cell (hx1.cell jb') (by first | (simp; done) | (simp; omega)), _, hset2, HN.out (fun e' _ hl => by rw [HE.out] at hl; obtain rfl := Option.some.inj hl; exact hls), HS.out⟩
          case measure => simp [intOf]; omega
    ·
     obtain rfl : k = j.Open.length := by omega
     go_wp2
     go_ret
     exact ⟨congrArg (fun z => Ending.returned (.bool z)) (HB0.out.trans (openOk_true ⟨by omega, HO.out⟩)).symm, he⟩

end Go.Proofs.Ythihnangjghloaa

-- .. where the lease is held.
namespace Go.Proofs.Ythihnangjghloaa
open Go.RowKit Go.G8

set_option maxHeartbeats 3200000 in
set_option maxRecDepth 100000 in
theorem jobsOk2_held (w : World) (j : DJobs) (s : Value) (h : Ints 2 w s (dues j.Open)) (h1 : inb j.Index 0 2000 = true) (h2 : timeOk j.Time = true) (h3 : (j.Holder == 0) = false) (h6 : schedOk j.Holder = true) (h4 : inb j.Epoch 0 1000 = true) (h5 : inb j.Until 0 1001000 = true) (h8 : j.Open.length ≤ 8) : Calls Try.prog 44 #[.agg #[.int .i64 j.Index, .int .i64 j.Time, .int .i64 j.Holder, .int .i64 j.Epoch, .int .i64 j.Until, s]] w (RetV w (.bool (jobsOk2 j))) := by
 obtain ⟨a, cap, rfl, hcap, hm, ha⟩ := h.recs (f := DDue.ints) (fun _ => rfl) (by decide)
 have HA := Lib.hid ha
 clear ha
 unfold maxLen at hm
 have hmm := @run_makeMap Try.prog
 have hb0 : jobsOk2 j = openOk j.Open := by simp [jobsOk2, *]
 have HB0 := Lib.hid hb0
 clear hb0
 have h8' : decide ((8 : Int) < (j.Open.length : Int)) = false := by simp; omega
 have h3' : (j.Holder != 0) = true := by simpa using h3
 ·
  go_enter Try.func44, Try.ntmps44
  go_wp2_with (first | (go_at_call 92; refine (between_c _ _ _ _).mono ?_; rintro e w1 ⟨rfl, rfl⟩) | (go_at_call 78; refine (timeOk_c _ _).mono ?_; rintro e w1 ⟨rfl, rfl⟩) | (go_at_call 80; refine (schedOk_c _ _).mono ?_; rintro e w1 ⟨rfl, rfl⟩))
  clear hmm
  ·
   skip
   go_loopw [47] (fun i wr => ∃ k : Nat, k ≤ j.Open.length ∧ i = .int .i64 k ∧ Ext w wr ∧ wr.cell? ⟨w.heap.size, 5, none⟩ = some (.slice a j.Open.length cap) ∧ (∃ S, BSet Try.prog 2 4 wr (w.heap.size + 1) k S ∧ (∀ i, i < k → OpenAt j.Open i) ∧ (∀ x, x ∈ S ↔ ∃ i e, i < k ∧ j.Open[i]? = some e ∧ e.Id = x))) (fun i _ => j.Open.length - (intOf i).toNat)
   case atStart => exact ⟨0, Nat.zero_le _, rfl, ((Ext.refl _).alloc _).alloc _, by simp, [], by simpa using BSet.made Try.prog 2 4 (w.alloc _), fun i hi => by omega, fun x => by simp⟩
   case round =>
    obtain ⟨k, hk, rfl, he, jb, S, hset, hok, hS⟩ := hrel
    have HO := Lib.hid hok
    have HM := Lib.hid hS
    clear hok hS
    have hsz := he.size
    by_cases hlt : k < j.Open.length
    ·
     obtain ⟨d, b1, o1, hd, rfl, hb1, c⟩ := HA.out k hlt
     have d0 := he.cell (c 0 _ (by decide) rfl)
     have d1 := he.cell (c 1 _ (by decide) rfl)
     simp only [Nat.add_zero] at d0
     have HD := Lib.hid hd
     clear c hd
     go_wp2
     obtain ⟨W, hW⟩ : ∃ W, W = wr.alloc (.cells #[.int .i64 d.Id, .int .i64 d.Due] 132) := ⟨_, rfl⟩
     have x0 : W.cell? ⟨wr.heap.size, 0, none⟩ = some (.int .i64 d.Id) := by rw [hW]; simp
     have x1 : W.cell? ⟨wr.heap.size, 1, none⟩ = some (.int .i64 d.Due) := by rw [hW]; simp
     have jb' : W.cell? ⟨w.heap.size, 5, none⟩ = some (.slice (some ⟨b1, o1, none⟩) j.Open.length cap) := by rw [hW]; exact ((Ext.refl wr).alloc _).cell jb
     have hset' : BSet Try.prog 2 4 W (w.heap.size + 1) k S := by rw [hW]; exact hset.ext ((Ext.refl wr).alloc _)
     have heW : Ext w W := by rw [hW]; exact he.alloc _
     have heR : Ext wr W := by rw [hW]; exact (Ext.refl wr).alloc _
     rw [← hW]
     clear hW
     cases hid : idOk d.Id
     ·
      refine wp_region_ext (by kernel_rfl) (by kernel_rfl) ?_
      repeat (first | go_big_quiet_skip | (go_big_quiet_want; first | (refine quiet_load _ _ _ ?_ rfl rfl (fun wq hq => ?_) ?_; rotate_left; (focus (have q0 := hq.cell x0; have q1 := hq.cell x1; go_simp; first | done | rfl)); (try simp only [Act.put, List.setIfInBounds_toArray, List.set_cons_zero, List.set_cons_succ]); go_big_quiet_on) | (refine quiet_lookup _ _ _ _ _ ?_ rfl rfl rfl (fun wq hq => ?_) ?_; rotate_left; (focus (fail)); (try simp only [Act.put, List.setIfInBounds_toArray, List.set_cons_zero, List.set_cons_succ]); go_big_quiet_on) | (go_big_quiet_op; first | go_big_quiet_on | (refine ⟨_, fun _ _ => rfl, ?_⟩; go_big_quiet_on) | (apply Exists.intro; refine ⟨fun wq hq => ?_, ?_⟩; (focus (first | exact call_same hq (by have c := idOk_c wq d.Id; rw [hid] at c; exact c))); go_big_quiet_on))))
      refine wpQuiet_nil ?_
      intro w1 hx1
      go_wp2
      go_ret
      exact ⟨congrArg (fun z => Ending.returned (.bool z)) (HB0.out.trans (openOk_false (fun hh => by have := (hh.2 k hlt d HD.out).1; rw [hid] at this; cases this))).symm, heW.trans hx1⟩
     ·
      have hw : (Lit.int .i64 d.Id).wf = true := by
       have := inb_true.1 hid
       exact WalkArith.wf_i64 (by omega)
      cases htm : timeOk d.Due
      ·
       refine wp_region_ext (by kernel_rfl) (by kernel_rfl) ?_
       repeat (first | go_big_quiet_skip | (go_big_quiet_want; first | (refine quiet_load _ _ _ ?_ rfl rfl (fun wq hq => ?_) ?_; rotate_left; (focus (have q0 := hq.cell x0; have q1 := hq.cell x1; go_simp; first | done | rfl)); (try simp only [Act.put, List.setIfInBounds_toArray, List.set_cons_zero, List.set_cons_succ]); go_big_quiet_on) | (refine quiet_lookup _ _ _ _ _ ?_ rfl rfl rfl (fun wq hq => ?_) ?_; rotate_left; (focus (fail)); (try simp only [Act.put, List.setIfInBounds_toArray, List.set_cons_zero, List.set_cons_succ]); go_big_quiet_on) | (go_big_quiet_op; first | go_big_quiet_on | (refine ⟨_, fun _ _ => rfl, ?_⟩; go_big_quiet_on) | (apply Exists.intro; refine ⟨fun wq hq => ?_, ?_⟩; (focus (first | exact call_same hq (by have c := idOk_c wq d.Id; rw [hid] at c; exact c) | exact call_same hq (by have c := timeOk_c wq d.Due; rw [htm] at c; exact c))); go_big_quiet_on))))
       refine wpQuiet_nil ?_
       intro w1 hx1
       go_wp2
       go_ret
       exact ⟨congrArg (fun z => Ending.returned (.bool z)) (HB0.out.trans (openOk_false (fun hh => by have := (hh.2 k hlt d HD.out).2.1; rw [htm] at this; cases this))).symm, heW.trans hx1⟩
      ·
       by_cases hmem : d.Id ∈ S
       ·
        have hnu : decide (d.Id ∈ S) = true := by simpa using hmem
        have HMM := Lib.hid hmem
        clear hmem
        refine wp_region_ext (by kernel_rfl) (by kernel_rfl) ?_
        repeat (first | go_big_quiet_skip | (go_big_quiet_want; first | (refine quiet_load _ _ _ ?_ rfl rfl (fun wq hq => ?_) ?_; rotate_left; (focus (have q0 := hq.cell x0; have q1 := hq.cell x1; go_simp; first | done | rfl)); (try simp only [Act.put, List.setIfInBounds_toArray, List.set_cons_zero, List.set_cons_succ]); go_big_quiet_on) | (refine quiet_lookup _ _ _ _ _ ?_ rfl rfl rfl (fun wq hq => ?_) ?_; rotate_left; (focus (exact (by have c := (hset'.ext hq).look (t := 151) Try.underlying2 Try.underlying151 Try.underlying4 (zb _) hw; rw [hnu] at c; exact c))); (try simp only [Act.put, List.setIfInBounds_toArray, List.set_cons_zero, List.set_cons_succ]); go_big_quiet_on) | (go_big_quiet_op; first | go_big_quiet_on | (refine ⟨_, fun _ _ => rfl, ?_⟩; go_big_quiet_on) | (apply Exists.intro; refine ⟨fun wq hq => ?_, ?_⟩; (focus (first | exact call_same hq (by have c := idOk_c wq d.Id; rw [hid] at c; exact c) | exact call_same hq (by have c := timeOk_c wq d.Due; rw [htm] at c; exact c))); go_big_quiet_on))))
        refine wpQuiet_nil ?_
        intro w1 hx1
        go_wp2
        go_ret
        exact ⟨congrArg (fun z => Ending.returned (.bool z)) (HB0.out.trans (openOk_false (fun hh => by obtain ⟨i, e, hi, he', hid'⟩ := (HM.out d.Id).1 HMM.out; exact (hh.2 k hlt d HD.out).2.2.2 i e hi he' hid'))).symm, heW.trans hx1⟩
       ·
        have hnu : decide (d.Id ∈ S) = false := by simpa using hmem
        have hnd : ∀ i e, i < k → j.Open[i]? = some e → e.Id ≠ d.Id := fun i e hi he' hid' => hmem ((HM.out d.Id).2 ⟨i, e, hi, he', hid'⟩)
        have HND := Lib.hid hnd
        clear hmem hnd
        have hnext : (∀ e, 0 < k → j.Open[k - 1]? = some e → dueLess e d = true) → ∀ i, i < k + 1 → OpenAt j.Open i := by
         intro n1 i hi
         by_cases hik : i = k
         ·
          subst hik
          intro d' hd'
          rw [HD.out] at hd'
          obtain rfl := Option.some.inj hd'
          exact ⟨hid, htm, n1, HND.out⟩
         ·
          exact HO.out i (by omega)
        have HN := Lib.hid hnext
        clear hnext
        have hs2 : ∀ x, x ∈ d.Id :: S ↔ ∃ i e, i < k + 1 ∧ j.Open[i]? = some e ∧ e.Id = x := by
         intro x
         rw [List.mem_cons, HM.out x]
         constructor
         ·
          rintro (rfl | ⟨i, e, hi, h1, h2⟩)
          ·
           exact ⟨k, d, by omega, HD.out, rfl⟩
          ·
           exact ⟨i, e, by omega, h1, h2⟩
         ·
          rintro ⟨i, e, hi, h1, h2⟩
          by_cases hik : i = k
          ·
           subst hik
           rw [HD.out] at h1
           obtain rfl := Option.some.inj h1
           exact .inl h2.symm
          ·
           exact .inr ⟨i, e, by omega, h1, h2⟩
        have HS := Lib.hid hs2
        clear hs2
        by_cases hk0 : k = 0
        ·
         subst hk0
         refine wp_region_ext (by kernel_rfl) (by kernel_rfl) ?_
         repeat (first | go_big_quiet_skip | (go_big_quiet_want; first | (refine quiet_load _ _ _ ?_ rfl rfl (fun wq hq => ?_) ?_; rotate_left; (focus (have q0 := hq.cell x0; have q1 := hq.cell x1; go_simp; first | done | rfl)); (try simp only [Act.put, List.setIfInBounds_toArray, List.set_cons_zero, List.set_cons_succ]); go_big_quiet_on) | (refine quiet_lookup _ _ _ _ _ ?_ rfl rfl rfl (fun wq hq => ?_) ?_; rotate_left; (focus (exact (by have c := (hset'.ext hq).look (t := 151) Try.underlying2 Try.underlying151 Try.underlying4 (zb _) hw; rw [hnu] at c; exact c))); (try simp only [Act.put, List.setIfInBounds_toArray, List.set_cons_zero, List.set_cons_succ]); go_big_quiet_on) | (go_big_quiet_op; first | go_big_quiet_on | (refine ⟨_, fun _ _ => rfl, ?_⟩; go_big_quiet_on) | (apply Exists.intro; refine ⟨fun wq hq => ?_, ?_⟩; (focus (first | exact call_same hq (by have c := idOk_c wq d.Id; rw [hid] at c; exact c) | exact call_same hq (by have c := timeOk_c wq d.Due; rw [htm] at c; exact c))); go_big_quiet_on))))
         refine wpQuiet_nil ?_
         intro w1 hx1
         have x0' := hx1.cell x0
         go_wp2_with (at_mapUpdate; refine wpList_put rfl _ _ _ 151 rfl 2 4 Try.underlying2 Try.underlying151 Try.underlying4 _ _ _ _ rfl rfl rfl (hset'.ext hx1) (by unfold maxLen; omega) hw ?_; intro w2 hset2 hgr2)
         have hx2 := (heW.trans hx1).grownOwn hgr2 (by omega)
         go_roundw
         case rel => exact ⟨0 + 1, by omega, by go_num, hx2, hgr2.cell (hx1.cell jb') (by first | (simp; done) | (simp; omega)), _, hset2, HN.out (fun e h => by omega), HS.out⟩
         case measure => simp [intOf]; omega
        ·
         obtain ⟨e, b2, o2, hde, hbo, _, c⟩ := HA.out (k - 1) (by omega)
         obtain ⟨rfl, rfl⟩ : b1 = b2 ∧ o1 = o2 := by simpa using hbo
         have e0' := heW.cell (c 0 _ (by decide) rfl)
         have e1' := heW.cell (c 1 _ (by decide) rfl)
         simp only [Nat.add_zero] at e0'
         have HE := Lib.hid hde
         clear c hde hbo
         have hk1 : decide (0 < k) = true := by simp; omega
         cases hls : dueLess e d
         ·
          refine wp_region_ext (by kernel_rfl) (by kernel_rfl) ?_
          repeat (first | go_big_quiet_skip | (go_big_quiet_want; first | (refine quiet_load _ _ _ ?_ rfl rfl (fun wq hq => ?_) ?_; rotate_left; (focus (have q0 := hq.cell x0; have q1 := hq.cell x1; have q2 := hq.cell jb'; have p0 := hq.cell e0'; have p1 := hq.cell e1'; go_simp; first | done | rfl)); (try simp only [Act.put, List.setIfInBounds_toArray, List.set_cons_zero, List.set_cons_succ]); go_big_quiet_on) | (refine quiet_lookup _ _ _ _ _ ?_ rfl rfl rfl (fun wq hq => ?_) ?_; rotate_left; (focus (exact (by have c := (hset'.ext hq).look (t := 151) Try.underlying2 Try.underlying151 Try.underlying4 (zb _) hw; rw [hnu] at c; exact c))); (try simp only [Act.put, List.setIfInBounds_toArray, List.set_cons_zero, List.set_cons_succ]); go_big_quiet_on) | (go_big_quiet_op; first | go_big_quiet_on | (refine ⟨_, fun _ _ => rfl, ?_⟩; go_big_quiet_on) | (apply Exists.intro; refine ⟨fun wq hq => ?_, ?_⟩; (focus (first | exact call_same hq (by have c := idOk_c wq d.Id; rw [hid] at c; exact c) | exact call_same hq (by have c := timeOk_c wq d.Due; rw [htm] at c; exact c) | exact call_ext hq (by have c := dueLess_c wq e d; rw [hls] at c; exact c))); go_big_quiet_on))))
          refine wpQuiet_nil ?_
          intro w1 hx1
          go_wp2
          go_ret
          exact ⟨congrArg (fun z => Ending.returned (.bool z)) (HB0.out.trans (openOk_false (fun hh => by have := (hh.2 k hlt d HD.out).2.2.1 e (by omega) HE.out; rw [hls] at this; cases this))).symm, heW.trans hx1⟩
         ·
          refine wp_region_ext (by kernel_rfl) (by kernel_rfl) ?_
          repeat (first | go_big_quiet_skip | (go_big_quiet_want; first | (refine quiet_load _ _ _ ?_ rfl rfl (fun wq hq => ?_) ?_; rotate_left; (focus (have q0 := hq.cell x0; have q1 := hq.cell x1; have q2 := hq.cell jb'; have p0 := hq.cell e0'; have p1 := hq.cell e1'; go_simp; first | done | rfl)); (try simp only [Act.put, List.setIfInBounds_toArray, List.set_cons_zero, List.set_cons_succ]); go_big_quiet_on) | (refine quiet_lookup _ _ _ _ _ ?_ rfl rfl rfl (fun wq hq => ?_) ?_; rotate_left; (focus (exact (by have c := (hset'.ext hq).look (t := 151) Try.underlying2 Try.underlying151 Try.underlying4 (zb _) hw; rw [hnu] at c; exact c))); (try simp only [Act.put, List.setIfInBounds_toArray, List.set_cons_zero, List.set_cons_succ]); go_big_quiet_on) | (go_big_quiet_op; first | go_big_quiet_on | (refine ⟨_, fun _ _ => rfl, ?_⟩; go_big_quiet_on) | (apply Exists.intro; refine ⟨fun wq hq => ?_, ?_⟩; (focus (first | exact call_same hq (by have c := idOk_c wq d.Id; rw [hid] at c; exact c) | exact call_same hq (by have c := timeOk_c wq d.Due; rw [htm] at c; exact c) | exact call_ext hq (by have c := dueLess_c wq e d; rw [hls] at c; exact c))); go_big_quiet_on))))
          refine wpQuiet_nil ?_
          intro w1 hx1
          have x0' := hx1.cell x0
          go_wp2_with (at_mapUpdate; refine wpList_put rfl _ _ _ 151 rfl 2 4 Try.underlying2 Try.underlying151 Try.underlying4 _ _ _ _ rfl rfl rfl (hset'.ext hx1) (by unfold maxLen; omega) hw ?_; intro w2 hset2 hgr2)
          have hx2 := (heW.trans hx1).grownOwn hgr2 (by omega)
          go_roundw
          case rel => exact ⟨k + 1, by omega, by go_num, hx2, hgr2.cell (hx1.cell jb') (by first | (simp; done) | (simp; omega)), _, hset2, HN.out (fun e' _ hl => by rw [HE.out] at hl; obtain rfl := Option.some.inj hl; exact hls), HS.out⟩
          case measure => simp [intOf]; omega
    ·
     obtain rfl : k = j.Open.length := by omega
     go_wp2
     go_ret
     exact ⟨congrArg (fun z => Ending.returned (.bool z)) (HB0.out.trans (openOk_true ⟨by omega, HO.out⟩)).symm, he⟩

end Go.Proofs.Ythihnangjghloaa

-- Whether a list of open jobs, with its lease, is valid: the program.
namespace Go.Proofs.Ythihnangjghloaa
open Go.RowKit Go.G8

theorem jobsOk2_c (w : World) (j : DJobs) (s : Value) (h : Ints 2 w s (dues j.Open)) : Calls Try.prog 44 #[.agg #[.int .i64 j.Index, .int .i64 j.Time, .int .i64 j.Holder, .int .i64 j.Epoch, .int .i64 j.Until, s]] w (RetV w (.bool (jobsOk2 j))) := by
 by_cases hg : inb j.Index 0 2000 = true ∧ timeOk j.Time = true ∧ (j.Holder == 0 || schedOk j.Holder) = true ∧ inb j.Epoch 0 1000 = true ∧ inb j.Until 0 1001000 = true ∧ j.Open.length ≤ 8
 ·
  obtain ⟨h1, h2, h3, h4, h5, h8⟩ := hg
  cases h6 : (j.Holder == 0)
  ·
   exact jobsOk2_held w j s h h1 h2 h6 (by simpa [h6] using h3) h4 h5 h8
  ·
   exact jobsOk2_free w j s h h1 h2 h6 h4 h5 h8
 ·
  exact jobsOk2_bad w j s h hg
end Go.Proofs.Ythihnangjghloaa

-- Views: whether one is valid.
namespace Go.Proofs.Ythihnangjghloaa
open Go.RowKit Go.G8

set_option maxHeartbeats 400000 in
theorem sViewOk_c (w : World) (v : DView) (s : Value) (h : Ints 2 w s (dues v.Jobs.Open)) : Calls Try.prog 30 #[.agg #[.int .i64 v.Jobs.Index, .int .i64 v.Jobs.Time, .int .i64 v.Jobs.Holder, .int .i64 v.Jobs.Epoch, .int .i64 v.Jobs.Until, s]] w (RetV w (.bool (jobsOk2 v.Jobs))) := by
 obtain ⟨a, n, c, rfl⟩ := h.shape
 go_enter Try.func30, Try.ntmps30
 go_wp2_with (first | (go_at_call 77; refine (sJobsOk2_c _ v.Jobs _ (h.ext (by (first | exact extT | omega)))).mono ?_; rintro e w1 ⟨rfl, hx1⟩; have hz1 := hx1.size; obtain ⟨hc1, hf1⟩ := hx1.cells; (repeat (first | simp only [World.size_alloc] at hz1 hc1 hf1 | simp only [World.size_setCell] at hz1 hc1 hf1)); have hy1_0 : w.heap.size < w1.heap.size := (by omega)))
 go_ret
 refine ⟨rfl, ?_⟩
 (first | exact extT | omega)

set_option maxHeartbeats 400000 in
theorem viewOk_c (w : World) (v : DView) (s : Value) (h : Ints 2 w s (dues v.Jobs.Open)) : Calls Try.prog 43 #[.agg #[.int .i64 v.Jobs.Index, .int .i64 v.Jobs.Time, .int .i64 v.Jobs.Holder, .int .i64 v.Jobs.Epoch, .int .i64 v.Jobs.Until, s]] w (RetV w (.bool (jobsOk2 v.Jobs))) := by
 obtain ⟨a, n, c, rfl⟩ := h.shape
 go_enter Try.func43, Try.ntmps43
 go_wp2_with (first | (go_at_call 44; refine (jobsOk2_c _ v.Jobs _ (h.ext (by (first | exact extT | omega)))).mono ?_; rintro e w1 ⟨rfl, hx1⟩; have hz1 := hx1.size; obtain ⟨hc1, hf1⟩ := hx1.cells; (repeat (first | simp only [World.size_alloc] at hz1 hc1 hf1 | simp only [World.size_setCell] at hz1 hc1 hf1)); have hy1_0 : w.heap.size < w1.heap.size := (by omega)))
 go_ret
 refine ⟨rfl, ?_⟩
 (first | exact extT | omega)

end Go.Proofs.Ythihnangjghloaa

-- Views: stale, and the estimate of the time.
namespace Go.Proofs.Ythihnangjghloaa
open Go.RowKit Go.G8

end Go.Proofs.Ythihnangjghloaa

-- Views: free, and held by one.
namespace Go.Proofs.Ythihnangjghloaa
open Go.RowKit Go.G8

end Go.Proofs.Ythihnangjghloaa

-- Operations: right or not.
namespace Go.Proofs.Ythihnangjghloaa
open Go.RowKit Go.G8


def opZ (o : DOp) : Bool := decide (o.Kind = 0 ∧ o.A = 0 ∧ o.B = 0 ∧ o.C = 0 ∧ o.D = 0)
def askOk (a : DAsk) : Bool := inb a.Client 2 5 && (inb a.Seq 1 2000 && opOk a.Op)
noncomputable def schedOkS (s : DSched) : Bool := schedOk s.Id && (inb s.Seq 0 2000 && (jobsOk2 s.View.Jobs && (inb s.Index 0 2000 && (if s.Busy then decide (0 < s.Seq) && (opOk s.Op && (decide (s.Op.Kind = 4) || decide (s.Op.Kind = 5))) else opZ s.Op))))
theorem sViewOk_l (w : World) (c0_0 : Int) (c0_1 : Int) (c0_2 : Int) (c0_3 : Int) (c0_4 : Int) (s0_5 : Value) (l0_5 : List DDue) (h0_5 : Ints 2 w s0_5 (dues l0_5)) :
  Calls Try.prog 30 #[.agg #[.int .i64 c0_0, .int .i64 c0_1, .int .i64 c0_2, .int .i64 c0_3, .int .i64 c0_4, s0_5]] w (RetV w (.bool (jobsOk2 (⟨⟨c0_0, c0_1, c0_2, c0_3, c0_4, l0_5⟩⟩ : DView).Jobs))) := sViewOk_c w (⟨⟨c0_0, c0_1, c0_2, c0_3, c0_4, l0_5⟩⟩ : DView) s0_5 h0_5
theorem viewOk_l (w : World) (c0_0 : Int) (c0_1 : Int) (c0_2 : Int) (c0_3 : Int) (c0_4 : Int) (s0_5 : Value) (l0_5 : List DDue) (h0_5 : Ints 2 w s0_5 (dues l0_5)) :
  Calls Try.prog 43 #[.agg #[.int .i64 c0_0, .int .i64 c0_1, .int .i64 c0_2, .int .i64 c0_3, .int .i64 c0_4, s0_5]] w (RetV w (.bool (jobsOk2 (⟨⟨c0_0, c0_1, c0_2, c0_3, c0_4, l0_5⟩⟩ : DView).Jobs))) := viewOk_c w (⟨⟨c0_0, c0_1, c0_2, c0_3, c0_4, l0_5⟩⟩ : DView) s0_5 h0_5
set_option maxHeartbeats 1600000 in
set_option maxRecDepth 100000 in
theorem l7Key_c (w : World) (c0_0 : Int) :
  Calls Try.prog 132 #[.int .i64 c0_0] w (fun e w' => e = .returned (.bool (inb c0_0 0 9)) ∧ w = w') := by
 go_enter Try.func132, Try.ntmps132
 go_wp2_with (first | (go_at_call 96; refine (l1In_c _ _ _ _  ).mono ?_; rintro e wa ⟨rfl, rfl⟩))
 all_goals
  go_ret
  refine ⟨by first | rfl | (simp [*]; done) | (simp [*]; omega) | (simp_all [bq, bn]; done) | (simp_all [bq, bn]; omega), by rfl⟩
set_option maxHeartbeats 1600000 in
set_option maxRecDepth 100000 in
theorem l7Value_c (w : World) (c0_0 : Int) :
  Calls Try.prog 133 #[.int .i64 c0_0] w (fun e w' => e = .returned (.bool (inb c0_0 0 999)) ∧ w = w') := by
 go_enter Try.func133, Try.ntmps133
 go_wp2_with (first | (go_at_call 96; refine (l1In_c _ _ _ _  ).mono ?_; rintro e wa ⟨rfl, rfl⟩))
 all_goals
  go_ret
  refine ⟨by first | rfl | (simp [*]; done) | (simp [*]; omega) | (simp_all [bq, bn]; done) | (simp_all [bq, bn]; omega), by rfl⟩
set_option maxHeartbeats 1600000 in
set_option maxRecDepth 100000 in
theorem keyOk_c (w : World) (c0_0 : Int) :
  Calls Try.prog 137 #[.int .i64 c0_0] w (fun e w' => e = .returned (.bool (inb c0_0 0 9)) ∧ w = w') := by
 go_enter Try.func137, Try.ntmps137
 go_wp2_with (first | (go_at_call 92; refine (between_c _ _ _ _  ).mono ?_; rintro e wa ⟨rfl, rfl⟩))
 all_goals
  go_ret
  refine ⟨by first | rfl | (simp [*]; done) | (simp [*]; omega) | (simp_all [bq, bn]; done) | (simp_all [bq, bn]; omega), by rfl⟩
set_option maxHeartbeats 1600000 in
set_option maxRecDepth 100000 in
theorem valueOk_c (w : World) (c0_0 : Int) :
  Calls Try.prog 138 #[.int .i64 c0_0] w (fun e w' => e = .returned (.bool (inb c0_0 0 999)) ∧ w = w') := by
 go_enter Try.func138, Try.ntmps138
 go_wp2_with (first | (go_at_call 92; refine (between_c _ _ _ _  ).mono ?_; rintro e wa ⟨rfl, rfl⟩))
 all_goals
  go_ret
  refine ⟨by first | rfl | (simp [*]; done) | (simp [*]; omega) | (simp_all [bq, bn]; done) | (simp_all [bq, bn]; omega), by rfl⟩
set_option maxHeartbeats 1600000 in
set_option maxRecDepth 100000 in
theorem sOpOk_c (w : World) (c0_0 : Int) (c0_1 : Int) (c0_2 : Int) (c0_3 : Int) (c0_4 : Int) :
  Calls Try.prog 100 #[.agg #[.int .i64 c0_0, .int .i64 c0_1, .int .i64 c0_2, .int .i64 c0_3, .int .i64 c0_4]] w (RetV w (.bool (opOk (⟨c0_0, c0_1, c0_2, c0_3, c0_4⟩ : DOp)))) := by
 go_enter Try.func100, Try.ntmps100
 go_wp2_with (first | (go_at_call 132; refine (l7Key_c _ _  ).mono ?_; rintro e wa ⟨rfl, rfl⟩) | (go_at_call 133; refine (l7Value_c _ _  ).mono ?_; rintro e wb ⟨rfl, rfl⟩) | (go_at_call 134; refine (l7Id_c _ _  ).mono ?_; rintro e wc ⟨rfl, rfl⟩) | (go_at_call 117; refine (sTimeOk_c _ _  ).mono ?_; rintro e wd ⟨rfl, rfl⟩) | (go_at_call 96; refine (l1In_c _ _ _ _  ).mono ?_; rintro e we ⟨rfl, rfl⟩))
 all_goals
  go_ret
  refine ⟨by first | rfl | (simp [opOk, *]; done) | (simp [opOk, *]; omega) | (simp_all [opOk, bq, bn]; done) | (simp_all [opOk, bq, bn]; omega), ?_⟩
  (first | exact extT | omega)
set_option maxHeartbeats 1600000 in
set_option maxRecDepth 100000 in
theorem opOk_c (w : World) (c0_0 : Int) (c0_1 : Int) (c0_2 : Int) (c0_3 : Int) (c0_4 : Int) :
  Calls Try.prog 104 #[.agg #[.int .i64 c0_0, .int .i64 c0_1, .int .i64 c0_2, .int .i64 c0_3, .int .i64 c0_4]] w (RetV w (.bool (opOk (⟨c0_0, c0_1, c0_2, c0_3, c0_4⟩ : DOp)))) := by
 go_enter Try.func104, Try.ntmps104
 go_wp2_with (first | (go_at_call 137; refine (keyOk_c _ _  ).mono ?_; rintro e wa ⟨rfl, rfl⟩) | (go_at_call 138; refine (valueOk_c _ _  ).mono ?_; rintro e wb ⟨rfl, rfl⟩) | (go_at_call 93; refine (idOk_c _ _  ).mono ?_; rintro e wc ⟨rfl, rfl⟩) | (go_at_call 78; refine (timeOk_c _ _  ).mono ?_; rintro e wd ⟨rfl, rfl⟩) | (go_at_call 92; refine (between_c _ _ _ _  ).mono ?_; rintro e we ⟨rfl, rfl⟩))
 all_goals
  go_ret
  refine ⟨by first | rfl | (simp [opOk, *]; done) | (simp [opOk, *]; omega) | (simp_all [opOk, bq, bn]; done) | (simp_all [opOk, bq, bn]; omega), ?_⟩
  (first | exact extT | omega)

end Go.Proofs.Ythihnangjghloaa

-- Schedulers: right or not.
namespace Go.Proofs.Ythihnangjghloaa
open Go.RowKit Go.G8

set_option maxHeartbeats 1600000 in
set_option maxRecDepth 100000 in
theorem sSchedOk_c (w : World) (c0_0 : Int) (c0_1 : Int) (c0_2 : Int) (c0_3 : Int) (c0_4 : Int) (c0_5 : Int) (c0_6 : Int) (s0_7 : Value) (l0_7 : List DDue) (c0_8 : Bool) (c0_9 : Int) (c0_10 : Int) (c0_11 : Int) (c0_12 : Int) (c0_13 : Int) (c0_14 : Int) (h0_7 : Ints 2 w s0_7 (dues l0_7)) :
  Calls Try.prog 49 #[.agg #[.int .i64 c0_0, .int .i64 c0_1, .int .i64 c0_2, .int .i64 c0_3, .int .i64 c0_4, .int .i64 c0_5, .int .i64 c0_6, s0_7, .bool c0_8, .int .i64 c0_9, .int .i64 c0_10, .int .i64 c0_11, .int .i64 c0_12, .int .i64 c0_13, .int .i64 c0_14]] w (RetV w (.bool (schedOkS (⟨c0_0, c0_1, ⟨⟨c0_2, c0_3, c0_4, c0_5, c0_6, l0_7⟩⟩, c0_8, ⟨c0_9, c0_10, c0_11, c0_12, c0_13⟩, c0_14⟩ : DSched)))) := by
 obtain ⟨a0_7, n0_7, k0_7, rfl⟩ := h0_7.shape
 go_enter Try.func49, Try.ntmps49
 go_wp2_with (first | (go_at_call 99; refine (l16Who_c _ _  ).mono ?_; rintro e wa ⟨rfl, rfl⟩) | (go_at_call 96; refine (l1In_c _ _ _ _  ).mono ?_; rintro e wb ⟨rfl, rfl⟩) | (go_at_call 30; refine (sViewOk_l _ _ _ _ _ _ _ _ (by first | (with_reducible exact Ints.ext (by assumption) (by (first | exact extT | omega))) | (with_reducible exact Ints.ext (OwnI.ints (by assumption)) (by (first | exact extT | omega))) | with_reducible exact rnil_dues _ _) ).mono ?_; rintro e wc ⟨rfl, hxc⟩; have hzc := hxc.size; obtain ⟨hcc, hfc⟩ := hxc.cells; (repeat (first | simp only [World.size_alloc] at hzc hcc hfc | simp only [World.size_setCell] at hzc hcc hfc)); (try have hcrc_a := fun u v (h0 : wa.heap.size ≤ u) h => hcc u v h); (try have hfrc_a := fun u v (h0 : wa.heap.size ≤ u) h => hfc u v h); (try have hyc_a_0 : wa.heap.size < wc.heap.size := (by omega)); (try have hyc_a_1 : wa.heap.size + 1 < wc.heap.size := (by omega)); (try have hyc_a_2 : wa.heap.size + 1 + 1 < wc.heap.size := (by omega)); (try have hcrc_b := fun u v (h0 : wb.heap.size ≤ u) h => hcc u v h); (try have hfrc_b := fun u v (h0 : wb.heap.size ≤ u) h => hfc u v h); (try have hyc_b_0 : wb.heap.size < wc.heap.size := (by omega)); (try have hyc_b_1 : wb.heap.size + 1 < wc.heap.size := (by omega)); (try have hyc_b_2 : wb.heap.size + 1 + 1 < wc.heap.size := (by omega)); (try have hcrc_d := fun u v (h0 : wd.heap.size ≤ u) h => hcc u v h); (try have hfrc_d := fun u v (h0 : wd.heap.size ≤ u) h => hfc u v h); (try have hyc_d_0 : wd.heap.size < wc.heap.size := (by omega)); (try have hyc_d_1 : wd.heap.size + 1 < wc.heap.size := (by omega)); (try have hyc_d_2 : wd.heap.size + 1 + 1 < wc.heap.size := (by omega)); have Pc0_0 := hcc (w.heap.size) 0 (by omega); have Rc0_0 := hfc (w.heap.size) 0 (by omega); have Pc0_1 := hcc (w.heap.size) 1 (by omega); have Rc0_1 := hfc (w.heap.size) 1 (by omega); have Pc0_2 := hcc (w.heap.size) 2 (by omega); have Rc0_2 := hfc (w.heap.size) 2 (by omega); have Pc0_3 := hcc (w.heap.size) 3 (by omega); have Rc0_3 := hfc (w.heap.size) 3 (by omega); have Pc0_4 := hcc (w.heap.size) 4 (by omega); have Rc0_4 := hfc (w.heap.size) 4 (by omega); have Pc0_5 := hcc (w.heap.size) 5 (by omega); have Rc0_5 := hfc (w.heap.size) 5 (by omega); have Pc0_6 := hcc (w.heap.size) 6 (by omega); have Rc0_6 := hfc (w.heap.size) 6 (by omega); have Pc0_7 := hcc (w.heap.size) 7 (by omega); have Rc0_7 := hfc (w.heap.size) 7 (by omega); have Pc0_8 := hcc (w.heap.size) 8 (by omega); have Rc0_8 := hfc (w.heap.size) 8 (by omega); have Pc0_9 := hcc (w.heap.size) 9 (by omega); have Rc0_9 := hfc (w.heap.size) 9 (by omega); have Pc0_10 := hcc (w.heap.size) 10 (by omega); have Rc0_10 := hfc (w.heap.size) 10 (by omega); have Pc0_11 := hcc (w.heap.size) 11 (by omega); have Rc0_11 := hfc (w.heap.size) 11 (by omega); have Pc0_12 := hcc (w.heap.size) 12 (by omega); have Rc0_12 := hfc (w.heap.size) 12 (by omega); have Pc0_13 := hcc (w.heap.size) 13 (by omega); have Rc0_13 := hfc (w.heap.size) 13 (by omega); have Pc0_14 := hcc (w.heap.size) 14 (by omega); have Rc0_14 := hfc (w.heap.size) 14 (by omega); have hyc__0 : w.heap.size < wc.heap.size := (by omega); clear hcc hfc; (try simp [*] at Pc0_0); (try simp [*] at Rc0_0); (try simp [*] at Pc0_1); (try simp [*] at Rc0_1); (try simp [*] at Pc0_2); (try simp [*] at Rc0_2); (try simp [*] at Pc0_3); (try simp [*] at Rc0_3); (try simp [*] at Pc0_4); (try simp [*] at Rc0_4); (try simp [*] at Pc0_5); (try simp [*] at Rc0_5); (try simp [*] at Pc0_6); (try simp [*] at Rc0_6); (try simp [*] at Pc0_7); (try simp [*] at Rc0_7); (try simp [*] at Pc0_8); (try simp [*] at Rc0_8); (try simp [*] at Pc0_9); (try simp [*] at Rc0_9); (try simp [*] at Pc0_10); (try simp [*] at Rc0_10); (try simp [*] at Pc0_11); (try simp [*] at Rc0_11); (try simp [*] at Pc0_12); (try simp [*] at Rc0_12); (try simp [*] at Pc0_13); (try simp [*] at Rc0_13); (try simp [*] at Pc0_14); (try simp [*] at Rc0_14)) | (go_at_call 100; refine (sOpOk_c _ _ _ _ _ _  ).mono ?_; rintro e wd ⟨rfl, hxd⟩; have hzd := hxd.size; obtain ⟨hcd, hfd⟩ := hxd.cells; (repeat (first | simp only [World.size_alloc] at hzd hcd hfd | simp only [World.size_setCell] at hzd hcd hfd)); (try have hcrd_a := fun u v (h0 : wa.heap.size ≤ u) h => hcd u v h); (try have hfrd_a := fun u v (h0 : wa.heap.size ≤ u) h => hfd u v h); (try have hyd_a_0 : wa.heap.size < wd.heap.size := (by omega)); (try have hyd_a_1 : wa.heap.size + 1 < wd.heap.size := (by omega)); (try have hyd_a_2 : wa.heap.size + 1 + 1 < wd.heap.size := (by omega)); (try have hcrd_b := fun u v (h0 : wb.heap.size ≤ u) h => hcd u v h); (try have hfrd_b := fun u v (h0 : wb.heap.size ≤ u) h => hfd u v h); (try have hyd_b_0 : wb.heap.size < wd.heap.size := (by omega)); (try have hyd_b_1 : wb.heap.size + 1 < wd.heap.size := (by omega)); (try have hyd_b_2 : wb.heap.size + 1 + 1 < wd.heap.size := (by omega)); (try have hcrd_c := fun u v (h0 : wc.heap.size ≤ u) h => hcd u v h); (try have hfrd_c := fun u v (h0 : wc.heap.size ≤ u) h => hfd u v h); (try have hyd_c_0 : wc.heap.size < wd.heap.size := (by omega)); (try have hyd_c_1 : wc.heap.size + 1 < wd.heap.size := (by omega)); (try have hyd_c_2 : wc.heap.size + 1 + 1 < wd.heap.size := (by omega)); have Pd0_0 := hcd (w.heap.size) 0 (by omega); have Rd0_0 := hfd (w.heap.size) 0 (by omega); have Pd0_1 := hcd (w.heap.size) 1 (by omega); have Rd0_1 := hfd (w.heap.size) 1 (by omega); have Pd0_2 := hcd (w.heap.size) 2 (by omega); have Rd0_2 := hfd (w.heap.size) 2 (by omega); have Pd0_3 := hcd (w.heap.size) 3 (by omega); have Rd0_3 := hfd (w.heap.size) 3 (by omega); have Pd0_4 := hcd (w.heap.size) 4 (by omega); have Rd0_4 := hfd (w.heap.size) 4 (by omega); have Pd0_5 := hcd (w.heap.size) 5 (by omega); have Rd0_5 := hfd (w.heap.size) 5 (by omega); have Pd0_6 := hcd (w.heap.size) 6 (by omega); have Rd0_6 := hfd (w.heap.size) 6 (by omega); have Pd0_7 := hcd (w.heap.size) 7 (by omega); have Rd0_7 := hfd (w.heap.size) 7 (by omega); have Pd0_8 := hcd (w.heap.size) 8 (by omega); have Rd0_8 := hfd (w.heap.size) 8 (by omega); have Pd0_9 := hcd (w.heap.size) 9 (by omega); have Rd0_9 := hfd (w.heap.size) 9 (by omega); have Pd0_10 := hcd (w.heap.size) 10 (by omega); have Rd0_10 := hfd (w.heap.size) 10 (by omega); have Pd0_11 := hcd (w.heap.size) 11 (by omega); have Rd0_11 := hfd (w.heap.size) 11 (by omega); have Pd0_12 := hcd (w.heap.size) 12 (by omega); have Rd0_12 := hfd (w.heap.size) 12 (by omega); have Pd0_13 := hcd (w.heap.size) 13 (by omega); have Rd0_13 := hfd (w.heap.size) 13 (by omega); have Pd0_14 := hcd (w.heap.size) 14 (by omega); have Rd0_14 := hfd (w.heap.size) 14 (by omega); have hyd__0 : w.heap.size < wd.heap.size := (by omega); clear hcd hfd; (try simp [*] at Pd0_0); (try simp [*] at Rd0_0); (try simp [*] at Pd0_1); (try simp [*] at Rd0_1); (try simp [*] at Pd0_2); (try simp [*] at Rd0_2); (try simp [*] at Pd0_3); (try simp [*] at Rd0_3); (try simp [*] at Pd0_4); (try simp [*] at Rd0_4); (try simp [*] at Pd0_5); (try simp [*] at Rd0_5); (try simp [*] at Pd0_6); (try simp [*] at Rd0_6); (try simp [*] at Pd0_7); (try simp [*] at Rd0_7); (try simp [*] at Pd0_8); (try simp [*] at Rd0_8); (try simp [*] at Pd0_9); (try simp [*] at Rd0_9); (try simp [*] at Pd0_10); (try simp [*] at Rd0_10); (try simp [*] at Pd0_11); (try simp [*] at Rd0_11); (try simp [*] at Pd0_12); (try simp [*] at Rd0_12); (try simp [*] at Pd0_13); (try simp [*] at Rd0_13); (try simp [*] at Pd0_14); (try simp [*] at Rd0_14)))
 all_goals
  go_ret
  refine ⟨by first | rfl | (simp [schedOkS, opZ, inb, *]; done) | (simp [schedOkS, opZ, inb, *]; omega) | (simp_all [schedOkS, opZ, inb, bq, bn]; done) | (simp_all [schedOkS, opZ, inb, bq, bn]; omega), ?_⟩
  (first | exact extT | omega)
set_option maxHeartbeats 1600000 in
set_option maxRecDepth 100000 in
theorem schedOk_cS (w : World) (c0_0 : Int) (c0_1 : Int) (c0_2 : Int) (c0_3 : Int) (c0_4 : Int) (c0_5 : Int) (c0_6 : Int) (s0_7 : Value) (l0_7 : List DDue) (c0_8 : Bool) (c0_9 : Int) (c0_10 : Int) (c0_11 : Int) (c0_12 : Int) (c0_13 : Int) (c0_14 : Int) (h0_7 : Ints 2 w s0_7 (dues l0_7)) :
  Calls Try.prog 58 #[.agg #[.int .i64 c0_0, .int .i64 c0_1, .int .i64 c0_2, .int .i64 c0_3, .int .i64 c0_4, .int .i64 c0_5, .int .i64 c0_6, s0_7, .bool c0_8, .int .i64 c0_9, .int .i64 c0_10, .int .i64 c0_11, .int .i64 c0_12, .int .i64 c0_13, .int .i64 c0_14]] w (RetV w (.bool (schedOkS (⟨c0_0, c0_1, ⟨⟨c0_2, c0_3, c0_4, c0_5, c0_6, l0_7⟩⟩, c0_8, ⟨c0_9, c0_10, c0_11, c0_12, c0_13⟩, c0_14⟩ : DSched)))) := by
 obtain ⟨a0_7, n0_7, k0_7, rfl⟩ := h0_7.shape
 go_enter Try.func58, Try.ntmps58
 go_wp2_with (first | (go_at_call 80; refine (schedOk_c _ _  ).mono ?_; rintro e wa ⟨rfl, rfl⟩) | (go_at_call 92; refine (between_c _ _ _ _  ).mono ?_; rintro e wb ⟨rfl, rfl⟩) | (go_at_call 43; refine (viewOk_l _ _ _ _ _ _ _ _ (by first | (with_reducible exact Ints.ext (by assumption) (by (first | exact extT | omega))) | (with_reducible exact Ints.ext (OwnI.ints (by assumption)) (by (first | exact extT | omega))) | with_reducible exact rnil_dues _ _) ).mono ?_; rintro e wc ⟨rfl, hxc⟩; have hzc := hxc.size; obtain ⟨hcc, hfc⟩ := hxc.cells; (repeat (first | simp only [World.size_alloc] at hzc hcc hfc | simp only [World.size_setCell] at hzc hcc hfc)); (try have hcrc_a := fun u v (h0 : wa.heap.size ≤ u) h => hcc u v h); (try have hfrc_a := fun u v (h0 : wa.heap.size ≤ u) h => hfc u v h); (try have hyc_a_0 : wa.heap.size < wc.heap.size := (by omega)); (try have hyc_a_1 : wa.heap.size + 1 < wc.heap.size := (by omega)); (try have hyc_a_2 : wa.heap.size + 1 + 1 < wc.heap.size := (by omega)); (try have hcrc_b := fun u v (h0 : wb.heap.size ≤ u) h => hcc u v h); (try have hfrc_b := fun u v (h0 : wb.heap.size ≤ u) h => hfc u v h); (try have hyc_b_0 : wb.heap.size < wc.heap.size := (by omega)); (try have hyc_b_1 : wb.heap.size + 1 < wc.heap.size := (by omega)); (try have hyc_b_2 : wb.heap.size + 1 + 1 < wc.heap.size := (by omega)); (try have hcrc_d := fun u v (h0 : wd.heap.size ≤ u) h => hcc u v h); (try have hfrc_d := fun u v (h0 : wd.heap.size ≤ u) h => hfc u v h); (try have hyc_d_0 : wd.heap.size < wc.heap.size := (by omega)); (try have hyc_d_1 : wd.heap.size + 1 < wc.heap.size := (by omega)); (try have hyc_d_2 : wd.heap.size + 1 + 1 < wc.heap.size := (by omega)); have Pc0_0 := hcc (w.heap.size) 0 (by omega); have Rc0_0 := hfc (w.heap.size) 0 (by omega); have Pc0_1 := hcc (w.heap.size) 1 (by omega); have Rc0_1 := hfc (w.heap.size) 1 (by omega); have Pc0_2 := hcc (w.heap.size) 2 (by omega); have Rc0_2 := hfc (w.heap.size) 2 (by omega); have Pc0_3 := hcc (w.heap.size) 3 (by omega); have Rc0_3 := hfc (w.heap.size) 3 (by omega); have Pc0_4 := hcc (w.heap.size) 4 (by omega); have Rc0_4 := hfc (w.heap.size) 4 (by omega); have Pc0_5 := hcc (w.heap.size) 5 (by omega); have Rc0_5 := hfc (w.heap.size) 5 (by omega); have Pc0_6 := hcc (w.heap.size) 6 (by omega); have Rc0_6 := hfc (w.heap.size) 6 (by omega); have Pc0_7 := hcc (w.heap.size) 7 (by omega); have Rc0_7 := hfc (w.heap.size) 7 (by omega); have Pc0_8 := hcc (w.heap.size) 8 (by omega); have Rc0_8 := hfc (w.heap.size) 8 (by omega); have Pc0_9 := hcc (w.heap.size) 9 (by omega); have Rc0_9 := hfc (w.heap.size) 9 (by omega); have Pc0_10 := hcc (w.heap.size) 10 (by omega); have Rc0_10 := hfc (w.heap.size) 10 (by omega); have Pc0_11 := hcc (w.heap.size) 11 (by omega); have Rc0_11 := hfc (w.heap.size) 11 (by omega); have Pc0_12 := hcc (w.heap.size) 12 (by omega); have Rc0_12 := hfc (w.heap.size) 12 (by omega); have Pc0_13 := hcc (w.heap.size) 13 (by omega); have Rc0_13 := hfc (w.heap.size) 13 (by omega); have Pc0_14 := hcc (w.heap.size) 14 (by omega); have Rc0_14 := hfc (w.heap.size) 14 (by omega); have hyc__0 : w.heap.size < wc.heap.size := (by omega); clear hcc hfc; (try simp [*] at Pc0_0); (try simp [*] at Rc0_0); (try simp [*] at Pc0_1); (try simp [*] at Rc0_1); (try simp [*] at Pc0_2); (try simp [*] at Rc0_2); (try simp [*] at Pc0_3); (try simp [*] at Rc0_3); (try simp [*] at Pc0_4); (try simp [*] at Rc0_4); (try simp [*] at Pc0_5); (try simp [*] at Rc0_5); (try simp [*] at Pc0_6); (try simp [*] at Rc0_6); (try simp [*] at Pc0_7); (try simp [*] at Rc0_7); (try simp [*] at Pc0_8); (try simp [*] at Rc0_8); (try simp [*] at Pc0_9); (try simp [*] at Rc0_9); (try simp [*] at Pc0_10); (try simp [*] at Rc0_10); (try simp [*] at Pc0_11); (try simp [*] at Rc0_11); (try simp [*] at Pc0_12); (try simp [*] at Rc0_12); (try simp [*] at Pc0_13); (try simp [*] at Rc0_13); (try simp [*] at Pc0_14); (try simp [*] at Rc0_14)) | (go_at_call 104; refine (opOk_c _ _ _ _ _ _  ).mono ?_; rintro e wd ⟨rfl, hxd⟩; have hzd := hxd.size; obtain ⟨hcd, hfd⟩ := hxd.cells; (repeat (first | simp only [World.size_alloc] at hzd hcd hfd | simp only [World.size_setCell] at hzd hcd hfd)); (try have hcrd_a := fun u v (h0 : wa.heap.size ≤ u) h => hcd u v h); (try have hfrd_a := fun u v (h0 : wa.heap.size ≤ u) h => hfd u v h); (try have hyd_a_0 : wa.heap.size < wd.heap.size := (by omega)); (try have hyd_a_1 : wa.heap.size + 1 < wd.heap.size := (by omega)); (try have hyd_a_2 : wa.heap.size + 1 + 1 < wd.heap.size := (by omega)); (try have hcrd_b := fun u v (h0 : wb.heap.size ≤ u) h => hcd u v h); (try have hfrd_b := fun u v (h0 : wb.heap.size ≤ u) h => hfd u v h); (try have hyd_b_0 : wb.heap.size < wd.heap.size := (by omega)); (try have hyd_b_1 : wb.heap.size + 1 < wd.heap.size := (by omega)); (try have hyd_b_2 : wb.heap.size + 1 + 1 < wd.heap.size := (by omega)); (try have hcrd_c := fun u v (h0 : wc.heap.size ≤ u) h => hcd u v h); (try have hfrd_c := fun u v (h0 : wc.heap.size ≤ u) h => hfd u v h); (try have hyd_c_0 : wc.heap.size < wd.heap.size := (by omega)); (try have hyd_c_1 : wc.heap.size + 1 < wd.heap.size := (by omega)); (try have hyd_c_2 : wc.heap.size + 1 + 1 < wd.heap.size := (by omega)); have Pd0_0 := hcd (w.heap.size) 0 (by omega); have Rd0_0 := hfd (w.heap.size) 0 (by omega); have Pd0_1 := hcd (w.heap.size) 1 (by omega); have Rd0_1 := hfd (w.heap.size) 1 (by omega); have Pd0_2 := hcd (w.heap.size) 2 (by omega); have Rd0_2 := hfd (w.heap.size) 2 (by omega); have Pd0_3 := hcd (w.heap.size) 3 (by omega); have Rd0_3 := hfd (w.heap.size) 3 (by omega); have Pd0_4 := hcd (w.heap.size) 4 (by omega); have Rd0_4 := hfd (w.heap.size) 4 (by omega); have Pd0_5 := hcd (w.heap.size) 5 (by omega); have Rd0_5 := hfd (w.heap.size) 5 (by omega); have Pd0_6 := hcd (w.heap.size) 6 (by omega); have Rd0_6 := hfd (w.heap.size) 6 (by omega); have Pd0_7 := hcd (w.heap.size) 7 (by omega); have Rd0_7 := hfd (w.heap.size) 7 (by omega); have Pd0_8 := hcd (w.heap.size) 8 (by omega); have Rd0_8 := hfd (w.heap.size) 8 (by omega); have Pd0_9 := hcd (w.heap.size) 9 (by omega); have Rd0_9 := hfd (w.heap.size) 9 (by omega); have Pd0_10 := hcd (w.heap.size) 10 (by omega); have Rd0_10 := hfd (w.heap.size) 10 (by omega); have Pd0_11 := hcd (w.heap.size) 11 (by omega); have Rd0_11 := hfd (w.heap.size) 11 (by omega); have Pd0_12 := hcd (w.heap.size) 12 (by omega); have Rd0_12 := hfd (w.heap.size) 12 (by omega); have Pd0_13 := hcd (w.heap.size) 13 (by omega); have Rd0_13 := hfd (w.heap.size) 13 (by omega); have Pd0_14 := hcd (w.heap.size) 14 (by omega); have Rd0_14 := hfd (w.heap.size) 14 (by omega); have hyd__0 : w.heap.size < wd.heap.size := (by omega); clear hcd hfd; (try simp [*] at Pd0_0); (try simp [*] at Rd0_0); (try simp [*] at Pd0_1); (try simp [*] at Rd0_1); (try simp [*] at Pd0_2); (try simp [*] at Rd0_2); (try simp [*] at Pd0_3); (try simp [*] at Rd0_3); (try simp [*] at Pd0_4); (try simp [*] at Rd0_4); (try simp [*] at Pd0_5); (try simp [*] at Rd0_5); (try simp [*] at Pd0_6); (try simp [*] at Rd0_6); (try simp [*] at Pd0_7); (try simp [*] at Rd0_7); (try simp [*] at Pd0_8); (try simp [*] at Rd0_8); (try simp [*] at Pd0_9); (try simp [*] at Rd0_9); (try simp [*] at Pd0_10); (try simp [*] at Rd0_10); (try simp [*] at Pd0_11); (try simp [*] at Rd0_11); (try simp [*] at Pd0_12); (try simp [*] at Rd0_12); (try simp [*] at Pd0_13); (try simp [*] at Rd0_13); (try simp [*] at Pd0_14); (try simp [*] at Rd0_14)))
 all_goals
  go_ret
  refine ⟨by first | rfl | (simp [schedOkS, opZ, inb, *]; done) | (simp [schedOkS, opZ, inb, *]; omega) | (simp_all [schedOkS, opZ, inb, bq, bn]; done) | (simp_all [schedOkS, opZ, inb, bq, bn]; omega), ?_⟩
  (first | exact extT | omega)

end Go.Proofs.Ythihnangjghloaa

-- Views: what is due.
namespace Go.Proofs.Ythihnangjghloaa
open Go.RowKit Go.G8

end Go.Proofs.Ythihnangjghloaa

-- Views: what fires next.
namespace Go.Proofs.Ythihnangjghloaa
open Go.RowKit Go.G8

end Go.Proofs.Ythihnangjghloaa

-- Views: copies.
namespace Go.Proofs.Ythihnangjghloaa
open Go.RowKit Go.G8

end Go.Proofs.Ythihnangjghloaa

-- Views: what is heard of the jobs.
namespace Go.Proofs.Ythihnangjghloaa
open Go.RowKit Go.G8

end Go.Proofs.Ythihnangjghloaa
