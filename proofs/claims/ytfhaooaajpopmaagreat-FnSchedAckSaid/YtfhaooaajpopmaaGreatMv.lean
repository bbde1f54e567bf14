/- Contracts and plain laws: V2 V3 V4a V4b V4c V4 V5 V6 V7 V12 V13 V8 V9 V10 V11. -/
import Derived.Test.YtfhaooaajpopmaaGreatMb
import Derived.Test.YtfhaooaajpopmaaGreatMa
set_option linter.unusedSimpArgs false
set_option linter.unusedVariables false
set_option maxHeartbeats 8000000
set_option maxRecDepth 100000
namespace Go.Proofs.YtfhaooaajpopmaaGreat
open Go.RowKit Go.G8
theorem l11Open_c (w : World) (v : Value) (l : List DDue) (h : Ints 2 w v (dues l)) : Calls Tryz.prog 62 #[v] w (RetV w (.bool (openOk l))) := by
 obtain ⟨a, cap, rfl, hcap, hm, ha⟩ := h.recs (f := DDue.ints) (fun _ => rfl) dC
 have HA := Lib.hid ha
 clear ha
 unfold maxLen at hm
 by_cases h8 : 8 < l.length
 ·
  rw [openOk_false (fun hh => by have := hh.1; omega)]
  go_enter Tryz.func62, Tryz.ntmps62
  go_wp2
  go_ret
  exact ⟨rfl, Ext.refl _⟩
 have h8' : decide ((8 : Int) < (l.length : Int)) = false := by simp; omega
 go_enter Tryz.func62, Tryz.ntmps62
 go_wp2
 go_loopw [3] (fun i wr => ∃ k : Nat, k ≤ l.length ∧ i = .int .i64 k ∧ Ext w wr ∧ ∀ i, i < k → OpenAt l i) (fun i _ => l.length - (intOf i).toNat)
 case atStart => exact ⟨0, Nat.zero_le _, rfl, Ext.refl _, fun i hi => by omega⟩
 case round =>
  obtain ⟨k, hk, rfl, he, hok⟩ := hrel
  have HO := Lib.hid hok
  clear hok
  by_cases hlt : k < l.length
  ·
   obtain ⟨d, b1, o1, hd, rfl, hb1, c⟩ := HA.out k hlt
   have d0 := he.cell (c 0 _ dC rfl)
   have d1 := he.cell (c 1 _ dC rfl)
   simp only [Nat.add_zero] at d0
   have HD := Lib.hid hd
   clear c hd
   cases hid : idOk d.Id
   ·
    go_wp2
    refine wp_region_ext (by kernel_rfl) (by kernel_rfl) ?_
    repeat (first | go_big_quiet_skip | (go_big_quiet_want; first | (refine quiet_load _ _ _ ?_ rfl rfl (fun wq hq => ?_) ?_; rotate_left; (focus (have q0 := hq.cell d0; have q1 := hq.cell d1; go_simp; first | done | rfl)); (try simp only [redA, Act.put]); go_big_quiet_on) | (go_big_quiet_op; first | go_big_quiet_on | (refine ⟨_, fun _ _ => rfl, ?_⟩; go_big_quiet_on) | (apply Exists.intro; refine ⟨fun wq hq => ?_, ?_⟩; (focus (first | exact call_same hq (by have c := l7Id_c wq d.Id; rw [hid] at c; exact c))); go_big_quiet_on))))
    refine wpQuiet_nil ?_
    intro w1 hx1
    go_wp2
    go_ret
    exact ⟨congrArg (fun z => Ending.returned (.bool z)) (openOk_false (fun hh => by have := (hh.2 k hlt d HD.out).1; rw [hid] at this; cases this)).symm, he.trans hx1⟩
   cases htm : timeOk d.Due
   ·
    go_wp2
    refine wp_region_ext (by kernel_rfl) (by kernel_rfl) ?_
    repeat (first | go_big_quiet_skip | (go_big_quiet_want; first | (refine quiet_load _ _ _ ?_ rfl rfl (fun wq hq => ?_) ?_; rotate_left; (focus (have q0 := hq.cell d0; have q1 := hq.cell d1; go_simp; first | done | rfl)); (try simp only [redA, Act.put]); go_big_quiet_on) | (go_big_quiet_op; first | go_big_quiet_on | (refine ⟨_, fun _ _ => rfl, ?_⟩; go_big_quiet_on) | (apply Exists.intro; refine ⟨fun wq hq => ?_, ?_⟩; (focus (first | exact call_same hq (by have c := l7Id_c wq d.Id; rw [hid] at c; exact c) | exact call_same hq (by have c := sTimeOk_c wq d.Due; rw [htm] at c; exact c))); go_big_quiet_on))))
    refine wpQuiet_nil ?_
    intro w1 hx1
    go_wp2
    go_ret
    exact ⟨congrArg (fun z => Ending.returned (.bool z)) (openOk_false (fun hh => by have := (hh.2 k hlt d HD.out).2.1; rw [htm] at this; cases this)).symm, he.trans hx1⟩
   have hnext : (∀ e, 0 < k → l[k - 1]? = some e → dueLess e d = true) → (∀ i e, i < k → l[i]? = some e → e.Id ≠ d.Id) → ∀ i, i < k + 1 → OpenAt l i := by
    intro n1 n2 i hi
    by_cases hik : i = k
    ·
     subst hik
     intro d' hd'
     rw [HD.out] at hd'
     obtain rfl := Option.some.inj hd'
     exact ⟨hid, htm, n1, n2⟩
    exact HO.out i oM
   have HN := Lib.hid hnext
   clear hnext
   have hdup : ∀ i e, i < k → l[i]? = some e → e.Id = d.Id → openOk l = false := fun i e hi he' hh => openOk_false (fun ho => (ho.2 k hlt d HD.out).2.2.2 i e hi he' hh)
   have HU := Lib.hid hdup
   clear hdup
   by_cases hk0 : k = 0
   ·
    subst hk0
    simp only [Nat.zero_mul, Nat.add_zero] at d0 d1
    go_wp2
    refine wp_region_ext (by kernel_rfl) (by kernel_rfl) ?_
    repeat (first | go_big_quiet_skip | (go_big_quiet_want; first | (refine quiet_load _ _ _ ?_ rfl rfl (fun wq hq => ?_) ?_; rotate_left; (focus (have q0 := hq.cell d0; have q1 := hq.cell d1; go_simp; first | done | rfl)); (try simp only [redA, Act.put]); go_big_quiet_on) | (go_big_quiet_op; first | go_big_quiet_on | (refine ⟨_, fun _ _ => rfl, ?_⟩; go_big_quiet_on) | (apply Exists.intro; refine ⟨fun wq hq => ?_, ?_⟩; (focus (first | exact call_same hq (by have c := l7Id_c wq d.Id; rw [hid] at c; exact c) | exact call_same hq (by have c := sTimeOk_c wq d.Due; rw [htm] at c; exact c))); go_big_quiet_on))))
    refine wpQuiet_nil ?_
    intro w1 hx1
    go_wp2
    go_loopw [4] (fun i wr' => i = .int .i64 0 ∧ Ext wr wr') (fun _ _ => 0)
    case atStart => exact ⟨rfl, hx1⟩
    case round =>
     obtain ⟨rfl, he'⟩ := hrel
     go_wp2
     go_roundw
     case rel => exact ⟨1, by omega, rfl, he.trans he', HN.out (fun e h => by omega) (fun i e h => by omega)⟩
     case measure => simp [intOf]; omega
   obtain ⟨e, b2, o2, hde, hbo, _, c⟩ := HA.out (k - 1) oM
   obtain ⟨rfl, rfl⟩ : b1 = b2 ∧ o1 = o2 := by simpa using hbo
   have e0 := he.cell (c 0 _ dC rfl)
   have e1 := he.cell (c 1 _ dC rfl)
   simp only [Nat.add_zero] at e0
   have HE := Lib.hid hde
   clear c hde hbo
   have hk1 : decide (0 < k) = true := by simp; omega
   cases hls : dueLess e d
   ·
    go_wp2
    refine wp_region_ext (by kernel_rfl) (by kernel_rfl) ?_
    repeat (first | go_big_quiet_skip | (go_big_quiet_want; first | (refine quiet_load _ _ _ ?_ rfl rfl (fun wq hq => ?_) ?_; rotate_left; (focus (have q0 := hq.cell d0; have q1 := hq.cell d1; have p0 := hq.cell e0; have p1 := hq.cell e1; go_simp; first | done | rfl)); (try simp only [redA, Act.put]); go_big_quiet_on) | (go_big_quiet_op; first | go_big_quiet_on | (refine ⟨_, fun _ _ => rfl, ?_⟩; go_big_quiet_on) | (apply Exists.intro; refine ⟨fun wq hq => ?_, ?_⟩; (focus (first | exact call_same hq (by have c := l7Id_c wq d.Id; rw [hid] at c; exact c) | exact call_same hq (by have c := sTimeOk_c wq d.Due; rw [htm] at c; exact c) | exact call_ext hq (by have c := l11DueLess_c wq e d; rw [hls] at c; exact c))); go_big_quiet_on))))
    refine wpQuiet_nil ?_
    intro w1 hx1
    go_wp2
    go_ret
    exact ⟨congrArg (fun z => Ending.returned (.bool z)) (openOk_false (fun hh => by have := (hh.2 k hlt d HD.out).2.2.1 e oM HE.out; rw [hls] at this; cases this)).symm, he.trans hx1⟩
   go_wp2
   refine wp_region_ext (by kernel_rfl) (by kernel_rfl) ?_
   repeat (first | go_big_quiet_skip | (go_big_quiet_want; first | (refine quiet_load _ _ _ ?_ rfl rfl (fun wq hq => ?_) ?_; rotate_left; (focus (have q0 := hq.cell d0; have q1 := hq.cell d1; have p0 := hq.cell e0; have p1 := hq.cell e1; go_simp; first | done | rfl)); (try simp only [redA, Act.put]); go_big_quiet_on) | (go_big_quiet_op; first | go_big_quiet_on | (refine ⟨_, fun _ _ => rfl, ?_⟩; go_big_quiet_on) | (apply Exists.intro; refine ⟨fun wq hq => ?_, ?_⟩; (focus (first | exact call_same hq (by have c := l7Id_c wq d.Id; rw [hid] at c; exact c) | exact call_same hq (by have c := sTimeOk_c wq d.Due; rw [htm] at c; exact c) | exact call_ext hq (by have c := l11DueLess_c wq e d; rw [hls] at c; exact c))); go_big_quiet_on))))
   refine wpQuiet_nil ?_
   intro w1 hx1
   go_wp2
   go_loopw [4] (fun i wr' => ∃ m : Nat, m ≤ k ∧ i = .int .i64 m ∧ Ext wr wr' ∧ ∀ i e, i < m → l[i]? = some e → e.Id ≠ d.Id) (fun i _ => k - (intOf i).toNat)
   case atStart => exact ⟨0, by omega, rfl, hx1, fun i e h => by omega⟩
   case round =>
    obtain ⟨m, hm', rfl, he', hno⟩ := hrel
    have HM := Lib.hid hno
    clear hno
    by_cases hmk : m < k
    ·
     obtain ⟨g, b2, o2, hdg, hbo, _, c⟩ := HA.out m oM
     obtain ⟨rfl, rfl⟩ : b1 = b2 ∧ o1 = o2 := by simpa using hbo
     have g0 := (he.trans he').cell (c 0 _ dC rfl)
     have f0 := he'.cell d0
     simp only [Nat.add_zero] at g0
     have HG := Lib.hid hdg
     clear c hdg hbo
     by_cases heq : g.Id = d.Id
     ·
      have hb : (g.Id == d.Id) = true := by simpa using heq
      have HEQ := Lib.hid heq
      clear heq
      go_wp2
      go_quiet (fail)
      go_wp2
      go_ret
      exact ⟨congrArg (fun z => Ending.returned (.bool z)) (HU.out m g hmk HG.out HEQ.out).symm, (he.trans he').drewN _⟩
     have hb : (g.Id == d.Id) = false := by simpa using heq
     go_wp2
     go_quiet (fail)
     go_wp2
     go_roundw
     case rel => 
      refine ⟨m + 1, by omega, by go_num, he'.drewN _, fun i e' hi hl => ?_⟩
      by_cases him : i = m
      ·
       subst him
       rw [HG.out] at hl
       obtain rfl := Option.some.inj hl
       exact heq
      exact HM.out i e' oM hl
     case measure => simp [intOf]; omega
    obtain rfl : m = k := by omega
    go_wp2
    go_roundw
    case rel => exact ⟨m + 1, by omega, by go_num, he.trans he', HN.out (fun e' _ hl => by rw [HE.out] at hl; obtain rfl := Option.some.inj hl; exact hls) HM.out⟩
    case measure => simp [intOf]; omega
  obtain rfl : k = l.length := by omega
  go_wp2
  go_ret
  exact ⟨congrArg (fun z => Ending.returned (.bool z)) (openOk_true ⟨by omega, HO.out⟩).symm, he⟩
theorem l11Sched_c (w : World) (x : Int) : Calls Tryz.prog 61 #[.int .i64 x] w fun e w' => e = .returned (.bool (schedOk x)) ∧ w = w' := by
 by_cases h2 : x = 2
 ·
  subst h2
  go_enter Tryz.func61, Tryz.ntmps61
  go_wp2
  go_ret
  exact ⟨rfl, rfl⟩
 have e2 : (x == 2) = false := by simpa using h2
 by_cases h3 : x = 3
 ·
  subst h3
  go_enter Tryz.func61, Tryz.ntmps61
  go_wp2
  go_ret
  exact ⟨rfl, rfl⟩
 have e3 : (x == 3) = false := by simpa using h3
 go_enter Tryz.func61, Tryz.ntmps61
 go_wp2
 go_ret
 exact ⟨by simp [schedOk, e2, e3], rfl⟩
theorem l16Who_c (w : World) (x : Int) : Calls Tryz.prog 20 #[.int .i64 x] w fun e w' => e = .returned (.bool (schedOk x)) ∧ w = w' := by
 by_cases h2 : x = 2
 ·
  subst h2
  go_enter Tryz.func20, Tryz.ntmps20
  go_wp2
  go_ret
  exact ⟨rfl, rfl⟩
 have e2 : (x == 2) = false := by simpa using h2
 by_cases h3 : x = 3
 ·
  subst h3
  go_enter Tryz.func20, Tryz.ntmps20
  go_wp2
  go_ret
  exact ⟨rfl, rfl⟩
 have e3 : (x == 3) = false := by simpa using h3
 go_enter Tryz.func20, Tryz.ntmps20
 go_wp2
 go_ret
 exact ⟨by simp [schedOk, e2, e3], rfl⟩
theorem schedOk_c (w : World) (x : Int) : Calls Tryz.prog 24 #[.int .i64 x] w fun e w' => e = .returned (.bool (schedOk x)) ∧ w = w' := by
 by_cases h2 : x = 2
 ·
  subst h2
  go_enter Tryz.func24, Tryz.ntmps24
  go_wp2
  go_ret
  exact ⟨rfl, rfl⟩
 have e2 : (x == 2) = false := by simpa using h2
 by_cases h3 : x = 3
 ·
  subst h3
  go_enter Tryz.func24, Tryz.ntmps24
  go_wp2
  go_ret
  exact ⟨rfl, rfl⟩
 have e3 : (x == 3) = false := by simpa using h3
 go_enter Tryz.func24, Tryz.ntmps24
 go_wp2
 go_ret
 exact ⟨by simp [schedOk, e2, e3], rfl⟩
theorem sJobsOk2_c (w : World) (j : DJobs) (s : Value) (h : Ints 2 w s (dues j.Open)) : Calls Tryz.prog 44 #[.agg #[.int .i64 j.Index, .int .i64 j.Time, .int .i64 j.Holder, .int .i64 j.Epoch, .int .i64 j.Until, s]] w (RetV w (.bool (jobsOk2 j))) := by
 obtain ⟨a, n, c, rfl⟩ := h.shape
 by_cases hH : j.Holder = 0
 ·
  have hH' : (j.Holder == 0) = true := by simpa using hH
  clear hH
  go_enter Tryz.func44, Tryz.ntmps44
  go_wp2_with (first | (go_at_call 21; refine (l1In_c _ _ _ _).mono ?_; rintro e w1 ⟨rfl, rfl⟩) | (go_at_call 48; refine (sTimeOk_c _ _).mono ?_; rintro e w1 ⟨rfl, rfl⟩) | (go_at_call 61; refine (l11Sched_c _ _).mono ?_; rintro e w1 ⟨rfl, rfl⟩) | (go_at_call 62; refine (l11Open_c _ _ _ (h.ext xT)).mono ?_; rintro e w1 ⟨rfl, hx1⟩))
  all_goals
   go_ret
   refine ⟨congrArg (fun z => Ending.returned (.bool z)) ?_, ?_⟩
   ·
    simp [jobsOk2, *]
   exact xT
 have hH' : (j.Holder == 0) = false := by simpa using hH
 clear hH
 go_enter Tryz.func44, Tryz.ntmps44
 go_wp2_with (first | (go_at_call 21; refine (l1In_c _ _ _ _).mono ?_; rintro e w1 ⟨rfl, rfl⟩) | (go_at_call 48; refine (sTimeOk_c _ _).mono ?_; rintro e w1 ⟨rfl, rfl⟩) | (go_at_call 61; refine (l11Sched_c _ _).mono ?_; rintro e w1 ⟨rfl, rfl⟩) | (go_at_call 62; refine (l11Open_c _ _ _ (h.ext xT)).mono ?_; rintro e w1 ⟨rfl, hx1⟩))
 all_goals
  go_ret
  refine ⟨congrArg (fun z => Ending.returned (.bool z)) ?_, ?_⟩
  ·
   simp [jobsOk2, *]
  exact xT
theorem zb (w : World) : (zeroValue 4).run Tryz.prog w = .ok (.bool false) w := by kernel_rfl
theorem jobsOk2_bad (w : World) (j : DJobs) (s : Value) (h : Ints 2 w s (dues j.Open)) (hbad : ¬ (inb j.Index 0 2000 = true ∧ timeOk j.Time = true ∧ (j.Holder == 0 || schedOk j.Holder) = true ∧ inb j.Epoch 0 1000 = true ∧ inb j.Until 0 1001000 = true ∧ j.Open.length ≤ 8)) : Calls Tryz.prog 49 #[.agg #[.int .i64 j.Index, .int .i64 j.Time, .int .i64 j.Holder, .int .i64 j.Epoch, .int .i64 j.Until, s]] w (RetV w (.bool (jobsOk2 j))) := by
 obtain ⟨a, cap, rfl, hcap, hm, ha⟩ := h.recs (f := DDue.ints) (fun _ => rfl) dC
 have HA := Lib.hid ha
 clear ha
 unfold maxLen at hm
 have hmm := @run_makeMap Tryz.prog
 have hb0 : jobsOk2 j = false := by
  have e8 : ¬ j.Open.length ≤ 8 → openOk j.Open = false := fun hn => openOk_false (fun hh => hn hh.1)
  cases h1 : inb j.Index 0 2000 <;> cases h2 : timeOk j.Time <;> cases h3 : (j.Holder == 0 || schedOk j.Holder) <;> cases h4 : inb j.Epoch 0 1000 <;> cases h5 : inb j.Until 0 1001000 <;> simp only [jobsOk2, h1, h2, h3, h4, h5, Bool.false_and, Bool.and_false, Bool.true_and]
  exact e8 (fun h8 => hbad ⟨h1, h2, h3, h4, h5, h8⟩)
 rw [hb0]
 have HBD := Lib.hid hbad
 clear hb0 hbad
 by_cases hH : j.Holder = 0
 ·
  have hH' : (j.Holder == 0) = true := by simpa using hH
  have hH2 : (j.Holder != 0) = false := by simpa using hH
  clear hH
  go_enter Tryz.func49, Tryz.ntmps49
  go_wp2_with (first | (go_at_call 25; refine (between_c _ _ _ _).mono ?_; rintro e w1 ⟨rfl, rfl⟩) | (go_at_call 53; refine (timeOk_c _ _).mono ?_; rintro e w1 ⟨rfl, rfl⟩) | (go_at_call 24; refine (schedOk_c _ _).mono ?_; rintro e w1 ⟨rfl, rfl⟩))
  all_goals try (go_ret; refine ⟨rfl, ?_⟩; (exact xT); done)
  exfalso
  refine HBD.out ⟨?_, ?_, ?_, ?_, ?_, ?_⟩
  all_goals first | assumption | omega | (rw [Bool.or_eq_true]; first | exact .inl hH' | exact .inr (by simpa using ‹(!schedOk j.Holder) = false›))
 have hH' : (j.Holder == 0) = false := by simpa using hH
 have hH2 : (j.Holder != 0) = true := by simpa using hH
 clear hH
 go_enter Tryz.func49, Tryz.ntmps49
 go_wp2_with (first | (go_at_call 25; refine (between_c _ _ _ _).mono ?_; rintro e w1 ⟨rfl, rfl⟩) | (go_at_call 53; refine (timeOk_c _ _).mono ?_; rintro e w1 ⟨rfl, rfl⟩) | (go_at_call 24; refine (schedOk_c _ _).mono ?_; rintro e w1 ⟨rfl, rfl⟩))
 all_goals try (go_ret; refine ⟨rfl, ?_⟩; (exact xT); done)
 exfalso
 refine HBD.out ⟨?_, ?_, ?_, ?_, ?_, ?_⟩
 all_goals first | assumption | omega | (rw [Bool.or_eq_true]; first | exact .inl hH' | exact .inr (by simpa using ‹(!schedOk j.Holder) = false›))
theorem jobsOk2_free (w : World) (j : DJobs) (s : Value) (h : Ints 2 w s (dues j.Open)) (h1 : inb j.Index 0 2000 = true) (h2 : timeOk j.Time = true) (h3 : (j.Holder == 0) = true) (h4 : inb j.Epoch 0 1000 = true) (h5 : inb j.Until 0 1001000 = true) (h8 : j.Open.length ≤ 8) : Calls Tryz.prog 49 #[.agg #[.int .i64 j.Index, .int .i64 j.Time, .int .i64 j.Holder, .int .i64 j.Epoch, .int .i64 j.Until, s]] w (RetV w (.bool (jobsOk2 j))) := by
 obtain ⟨a, cap, rfl, hcap, hm, ha⟩ := h.recs (f := DDue.ints) (fun _ => rfl) dC
 have HA := Lib.hid ha
 clear ha
 unfold maxLen at hm
 have hmm := @run_makeMap Tryz.prog
 have hb0 : jobsOk2 j = openOk j.Open := by simp [jobsOk2, *]
 have HB0 := Lib.hid hb0
 clear hb0
 have h8' : decide ((8 : Int) < (j.Open.length : Int)) = false := by simp; omega
 have h3' : (j.Holder != 0) = false := by simpa using h3
 go_enter Tryz.func49, Tryz.ntmps49
 go_wp2_with (first | (go_at_call 25; refine (between_c _ _ _ _).mono ?_; rintro e w1 ⟨rfl, rfl⟩) | (go_at_call 53; refine (timeOk_c _ _).mono ?_; rintro e w1 ⟨rfl, rfl⟩) | (go_at_call 24; refine (schedOk_c _ _).mono ?_; rintro e w1 ⟨rfl, rfl⟩))
 clear hmm
 go_loopw [47] (fun i wr => ∃ k : Nat, k ≤ j.Open.length ∧ i = .int .i64 k ∧ Ext w wr ∧ wr.cell? ⟨w.heap.size, 5, none⟩ = some (.slice a j.Open.length cap) ∧ (∃ S, BSet Tryz.prog 2 4 wr (w.heap.size + 1) k S ∧ (∀ i, i < k → OpenAt j.Open i) ∧ (∀ x, x ∈ S ↔ ∃ i e, i < k ∧ j.Open[i]? = some e ∧ e.Id = x))) (fun i _ => j.Open.length - (intOf i).toNat)
 case atStart => exact ⟨0, Nat.zero_le _, rfl, ((Ext.refl _).alloc _).alloc _, by simp, [], by simpa using BSet.made Tryz.prog 2 4 (w.alloc _), fun i hi => by omega, fun x => by simp⟩
 case round =>
  obtain ⟨k, hk, rfl, he, jb, S, hset, hok, hS⟩ := hrel
  have HO := Lib.hid hok
  have HM := Lib.hid hS
  clear hok hS
  have hsz := he.size
  by_cases hlt : k < j.Open.length
  ·
   obtain ⟨d, b1, o1, hd, rfl, hb1, c⟩ := HA.out k hlt
   have d0 := he.cell (c 0 _ dC rfl)
   have d1 := he.cell (c 1 _ dC rfl)
   simp only [Nat.add_zero] at d0
   have HD := Lib.hid hd
   clear c hd
   go_wp2
   obtain ⟨W, hW⟩ : ∃ W, W = wr.alloc (.cells #[.int .i64 d.Id, .int .i64 d.Due] 72) := ⟨_, rfl⟩
   have x0 : W.cell? ⟨wr.heap.size, 0, none⟩ = some (.int .i64 d.Id) := by rw [hW]; simp
   have x1 : W.cell? ⟨wr.heap.size, 1, none⟩ = some (.int .i64 d.Due) := by rw [hW]; simp
   have jb' : W.cell? ⟨w.heap.size, 5, none⟩ = some (.slice (some ⟨b1, o1, none⟩) j.Open.length cap) := by rw [hW]; exact ((Ext.refl wr).alloc _).cell jb
   have hset' : BSet Tryz.prog 2 4 W (w.heap.size + 1) k S := by rw [hW]; exact hset.ext ((Ext.refl wr).alloc _)
   have heW : Ext w W := by rw [hW]; exact he.alloc _
   have heR : Ext wr W := by rw [hW]; exact (Ext.refl wr).alloc _
   rw [← hW]
   clear hW
   cases hid : idOk d.Id
   ·
    refine wp_region_ext (by kernel_rfl) (by kernel_rfl) ?_
    repeat (first | go_big_quiet_skip | (go_big_quiet_want; first | (refine quiet_load _ _ _ ?_ rfl rfl (fun wq hq => ?_) ?_; rotate_left; (focus (have q0 := hq.cell x0; have q1 := hq.cell x1; go_simp; first | done | rfl)); (try simp only [redA, Act.put]); go_big_quiet_on) | (refine quiet_lookup _ _ _ _ _ ?_ rfl rfl rfl (fun wq hq => ?_) ?_; rotate_left; (focus (fail)); (try simp only [redA, Act.put]); go_big_quiet_on) | (go_big_quiet_op; first | go_big_quiet_on | (refine ⟨_, fun _ _ => rfl, ?_⟩; go_big_quiet_on) | (apply Exists.intro; refine ⟨fun wq hq => ?_, ?_⟩; (focus (first | exact call_same hq (by have c := idOk_c wq d.Id; rw [hid] at c; exact c))); go_big_quiet_on))))
    refine wpQuiet_nil ?_
    intro w1 hx1
    go_wp2
    go_ret
    exact ⟨congrArg (fun z => Ending.returned (.bool z)) (HB0.out.trans (openOk_false (fun hh => by have := (hh.2 k hlt d HD.out).1; rw [hid] at this; cases this))).symm, heW.trans hx1⟩
   have hw : (Lit.int .i64 d.Id).wf = true := by
    have := inb_true.1 hid
    exact WalkArith.wf_i64 oM
   cases htm : timeOk d.Due
   ·
    refine wp_region_ext (by kernel_rfl) (by kernel_rfl) ?_
    repeat (first | go_big_quiet_skip | (go_big_quiet_want; first | (refine quiet_load _ _ _ ?_ rfl rfl (fun wq hq => ?_) ?_; rotate_left; (focus (have q0 := hq.cell x0; have q1 := hq.cell x1; go_simp; first | done | rfl)); (try simp only [redA, Act.put]); go_big_quiet_on) | (refine quiet_lookup _ _ _ _ _ ?_ rfl rfl rfl (fun wq hq => ?_) ?_; rotate_left; (focus (fail)); (try simp only [redA, Act.put]); go_big_quiet_on) | (go_big_quiet_op; first | go_big_quiet_on | (refine ⟨_, fun _ _ => rfl, ?_⟩; go_big_quiet_on) | (apply Exists.intro; refine ⟨fun wq hq => ?_, ?_⟩; (focus (first | exact call_same hq (by have c := idOk_c wq d.Id; rw [hid] at c; exact c) | exact call_same hq (by have c := timeOk_c wq d.Due; rw [htm] at c; exact c))); go_big_quiet_on))))
    refine wpQuiet_nil ?_
    intro w1 hx1
    go_wp2
    go_ret
    exact ⟨congrArg (fun z => Ending.returned (.bool z)) (HB0.out.trans (openOk_false (fun hh => by have := (hh.2 k hlt d HD.out).2.1; rw [htm] at this; cases this))).symm, heW.trans hx1⟩
   by_cases hmem : d.Id ∈ S
   ·
    have hnu : decide (d.Id ∈ S) = true := by simpa using hmem
    have HMM := Lib.hid hmem
    clear hmem
    refine wp_region_ext (by kernel_rfl) (by kernel_rfl) ?_
    repeat (first | go_big_quiet_skip | (go_big_quiet_want; first | (refine quiet_load _ _ _ ?_ rfl rfl (fun wq hq => ?_) ?_; rotate_left; (focus (have q0 := hq.cell x0; have q1 := hq.cell x1; go_simp; first | done | rfl)); (try simp only [redA, Act.put]); go_big_quiet_on) | (refine quiet_lookup _ _ _ _ _ ?_ rfl rfl rfl (fun wq hq => ?_) ?_; rotate_left; (focus (exact (by have c := (hset'.ext hq).look (t := 76) Tryz.underlying2 Tryz.underlying76 Tryz.underlying4 (zb _) hw; rw [hnu] at c; exact c))); (try simp only [redA, Act.put]); go_big_quiet_on) | (go_big_quiet_op; first | go_big_quiet_on | (refine ⟨_, fun _ _ => rfl, ?_⟩; go_big_quiet_on) | (apply Exists.intro; refine ⟨fun wq hq => ?_, ?_⟩; (focus (first | exact call_same hq (by have c := idOk_c wq d.Id; rw [hid] at c; exact c) | exact call_same hq (by have c := timeOk_c wq d.Due; rw [htm] at c; exact c))); go_big_quiet_on))))
    refine wpQuiet_nil ?_
    intro w1 hx1
    go_wp2
    go_ret
    exact ⟨congrArg (fun z => Ending.returned (.bool z)) (HB0.out.trans (openOk_false (fun hh => by obtain ⟨i, e, hi, he', hid'⟩ := (HM.out d.Id).1 HMM.out; exact (hh.2 k hlt d HD.out).2.2.2 i e hi he' hid'))).symm, heW.trans hx1⟩
   have hnu : decide (d.Id ∈ S) = false := by simpa using hmem
   have hnd : ∀ i e, i < k → j.Open[i]? = some e → e.Id ≠ d.Id := fun i e hi he' hid' => hmem ((HM.out d.Id).2 ⟨i, e, hi, he', hid'⟩)
   have HND := Lib.hid hnd
   clear hmem hnd
   have hnext : (∀ e, 0 < k → j.Open[k - 1]? = some e → dueLess e d = true) → ∀ i, i < k + 1 → OpenAt j.Open i := by
    intro n1 i hi
    by_cases hik : i = k
    ·
     subst hik
     intro d' hd'
     rw [HD.out] at hd'
     obtain rfl := Option.some.inj hd'
     exact ⟨hid, htm, n1, HND.out⟩
    exact HO.out i oM
   have HN := Lib.hid hnext
   clear hnext
   have hs2 : ∀ x, x ∈ d.Id :: S ↔ ∃ i e, i < k + 1 ∧ j.Open[i]? = some e ∧ e.Id = x := by
    intro x
    rw [List.mem_cons, HM.out x]
    constructor
    ·
     rintro (rfl | ⟨i, e, hi, h1, h2⟩)
     ·
      exact ⟨k, d, by omega, HD.out, rfl⟩
     exact ⟨i, e, by omega, h1, h2⟩
    rintro ⟨i, e, hi, h1, h2⟩
    by_cases hik : i = k
    ·
     subst hik
     rw [HD.out] at h1
     obtain rfl := Option.some.inj h1
     exact .inl h2.symm
    exact .inr ⟨i, e, by omega, h1, h2⟩
   have HS := Lib.hid hs2
   clear hs2
   by_cases hk0 : k = 0
   ·
    subst hk0
    refine wp_region_ext (by kernel_rfl) (by kernel_rfl) ?_
    repeat (first | go_big_quiet_skip | (go_big_quiet_want; first | (refine quiet_load _ _ _ ?_ rfl rfl (fun wq hq => ?_) ?_; rotate_left; (focus (have q0 := hq.cell x0; have q1 := hq.cell x1; go_simp; first | done | rfl)); (try simp only [redA, Act.put]); go_big_quiet_on) | (refine quiet_lookup _ _ _ _ _ ?_ rfl rfl rfl (fun wq hq => ?_) ?_; rotate_left; (focus (exact (by have c := (hset'.ext hq).look (t := 76) Tryz.underlying2 Tryz.underlying76 Tryz.underlying4 (zb _) hw; rw [hnu] at c; exact c))); (try simp only [redA, Act.put]); go_big_quiet_on) | (go_big_quiet_op; first | go_big_quiet_on | (refine ⟨_, fun _ _ => rfl, ?_⟩; go_big_quiet_on) | (apply Exists.intro; refine ⟨fun wq hq => ?_, ?_⟩; (focus (first | exact call_same hq (by have c := idOk_c wq d.Id; rw [hid] at c; exact c) | exact call_same hq (by have c := timeOk_c wq d.Due; rw [htm] at c; exact c))); go_big_quiet_on))))
    refine wpQuiet_nil ?_
    intro w1 hx1
    have x0' := hx1.cell x0
    go_wp2_with (at_mapUpdate; refine wpList_put rfl _ _ _ 76 rfl 2 4 Tryz.underlying2 Tryz.underlying76 Tryz.underlying4 _ _ _ _ rfl rfl rfl (hset'.ext hx1) (by unfold maxLen; omega) hw ?_; intro w2 hset2 hgr2)
    have hx2 := (heW.trans hx1).grownOwn hgr2 oM
    go_roundw
    case rel => exact ⟨0 + 1, by omega, by go_num, hx2, hgr2.cell (hx1.cell jb') (by first | (simp; done) | (simp; omega)), _, hset2, HN.out (fun e h => by omega), HS.out⟩
    case measure => simp [intOf]; omega
   obtain ⟨e, b2, o2, hde, hbo, _, c⟩ := HA.out (k - 1) oM
   obtain ⟨rfl, rfl⟩ : b1 = b2 ∧ o1 = o2 := by simpa using hbo
   have e0' := heW.cell (c 0 _ dC rfl)
   have e1' := heW.cell (c 1 _ dC rfl)
   simp only [Nat.add_zero] at e0'
   have HE := Lib.hid hde
   clear c hde hbo
   have hk1 : decide (0 < k) = true := by simp; omega
   cases hls : dueLess e d
   ·
    refine wp_region_ext (by kernel_rfl) (by kernel_rfl) ?_
    repeat (first | go_big_quiet_skip | (go_big_quiet_want; first | (refine quiet_load _ _ _ ?_ rfl rfl (fun wq hq => ?_) ?_; rotate_left; (focus (have q0 := hq.cell x0; have q1 := hq.cell x1; have q2 := hq.cell jb'; have p0 := hq.cell e0'; have p1 := hq.cell e1'; go_simp; first | done | rfl)); (try simp only [redA, Act.put]); go_big_quiet_on) | (refine quiet_lookup _ _ _ _ _ ?_ rfl rfl rfl (fun wq hq => ?_) ?_; rotate_left; (focus (exact (by have c := (hset'.ext hq).look (t := 76) Tryz.underlying2 Tryz.underlying76 Tryz.underlying4 (zb _) hw; rw [hnu] at c; exact c))); (try simp only [redA, Act.put]); go_big_quiet_on) | (go_big_quiet_op; first | go_big_quiet_on | (refine ⟨_, fun _ _ => rfl, ?_⟩; go_big_quiet_on) | (apply Exists.intro; refine ⟨fun wq hq => ?_, ?_⟩; (focus (first | exact call_same hq (by have c := idOk_c wq d.Id; rw [hid] at c; exact c) | exact call_same hq (by have c := timeOk_c wq d.Due; rw [htm] at c; exact c) | exact call_ext hq (by have c := dueLess_c wq e d; rw [hls] at c; exact c))); go_big_quiet_on))))
    refine wpQuiet_nil ?_
    intro w1 hx1
    go_wp2
    go_ret
    exact ⟨congrArg (fun z => Ending.returned (.bool z)) (HB0.out.trans (openOk_false (fun hh => by have := (hh.2 k hlt d HD.out).2.2.1 e oM HE.out; rw [hls] at this; cases this))).symm, heW.trans hx1⟩
   refine wp_region_ext (by kernel_rfl) (by kernel_rfl) ?_
   repeat (first | go_big_quiet_skip | (go_big_quiet_want; first | (refine quiet_load _ _ _ ?_ rfl rfl (fun wq hq => ?_) ?_; rotate_left; (focus (have q0 := hq.cell x0; have q1 := hq.cell x1; have q2 := hq.cell jb'; have p0 := hq.cell e0'; have p1 := hq.cell e1'; go_simp; first | done | rfl)); (try simp only [redA, Act.put]); go_big_quiet_on) | (refine quiet_lookup _ _ _ _ _ ?_ rfl rfl rfl (fun wq hq => ?_) ?_; rotate_left; (focus (exact (by have c := (hset'.ext hq).look (t := 76) Tryz.underlying2 Tryz.underlying76 Tryz.underlying4 (zb _) hw; rw [hnu] at c; exact c))); (try simp only [redA, Act.put]); go_big_quiet_on) | (go_big_quiet_op; first | go_big_quiet_on | (refine ⟨_, fun _ _ => rfl, ?_⟩; go_big_quiet_on) | (apply Exists.intro; refine ⟨fun wq hq => ?_, ?_⟩; (focus (first | exact call_same hq (by have c := idOk_c wq d.Id; rw [hid] at c; exact c) | exact call_same hq (by have c := timeOk_c wq d.Due; rw [htm] at c; exact c) | exact call_ext hq (by have c := dueLess_c wq e d; rw [hls] at c; exact c))); go_big_quiet_on))))
   refine wpQuiet_nil ?_
   intro w1 hx1
   have x0' := hx1.cell x0
   go_wp2_with (at_mapUpdate; refine wpList_put rfl _ _ _ 76 rfl 2 4 Tryz.underlying2 Tryz.underlying76 Tryz.underlying4 _ _ _ _ rfl rfl rfl (hset'.ext hx1) (by unfold maxLen; omega) hw ?_; intro w2 hset2 hgr2)
   have hx2 := (heW.trans hx1).grownOwn hgr2 oM
   go_roundw
   case rel => exact ⟨k + 1, by omega, by go_num, hx2, hgr2.cell (hx1.cell jb') (by first | (simp; done) | (simp; omega)), _, hset2, HN.out (fun e' _ hl => by rw [HE.out] at hl; obtain rfl := Option.some.inj hl; exact hls), HS.out⟩
   case measure => simp [intOf]; omega
  obtain rfl : k = j.Open.length := by omega
  go_wp2
  go_ret
  exact ⟨congrArg (fun z => Ending.returned (.bool z)) (HB0.out.trans (openOk_true ⟨by omega, HO.out⟩)).symm, he⟩
theorem jobsOk2_held (w : World) (j : DJobs) (s : Value) (h : Ints 2 w s (dues j.Open)) (h1 : inb j.Index 0 2000 = true) (h2 : timeOk j.Time = true) (h3 : (j.Holder == 0) = false) (h6 : schedOk j.Holder = true) (h4 : inb j.Epoch 0 1000 = true) (h5 : inb j.Until 0 1001000 = true) (h8 : j.Open.length ≤ 8) : Calls Tryz.prog 49 #[.agg #[.int .i64 j.Index, .int .i64 j.Time, .int .i64 j.Holder, .int .i64 j.Epoch, .int .i64 j.Until, s]] w (RetV w (.bool (jobsOk2 j))) := by
 obtain ⟨a, cap, rfl, hcap, hm, ha⟩ := h.recs (f := DDue.ints) (fun _ => rfl) dC
 have HA := Lib.hid ha
 clear ha
 unfold maxLen at hm
 have hmm := @run_makeMap Tryz.prog
 have hb0 : jobsOk2 j = openOk j.Open := by simp [jobsOk2, *]
 have HB0 := Lib.hid hb0
 clear hb0
 have h8' : decide ((8 : Int) < (j.Open.length : Int)) = false := by simp; omega
 have h3' : (j.Holder != 0) = true := by simpa using h3
 go_enter Tryz.func49, Tryz.ntmps49
 go_wp2_with (first | (go_at_call 25; refine (between_c _ _ _ _).mono ?_; rintro e w1 ⟨rfl, rfl⟩) | (go_at_call 53; refine (timeOk_c _ _).mono ?_; rintro e w1 ⟨rfl, rfl⟩) | (go_at_call 24; refine (schedOk_c _ _).mono ?_; rintro e w1 ⟨rfl, rfl⟩))
 clear hmm
 go_loopw [47] (fun i wr => ∃ k : Nat, k ≤ j.Open.length ∧ i = .int .i64 k ∧ Ext w wr ∧ wr.cell? ⟨w.heap.size, 5, none⟩ = some (.slice a j.Open.length cap) ∧ (∃ S, BSet Tryz.prog 2 4 wr (w.heap.size + 1) k S ∧ (∀ i, i < k → OpenAt j.Open i) ∧ (∀ x, x ∈ S ↔ ∃ i e, i < k ∧ j.Open[i]? = some e ∧ e.Id = x))) (fun i _ => j.Open.length - (intOf i).toNat)
 case atStart => exact ⟨0, Nat.zero_le _, rfl, ((Ext.refl _).alloc _).alloc _, by simp, [], by simpa using BSet.made Tryz.prog 2 4 (w.alloc _), fun i hi => by omega, fun x => by simp⟩
 case round =>
  obtain ⟨k, hk, rfl, he, jb, S, hset, hok, hS⟩ := hrel
  have HO := Lib.hid hok
  have HM := Lib.hid hS
  clear hok hS
  have hsz := he.size
  by_cases hlt : k < j.Open.length
  ·
   obtain ⟨d, b1, o1, hd, rfl, hb1, c⟩ := HA.out k hlt
   have d0 := he.cell (c 0 _ dC rfl)
   have d1 := he.cell (c 1 _ dC rfl)
   simp only [Nat.add_zero] at d0
   have HD := Lib.hid hd
   clear c hd
   go_wp2
   obtain ⟨W, hW⟩ : ∃ W, W = wr.alloc (.cells #[.int .i64 d.Id, .int .i64 d.Due] 72) := ⟨_, rfl⟩
   have x0 : W.cell? ⟨wr.heap.size, 0, none⟩ = some (.int .i64 d.Id) := by rw [hW]; simp
   have x1 : W.cell? ⟨wr.heap.size, 1, none⟩ = some (.int .i64 d.Due) := by rw [hW]; simp
   have jb' : W.cell? ⟨w.heap.size, 5, none⟩ = some (.slice (some ⟨b1, o1, none⟩) j.Open.length cap) := by rw [hW]; exact ((Ext.refl wr).alloc _).cell jb
   have hset' : BSet Tryz.prog 2 4 W (w.heap.size + 1) k S := by rw [hW]; exact hset.ext ((Ext.refl wr).alloc _)
   have heW : Ext w W := by rw [hW]; exact he.alloc _
   have heR : Ext wr W := by rw [hW]; exact (Ext.refl wr).alloc _
   rw [← hW]
   clear hW
   cases hid : idOk d.Id
   ·
    refine wp_region_ext (by kernel_rfl) (by kernel_rfl) ?_
    repeat (first | go_big_quiet_skip | (go_big_quiet_want; first | (refine quiet_load _ _ _ ?_ rfl rfl (fun wq hq => ?_) ?_; rotate_left; (focus (have q0 := hq.cell x0; have q1 := hq.cell x1; go_simp; first | done | rfl)); (try simp only [redA, Act.put]); go_big_quiet_on) | (refine quiet_lookup _ _ _ _ _ ?_ rfl rfl rfl (fun wq hq => ?_) ?_; rotate_left; (focus (fail)); (try simp only [redA, Act.put]); go_big_quiet_on) | (go_big_quiet_op; first | go_big_quiet_on | (refine ⟨_, fun _ _ => rfl, ?_⟩; go_big_quiet_on) | (apply Exists.intro; refine ⟨fun wq hq => ?_, ?_⟩; (focus (first | exact call_same hq (by have c := idOk_c wq d.Id; rw [hid] at c; exact c))); go_big_quiet_on))))
    refine wpQuiet_nil ?_
    intro w1 hx1
    go_wp2
    go_ret
    exact ⟨congrArg (fun z => Ending.returned (.bool z)) (HB0.out.trans (openOk_false (fun hh => by have := (hh.2 k hlt d HD.out).1; rw [hid] at this; cases this))).symm, heW.trans hx1⟩
   have hw : (Lit.int .i64 d.Id).wf = true := by
    have := inb_true.1 hid
    exact WalkArith.wf_i64 oM
   cases htm : timeOk d.Due
   ·
    refine wp_region_ext (by kernel_rfl) (by kernel_rfl) ?_
    repeat (first | go_big_quiet_skip | (go_big_quiet_want; first | (refine quiet_load _ _ _ ?_ rfl rfl (fun wq hq => ?_) ?_; rotate_left; (focus (have q0 := hq.cell x0; have q1 := hq.cell x1; go_simp; first | done | rfl)); (try simp only [redA, Act.put]); go_big_quiet_on) | (refine quiet_lookup _ _ _ _ _ ?_ rfl rfl rfl (fun wq hq => ?_) ?_; rotate_left; (focus (fail)); (try simp only [redA, Act.put]); go_big_quiet_on) | (go_big_quiet_op; first | go_big_quiet_on | (refine ⟨_, fun _ _ => rfl, ?_⟩; go_big_quiet_on) | (apply Exists.intro; refine ⟨fun wq hq => ?_, ?_⟩; (focus (first | exact call_same hq (by have c := idOk_c wq d.Id; rw [hid] at c; exact c) | exact call_same hq (by have c := timeOk_c wq d.Due; rw [htm] at c; exact c))); go_big_quiet_on))))
    refine wpQuiet_nil ?_
    intro w1 hx1
    go_wp2
    go_ret
    exact ⟨congrArg (fun z => Ending.returned (.bool z)) (HB0.out.trans (openOk_false (fun hh => by have := (hh.2 k hlt d HD.out).2.1; rw [htm] at this; cases this))).symm, heW.trans hx1⟩
   by_cases hmem : d.Id ∈ S
   ·
    have hnu : decide (d.Id ∈ S) = true := by simpa using hmem
    have HMM := Lib.hid hmem
    clear hmem
    refine wp_region_ext (by kernel_rfl) (by kernel_rfl) ?_
    repeat (first | go_big_quiet_skip | (go_big_quiet_want; first | (refine quiet_load _ _ _ ?_ rfl rfl (fun wq hq => ?_) ?_; rotate_left; (focus (have q0 := hq.cell x0; have q1 := hq.cell x1; go_simp; first | done | rfl)); (try simp only [redA, Act.put]); go_big_quiet_on) | (refine quiet_lookup _ _ _ _ _ ?_ rfl rfl rfl (fun wq hq => ?_) ?_; rotate_left; (focus (exact (by have c := (hset'.ext hq).look (t := 76) Tryz.underlying2 Tryz.underlying76 Tryz.underlying4 (zb _) hw; rw [hnu] at c; exact c))); (try simp only [redA, Act.put]); go_big_quiet_on) | (go_big_quiet_op; first | go_big_quiet_on | (refine ⟨_, fun _ _ => rfl, ?_⟩; go_big_quiet_on) | (apply Exists.intro; refine ⟨fun wq hq => ?_, ?_⟩; (focus (first | exact call_same hq (by have c := idOk_c wq d.Id; rw [hid] at c; exact c) | exact call_same hq (by have c := timeOk_c wq d.Due; rw [htm] at c; exact c))); go_big_quiet_on))))
    refine wpQuiet_nil ?_
    intro w1 hx1
    go_wp2
    go_ret
    exact ⟨congrArg (fun z => Ending.returned (.bool z)) (HB0.out.trans (openOk_false (fun hh => by obtain ⟨i, e, hi, he', hid'⟩ := (HM.out d.Id).1 HMM.out; exact (hh.2 k hlt d HD.out).2.2.2 i e hi he' hid'))).symm, heW.trans hx1⟩
   have hnu : decide (d.Id ∈ S) = false := by simpa using hmem
   have hnd : ∀ i e, i < k → j.Open[i]? = some e → e.Id ≠ d.Id := fun i e hi he' hid' => hmem ((HM.out d.Id).2 ⟨i, e, hi, he', hid'⟩)
   have HND := Lib.hid hnd
   clear hmem hnd
   have hnext : (∀ e, 0 < k → j.Open[k - 1]? = some e → dueLess e d = true) → ∀ i, i < k + 1 → OpenAt j.Open i := by
    intro n1 i hi
    by_cases hik : i = k
    ·
     subst hik
     intro d' hd'
     rw [HD.out] at hd'
     obtain rfl := Option.some.inj hd'
     exact ⟨hid, htm, n1, HND.out⟩
    exact HO.out i oM
   have HN := Lib.hid hnext
   clear hnext
   have hs2 : ∀ x, x ∈ d.Id :: S ↔ ∃ i e, i < k + 1 ∧ j.Open[i]? = some e ∧ e.Id = x := by
    intro x
    rw [List.mem_cons, HM.out x]
    constructor
    ·
     rintro (rfl | ⟨i, e, hi, h1, h2⟩)
     ·
      exact ⟨k, d, by omega, HD.out, rfl⟩
     exact ⟨i, e, by omega, h1, h2⟩
    rintro ⟨i, e, hi, h1, h2⟩
    by_cases hik : i = k
    ·
     subst hik
     rw [HD.out] at h1
     obtain rfl := Option.some.inj h1
     exact .inl h2.symm
    exact .inr ⟨i, e, by omega, h1, h2⟩
   have HS := Lib.hid hs2
   clear hs2
   by_cases hk0 : k = 0
   ·
    subst hk0
    refine wp_region_ext (by kernel_rfl) (by kernel_rfl) ?_
    repeat (first | go_big_quiet_skip | (go_big_quiet_want; first | (refine quiet_load _ _ _ ?_ rfl rfl (fun wq hq => ?_) ?_; rotate_left; (focus (have q0 := hq.cell x0; have q1 := hq.cell x1; go_simp; first | done | rfl)); (try simp only [redA, Act.put]); go_big_quiet_on) | (refine quiet_lookup _ _ _ _ _ ?_ rfl rfl rfl (fun wq hq => ?_) ?_; rotate_left; (focus (exact (by have c := (hset'.ext hq).look (t := 76) Tryz.underlying2 Tryz.underlying76 Tryz.underlying4 (zb _) hw; rw [hnu] at c; exact c))); (try simp only [redA, Act.put]); go_big_quiet_on) | (go_big_quiet_op; first | go_big_quiet_on | (refine ⟨_, fun _ _ => rfl, ?_⟩; go_big_quiet_on) | (apply Exists.intro; refine ⟨fun wq hq => ?_, ?_⟩; (focus (first | exact call_same hq (by have c := idOk_c wq d.Id; rw [hid] at c; exact c) | exact call_same hq (by have c := timeOk_c wq d.Due; rw [htm] at c; exact c))); go_big_quiet_on))))
    refine wpQuiet_nil ?_
    intro w1 hx1
    have x0' := hx1.cell x0
    go_wp2_with (at_mapUpdate; refine wpList_put rfl _ _ _ 76 rfl 2 4 Tryz.underlying2 Tryz.underlying76 Tryz.underlying4 _ _ _ _ rfl rfl rfl (hset'.ext hx1) (by unfold maxLen; omega) hw ?_; intro w2 hset2 hgr2)
    have hx2 := (heW.trans hx1).grownOwn hgr2 oM
    go_roundw
    case rel => exact ⟨0 + 1, by omega, by go_num, hx2, hgr2.cell (hx1.cell jb') (by first | (simp; done) | (simp; omega)), _, hset2, HN.out (fun e h => by omega), HS.out⟩
    case measure => simp [intOf]; omega
   obtain ⟨e, b2, o2, hde, hbo, _, c⟩ := HA.out (k - 1) oM
   obtain ⟨rfl, rfl⟩ : b1 = b2 ∧ o1 = o2 := by simpa using hbo
   have e0' := heW.cell (c 0 _ dC rfl)
   have e1' := heW.cell (c 1 _ dC rfl)
   simp only [Nat.add_zero] at e0'
   have HE := Lib.hid hde
   clear c hde hbo
   have hk1 : decide (0 < k) = true := by simp; omega
   cases hls : dueLess e d
   ·
    refine wp_region_ext (by kernel_rfl) (by kernel_rfl) ?_
    repeat (first | go_big_quiet_skip | (go_big_quiet_want; first | (refine quiet_load _ _ _ ?_ rfl rfl (fun wq hq => ?_) ?_; rotate_left; (focus (have q0 := hq.cell x0; have q1 := hq.cell x1; have q2 := hq.cell jb'; have p0 := hq.cell e0'; have p1 := hq.cell e1'; go_simp; first | done | rfl)); (try simp only [redA, Act.put]); go_big_quiet_on) | (refine quiet_lookup _ _ _ _ _ ?_ rfl rfl rfl (fun wq hq => ?_) ?_; rotate_left; (focus (exact (by have c := (hset'.ext hq).look (t := 76) Tryz.underlying2 Tryz.underlying76 Tryz.underlying4 (zb _) hw; rw [hnu] at c; exact c))); (try simp only [redA, Act.put]); go_big_quiet_on) | (go_big_quiet_op; first | go_big_quiet_on | (refine ⟨_, fun _ _ => rfl, ?_⟩; go_big_quiet_on) | (apply Exists.intro; refine ⟨fun wq hq => ?_, ?_⟩; (focus (first | exact call_same hq (by have c := idOk_c wq d.Id; rw [hid] at c; exact c) | exact call_same hq (by have c := timeOk_c wq d.Due; rw [htm] at c; exact c) | exact call_ext hq (by have c := dueLess_c wq e d; rw [hls] at c; exact c))); go_big_quiet_on))))
    refine wpQuiet_nil ?_
    intro w1 hx1
    go_wp2
    go_ret
    exact ⟨congrArg (fun z => Ending.returned (.bool z)) (HB0.out.trans (openOk_false (fun hh => by have := (hh.2 k hlt d HD.out).2.2.1 e oM HE.out; rw [hls] at this; cases this))).symm, heW.trans hx1⟩
   refine wp_region_ext (by kernel_rfl) (by kernel_rfl) ?_
   repeat (first | go_big_quiet_skip | (go_big_quiet_want; first | (refine quiet_load _ _ _ ?_ rfl rfl (fun wq hq => ?_) ?_; rotate_left; (focus (have q0 := hq.cell x0; have q1 := hq.cell x1; have q2 := hq.cell jb'; have p0 := hq.cell e0'; have p1 := hq.cell e1'; go_simp; first | done | rfl)); (try simp only [redA, Act.put]); go_big_quiet_on) | (refine quiet_lookup _ _ _ _ _ ?_ rfl rfl rfl (fun wq hq => ?_) ?_; rotate_left; (focus (exact (by have c := (hset'.ext hq).look (t := 76) Tryz.underlying2 Tryz.underlying76 Tryz.underlying4 (zb _) hw; rw [hnu] at c; exact c))); (try simp only [redA, Act.put]); go_big_quiet_on) | (go_big_quiet_op; first | go_big_quiet_on | (refine ⟨_, fun _ _ => rfl, ?_⟩; go_big_quiet_on) | (apply Exists.intro; refine ⟨fun wq hq => ?_, ?_⟩; (focus (first | exact call_same hq (by have c := idOk_c wq d.Id; rw [hid] at c; exact c) | exact call_same hq (by have c := timeOk_c wq d.Due; rw [htm] at c; exact c) | exact call_ext hq (by have c := dueLess_c wq e d; rw [hls] at c; exact c))); go_big_quiet_on))))
   refine wpQuiet_nil ?_
   intro w1 hx1
   have x0' := hx1.cell x0
   go_wp2_with (at_mapUpdate; refine wpList_put rfl _ _ _ 76 rfl 2 4 Tryz.underlying2 Tryz.underlying76 Tryz.underlying4 _ _ _ _ rfl rfl rfl (hset'.ext hx1) (by unfold maxLen; omega) hw ?_; intro w2 hset2 hgr2)
   have hx2 := (heW.trans hx1).grownOwn hgr2 oM
   go_roundw
   case rel => exact ⟨k + 1, by omega, by go_num, hx2, hgr2.cell (hx1.cell jb') (by first | (simp; done) | (simp; omega)), _, hset2, HN.out (fun e' _ hl => by rw [HE.out] at hl; obtain rfl := Option.some.inj hl; exact hls), HS.out⟩
   case measure => simp [intOf]; omega
  obtain rfl : k = j.Open.length := by omega
  go_wp2
  go_ret
  exact ⟨congrArg (fun z => Ending.returned (.bool z)) (HB0.out.trans (openOk_true ⟨by omega, HO.out⟩)).symm, he⟩
theorem jobsOk2_c (w : World) (j : DJobs) (s : Value) (h : Ints 2 w s (dues j.Open)) : Calls Tryz.prog 49 #[.agg #[.int .i64 j.Index, .int .i64 j.Time, .int .i64 j.Holder, .int .i64 j.Epoch, .int .i64 j.Until, s]] w (RetV w (.bool (jobsOk2 j))) := by
 by_cases hg : inb j.Index 0 2000 = true ∧ timeOk j.Time = true ∧ (j.Holder == 0 || schedOk j.Holder) = true ∧ inb j.Epoch 0 1000 = true ∧ inb j.Until 0 1001000 = true ∧ j.Open.length ≤ 8
 ·
  obtain ⟨h1, h2, h3, h4, h5, h8⟩ := hg
  cases h6 : (j.Holder == 0)
  ·
   exact jobsOk2_held w j s h h1 h2 h6 (by simpa [h6] using h3) h4 h5 h8
  exact jobsOk2_free w j s h h1 h2 h6 h4 h5 h8
 exact jobsOk2_bad w j s h hg
theorem sViewOk_c (w : World) (v : DView) (s : Value) (h : Ints 2 w s (dues v.Jobs.Open)) : Calls Tryz.prog 22 #[.agg #[.int .i64 v.Jobs.Index, .int .i64 v.Jobs.Time, .int .i64 v.Jobs.Holder, .int .i64 v.Jobs.Epoch, .int .i64 v.Jobs.Until, s]] w (RetV w (.bool (jobsOk2 v.Jobs))) := by
 obtain ⟨a, n, c, rfl⟩ := h.shape
 go_enter Tryz.func22, Tryz.ntmps22
 go_wp2_with (first | (go_at_call 44; refine (sJobsOk2_c _ v.Jobs _ (h.ext xT)).mono ?_; rintro e w1 ⟨rfl, hx1⟩; have hz1 := hx1.size; obtain ⟨hc1, hf1⟩ := hx1.cells; (repeat (first | simp only [World.size_alloc] at hz1 hc1 hf1 | simp only [World.size_setCell] at hz1 hc1 hf1)); have hy1_0 : w.heap.size < w1.heap.size := oM))
 go_ret
 refine ⟨rfl, ?_⟩
 exact xT
theorem viewOk_c (w : World) (v : DView) (s : Value) (h : Ints 2 w s (dues v.Jobs.Open)) : Calls Tryz.prog 26 #[.agg #[.int .i64 v.Jobs.Index, .int .i64 v.Jobs.Time, .int .i64 v.Jobs.Holder, .int .i64 v.Jobs.Epoch, .int .i64 v.Jobs.Until, s]] w (RetV w (.bool (jobsOk2 v.Jobs))) := by
 obtain ⟨a, n, c, rfl⟩ := h.shape
 go_enter Tryz.func26, Tryz.ntmps26
 go_wp2_with (first | (go_at_call 49; refine (jobsOk2_c _ v.Jobs _ (h.ext xT)).mono ?_; rintro e w1 ⟨rfl, hx1⟩; have hz1 := hx1.size; obtain ⟨hc1, hf1⟩ := hx1.cells; (repeat (first | simp only [World.size_alloc] at hz1 hc1 hf1 | simp only [World.size_setCell] at hz1 hc1 hf1)); have hy1_0 : w.heap.size < w1.heap.size := oM))
 go_ret
 refine ⟨rfl, ?_⟩
 exact xT
theorem l1Max_c (w : World) (x y : Int) : Calls Tryz.prog 80 #[.int .i64 x, .int .i64 y] w fun e w' => e = .returned (.int .i64 (max x y)) ∧ w = w' := by
 by_cases h : y < x
 ·
  rw [show max x y = x by omega]
  go_enter Tryz.func80, Tryz.ntmps80
  go_wp2
  go_ret
  exact ⟨rfl, rfl⟩
 rw [show max x y = y by omega]
 go_enter Tryz.func80, Tryz.ntmps80
 go_wp2
 go_ret
 exact ⟨rfl, rfl⟩
theorem sStaleIn_c (w : World) (v : DView) (s : Value) (index : Int) (h : Ints 2 w s (dues v.Jobs.Open)) : Calls Tryz.prog 67 #[.agg #[.int .i64 v.Jobs.Index, .int .i64 v.Jobs.Time, .int .i64 v.Jobs.Holder, .int .i64 v.Jobs.Epoch, .int .i64 v.Jobs.Until, s], .int .i64 index] w (RetV w (.bool (staleIn v index))) := by
 obtain ⟨a, n, c, rfl⟩ := h.shape
 cases hb : jobsOk2 v.Jobs
 ·
  have hv : staleIn v index = false := by simp [staleIn, hb]
  rw [hv]
  clear hv
  go_enter Tryz.func67, Tryz.ntmps67
  go_wp2_with (first | (go_at_call 22; refine (sViewOk_c _ v _ (h.ext xT)).mono ?_; rintro e w1 ⟨rfl, hx1⟩; rw [hb]; have hz1 := hx1.size; obtain ⟨hc1, hf1⟩ := hx1.cells; (repeat (first | simp only [World.size_alloc] at hz1 hc1 hf1 | simp only [World.size_setCell] at hz1 hc1 hf1)); have hy1_0 : w.heap.size < w1.heap.size := oM))
  all_goals
   go_ret
   refine ⟨rfl, ?_⟩
   exact xT
 have hv : staleIn v index = decide (v.Jobs.Index < index) := by simp [staleIn, hb]
 rw [hv]
 clear hv
 go_enter Tryz.func67, Tryz.ntmps67
 go_wp2_with (first | (go_at_call 22; refine (sViewOk_c _ v _ (h.ext xT)).mono ?_; rintro e w1 ⟨rfl, hx1⟩; rw [hb]; have hz1 := hx1.size; obtain ⟨hc1, hf1⟩ := hx1.cells; (repeat (first | simp only [World.size_alloc] at hz1 hc1 hf1 | simp only [World.size_setCell] at hz1 hc1 hf1)); have hy1_0 : w.heap.size < w1.heap.size := oM))
 all_goals
  go_ret
  refine ⟨rfl, ?_⟩
  exact xT
theorem sGuessOf_c (w : World) (v : DView) (s : Value) (now : Int) (h : Ints 2 w s (dues v.Jobs.Open)) : Calls Tryz.prog 76 #[.agg #[.int .i64 v.Jobs.Index, .int .i64 v.Jobs.Time, .int .i64 v.Jobs.Holder, .int .i64 v.Jobs.Epoch, .int .i64 v.Jobs.Until, s], .int .i64 now] w (RetV w (.int .i64 (guessOf v now))) := by
 obtain ⟨a, n, c, rfl⟩ := h.shape
 cases hb : jobsOk2 v.Jobs
 ·
  have hv : guessOf v now = -1 := by simp [guessOf, hb]
  rw [hv]
  clear hv
  go_enter Tryz.func76, Tryz.ntmps76
  go_wp2_with (first | (go_at_call 22; refine (sViewOk_c _ v _ (h.ext xT)).mono ?_; rintro e w1 ⟨rfl, hx1⟩; rw [hb]; have hz1 := hx1.size; obtain ⟨hc1, hf1⟩ := hx1.cells; (repeat (first | simp only [World.size_alloc] at hz1 hc1 hf1 | simp only [World.size_setCell] at hz1 hc1 hf1)); have hy1_0 : w.heap.size < w1.heap.size := oM) | (go_at_call 66; refine (l16Time_c _ _).mono ?_; rintro e wt ⟨rfl, rfl⟩; try rw [ht]))
  all_goals
   go_ret
   refine ⟨rfl, ?_⟩
   exact xT
 cases ht : timeOk now
 ·
  have hv : guessOf v now = -1 := by simp [guessOf, hb, ht]
  rw [hv]
  clear hv
  go_enter Tryz.func76, Tryz.ntmps76
  go_wp2_with (first | (go_at_call 22; refine (sViewOk_c _ v _ (h.ext xT)).mono ?_; rintro e w1 ⟨rfl, hx1⟩; rw [hb]; have hz1 := hx1.size; obtain ⟨hc1, hf1⟩ := hx1.cells; (repeat (first | simp only [World.size_alloc] at hz1 hc1 hf1 | simp only [World.size_setCell] at hz1 hc1 hf1)); have hy1_0 : w.heap.size < w1.heap.size := oM) | (go_at_call 66; refine (l16Time_c _ _).mono ?_; rintro e wt ⟨rfl, rfl⟩; try rw [ht]))
  all_goals
   go_ret
   refine ⟨rfl, ?_⟩
   exact xT
 have hv : guessOf v now = max v.Jobs.Time now := by simp [guessOf, hb, ht]
 rw [hv]
 clear hv
 go_enter Tryz.func76, Tryz.ntmps76
 go_wp2_with (first | (go_at_call 22; refine (sViewOk_c _ v _ (h.ext xT)).mono ?_; rintro e w1 ⟨rfl, hx1⟩; rw [hb]; have hz1 := hx1.size; obtain ⟨hc1, hf1⟩ := hx1.cells; (repeat (first | simp only [World.size_alloc] at hz1 hc1 hf1 | simp only [World.size_setCell] at hz1 hc1 hf1)); have hy1_0 : w.heap.size < w1.heap.size := oM) | (go_at_call 66; refine (l16Time_c _ _).mono ?_; rintro e wt ⟨rfl, rfl⟩; try rw [ht]) | (go_at_call 80; refine (l1Max_c _ _ _).mono ?_; rintro e wm ⟨rfl, rfl⟩))
 all_goals
  go_ret
  refine ⟨by first | rfl | (simp; done) | (simp; omega), ?_⟩
  exact xT
noncomputable def freeIn (v : DView) (now : Int) : Bool := decide (0 ≤ guessOf v now) && (decide (v.Jobs.Holder = 0) || decide (v.Jobs.Until ≤ guessOf v now))
noncomputable def holdsIn (v : DView) (id now : Int) : Bool := decide (0 ≤ guessOf v now) && (schedOk id && (decide (v.Jobs.Holder = id) && decide (guessOf v now < v.Jobs.Until)))
theorem sFreeIn_c (w : World) (v : DView) (s : Value) (now : Int) (h : Ints 2 w s (dues v.Jobs.Open)) : Calls Tryz.prog 70 #[.agg #[.int .i64 v.Jobs.Index, .int .i64 v.Jobs.Time, .int .i64 v.Jobs.Holder, .int .i64 v.Jobs.Epoch, .int .i64 v.Jobs.Until, s], .int .i64 now] w (RetV w (.bool (freeIn v now))) := by
 obtain ⟨a, n, c, rfl⟩ := h.shape
 generalize hg : guessOf v now = G
 have hv : freeIn v now = (decide (0 ≤ G) && (decide (v.Jobs.Holder = 0) || decide (v.Jobs.Until ≤ G))) := by simp [freeIn, hg]
 rw [hv]
 clear hv
 go_enter Tryz.func70, Tryz.ntmps70
 go_wp2_with (first | (go_at_call 76; refine (sGuessOf_c _ v _ _ (h.ext xT)).mono ?_; rintro e w1 ⟨rfl, hx1⟩; rw [hg]; have hz1 := hx1.size; obtain ⟨hc1, hf1⟩ := hx1.cells; (repeat (first | simp only [World.size_alloc] at hz1 hc1 hf1 | simp only [World.size_setCell] at hz1 hc1 hf1)); have hy1_0 : w.heap.size < w1.heap.size := oM))
 all_goals
  go_ret
  refine ⟨by first | (simp [*]; done) | (simp [*]; omega) | (simp_all; done) | (simp_all; omega), ?_⟩
  exact xT
theorem sHoldsIn_c (w : World) (v : DView) (s : Value) (id : Int) (now : Int) (h : Ints 2 w s (dues v.Jobs.Open)) : Calls Tryz.prog 69 #[.agg #[.int .i64 v.Jobs.Index, .int .i64 v.Jobs.Time, .int .i64 v.Jobs.Holder, .int .i64 v.Jobs.Epoch, .int .i64 v.Jobs.Until, s], .int .i64 id, .int .i64 now] w (RetV w (.bool (holdsIn v id now))) := by
 obtain ⟨a, n, c, rfl⟩ := h.shape
 generalize hg : guessOf v now = G
 cases hs : schedOk id
 all_goals
  have hv : holdsIn v id now = (decide (0 ≤ G) && (schedOk id && (decide (v.Jobs.Holder = id) && decide (G < v.Jobs.Until)))) := by simp [holdsIn, hg]
  rw [hv, hs]
  clear hv
  go_enter Tryz.func69, Tryz.ntmps69
  go_wp2_with (first | (go_at_call 76; refine (sGuessOf_c _ v _ _ (h.ext xT)).mono ?_; rintro e w1 ⟨rfl, hx1⟩; rw [hg]; have hz1 := hx1.size; obtain ⟨hc1, hf1⟩ := hx1.cells; (repeat (first | simp only [World.size_alloc] at hz1 hc1 hf1 | simp only [World.size_setCell] at hz1 hc1 hf1)); have hy1_0 : w.heap.size < w1.heap.size := oM) | (go_at_call 20; refine (l16Who_c _ _).mono ?_; rintro e wt ⟨rfl, rfl⟩; try rw [hs]))
  all_goals
   go_ret
   refine ⟨by first | (simp [*]; done) | (simp [*]; omega) | (simp_all; done) | (simp_all; omega), ?_⟩
   exact xT
def opZ (o : DOp) : Bool := decide (o.Kind = 0 ∧ o.A = 0 ∧ o.B = 0 ∧ o.C = 0 ∧ o.D = 0)
def ackOk (a : DAck) : Bool := inb a.Client 2 5 && (inb a.Seq 1 2000 && (inb a.Last a.Seq 2000 && (if a.Seq < a.Last then decide (a.Index = 0) else inb a.Index 1 2000)))
noncomputable def schedOkS (s : DSched) : Bool := schedOk s.Id && (inb s.Seq 0 2000 && (jobsOk2 s.View.Jobs && (inb s.Index 0 2000 && (if s.Busy then decide (0 < s.Seq) && (opOk s.Op && (decide (s.Op.Kind = 4) || decide (s.Op.Kind = 5))) else opZ s.Op))))
theorem sViewOk_l (w : World) (c0_0 : Int) (c0_1 : Int) (c0_2 : Int) (c0_3 : Int) (c0_4 : Int) (s0_5 : Value) (l0_5 : List DDue) (h0_5 : Ints 2 w s0_5 (dues l0_5)) :
  Calls Tryz.prog 22 #[.agg #[.int .i64 c0_0, .int .i64 c0_1, .int .i64 c0_2, .int .i64 c0_3, .int .i64 c0_4, s0_5]] w (RetV w (.bool (jobsOk2 (⟨⟨c0_0, c0_1, c0_2, c0_3, c0_4, l0_5⟩⟩ : DView).Jobs))) := sViewOk_c w (⟨⟨c0_0, c0_1, c0_2, c0_3, c0_4, l0_5⟩⟩ : DView) s0_5 h0_5
theorem viewOk_l (w : World) (c0_0 : Int) (c0_1 : Int) (c0_2 : Int) (c0_3 : Int) (c0_4 : Int) (s0_5 : Value) (l0_5 : List DDue) (h0_5 : Ints 2 w s0_5 (dues l0_5)) :
  Calls Tryz.prog 26 #[.agg #[.int .i64 c0_0, .int .i64 c0_1, .int .i64 c0_2, .int .i64 c0_3, .int .i64 c0_4, s0_5]] w (RetV w (.bool (jobsOk2 (⟨⟨c0_0, c0_1, c0_2, c0_3, c0_4, l0_5⟩⟩ : DView).Jobs))) := viewOk_c w (⟨⟨c0_0, c0_1, c0_2, c0_3, c0_4, l0_5⟩⟩ : DView) s0_5 h0_5
theorem l7Key_c (w : World) (c0_0 : Int) :
  Calls Tryz.prog 45 #[.int .i64 c0_0] w (fun e w' => e = .returned (.bool (inb c0_0 0 9)) ∧ w = w') := by
 go_enter Tryz.func45, Tryz.ntmps45
 go_wp2_with (first | (go_at_call 21; refine (l1In_c _ _ _ _  ).mono ?_; rintro e wa ⟨rfl, rfl⟩))
 all_goals
  go_ret
  refine ⟨by first | rfl | (simp [*]; done) | (simp [*]; omega) | (simp_all [bq, bn]; done) | (simp_all [bq, bn]; omega), by rfl⟩
theorem l7Value_c (w : World) (c0_0 : Int) :
  Calls Tryz.prog 46 #[.int .i64 c0_0] w (fun e w' => e = .returned (.bool (inb c0_0 0 999)) ∧ w = w') := by
 go_enter Tryz.func46, Tryz.ntmps46
 go_wp2_with (first | (go_at_call 21; refine (l1In_c _ _ _ _  ).mono ?_; rintro e wa ⟨rfl, rfl⟩))
 all_goals
  go_ret
  refine ⟨by first | rfl | (simp [*]; done) | (simp [*]; omega) | (simp_all [bq, bn]; done) | (simp_all [bq, bn]; omega), by rfl⟩
theorem l7Seq_c (w : World) (c0_0 : Int) :
  Calls Tryz.prog 29 #[.int .i64 c0_0] w (fun e w' => e = .returned (.bool (inb c0_0 1 2000)) ∧ w = w') := by
 go_enter Tryz.func29, Tryz.ntmps29
 go_wp2_with (first | (go_at_call 21; refine (l1In_c _ _ _ _  ).mono ?_; rintro e wa ⟨rfl, rfl⟩))
 all_goals
  go_ret
  refine ⟨by first | rfl | (simp [*]; done) | (simp [*]; omega) | (simp_all [bq, bn]; done) | (simp_all [bq, bn]; omega), by rfl⟩
theorem l7Index_c (w : World) (c0_0 : Int) :
  Calls Tryz.prog 30 #[.int .i64 c0_0] w (fun e w' => e = .returned (.bool (inb c0_0 1 2000)) ∧ w = w') := by
 go_enter Tryz.func30, Tryz.ntmps30
 go_wp2_with (first | (go_at_call 21; refine (l1In_c _ _ _ _  ).mono ?_; rintro e wa ⟨rfl, rfl⟩))
 all_goals
  go_ret
  refine ⟨by first | rfl | (simp [*]; done) | (simp [*]; omega) | (simp_all [bq, bn]; done) | (simp_all [bq, bn]; omega), by rfl⟩
theorem sAskerOk_c (w : World) (c0_0 : Int) :
  Calls Tryz.prog 28 #[.int .i64 c0_0] w (fun e w' => e = .returned (.bool (inb c0_0 2 5)) ∧ w = w') := by
 go_enter Tryz.func28, Tryz.ntmps28
 go_wp2_with (first | (go_at_call 21; refine (l1In_c _ _ _ _  ).mono ?_; rintro e wa ⟨rfl, rfl⟩))
 all_goals
  go_ret
  refine ⟨by first | rfl | (simp [*]; done) | (simp [*]; omega) | (simp_all [bq, bn]; done) | (simp_all [bq, bn]; omega), by rfl⟩
theorem keyOk_c (w : World) (c0_0 : Int) :
  Calls Tryz.prog 50 #[.int .i64 c0_0] w (fun e w' => e = .returned (.bool (inb c0_0 0 9)) ∧ w = w') := by
 go_enter Tryz.func50, Tryz.ntmps50
 go_wp2_with (first | (go_at_call 25; refine (between_c _ _ _ _  ).mono ?_; rintro e wa ⟨rfl, rfl⟩))
 all_goals
  go_ret
  refine ⟨by first | rfl | (simp [*]; done) | (simp [*]; omega) | (simp_all [bq, bn]; done) | (simp_all [bq, bn]; omega), by rfl⟩
theorem valueOk_c (w : World) (c0_0 : Int) :
  Calls Tryz.prog 51 #[.int .i64 c0_0] w (fun e w' => e = .returned (.bool (inb c0_0 0 999)) ∧ w = w') := by
 go_enter Tryz.func51, Tryz.ntmps51
 go_wp2_with (first | (go_at_call 25; refine (between_c _ _ _ _  ).mono ?_; rintro e wa ⟨rfl, rfl⟩))
 all_goals
  go_ret
  refine ⟨by first | rfl | (simp [*]; done) | (simp [*]; omega) | (simp_all [bq, bn]; done) | (simp_all [bq, bn]; omega), by rfl⟩
theorem seqOk_c (w : World) (c0_0 : Int) :
  Calls Tryz.prog 42 #[.int .i64 c0_0] w (fun e w' => e = .returned (.bool (inb c0_0 1 2000)) ∧ w = w') := by
 go_enter Tryz.func42, Tryz.ntmps42
 go_wp2_with (first | (go_at_call 25; refine (between_c _ _ _ _  ).mono ?_; rintro e wa ⟨rfl, rfl⟩))
 all_goals
  go_ret
  refine ⟨by first | rfl | (simp [*]; done) | (simp [*]; omega) | (simp_all [bq, bn]; done) | (simp_all [bq, bn]; omega), by rfl⟩
theorem indexOk_c (w : World) (c0_0 : Int) :
  Calls Tryz.prog 43 #[.int .i64 c0_0] w (fun e w' => e = .returned (.bool (inb c0_0 1 2000)) ∧ w = w') := by
 go_enter Tryz.func43, Tryz.ntmps43
 go_wp2_with (first | (go_at_call 25; refine (between_c _ _ _ _  ).mono ?_; rintro e wa ⟨rfl, rfl⟩))
 all_goals
  go_ret
  refine ⟨by first | rfl | (simp [*]; done) | (simp [*]; omega) | (simp_all [bq, bn]; done) | (simp_all [bq, bn]; omega), by rfl⟩
theorem askerOk_c (w : World) (c0_0 : Int) :
  Calls Tryz.prog 41 #[.int .i64 c0_0] w (fun e w' => e = .returned (.bool (inb c0_0 2 5)) ∧ w = w') := by
 go_enter Tryz.func41, Tryz.ntmps41
 go_wp2_with (first | (go_at_call 25; refine (between_c _ _ _ _  ).mono ?_; rintro e wa ⟨rfl, rfl⟩))
 all_goals
  go_ret
  refine ⟨by first | rfl | (simp [*]; done) | (simp [*]; omega) | (simp_all [bq, bn]; done) | (simp_all [bq, bn]; omega), by rfl⟩
theorem sOpOk_c (w : World) (c0_0 : Int) (c0_1 : Int) (c0_2 : Int) (c0_3 : Int) (c0_4 : Int) :
  Calls Tryz.prog 23 #[.agg #[.int .i64 c0_0, .int .i64 c0_1, .int .i64 c0_2, .int .i64 c0_3, .int .i64 c0_4]] w (RetV w (.bool (opOk (⟨c0_0, c0_1, c0_2, c0_3, c0_4⟩ : DOp)))) := by
 go_enter Tryz.func23, Tryz.ntmps23
 go_wp2_with (first | (go_at_call 45; refine (l7Key_c _ _  ).mono ?_; rintro e wa ⟨rfl, rfl⟩) | (go_at_call 46; refine (l7Value_c _ _  ).mono ?_; rintro e wb ⟨rfl, rfl⟩) | (go_at_call 47; refine (l7Id_c _ _  ).mono ?_; rintro e wc ⟨rfl, rfl⟩) | (go_at_call 48; refine (sTimeOk_c _ _  ).mono ?_; rintro e wd ⟨rfl, rfl⟩) | (go_at_call 21; refine (l1In_c _ _ _ _  ).mono ?_; rintro e we ⟨rfl, rfl⟩))
 all_goals
  go_ret
  refine ⟨by first | rfl | (simp [opOk, *]; done) | (simp [opOk, *]; omega) | (simp_all [opOk, bq, bn]; done) | (simp_all [opOk, bq, bn]; omega), ?_⟩
  exact xT
theorem opOk_c (w : World) (c0_0 : Int) (c0_1 : Int) (c0_2 : Int) (c0_3 : Int) (c0_4 : Int) :
  Calls Tryz.prog 27 #[.agg #[.int .i64 c0_0, .int .i64 c0_1, .int .i64 c0_2, .int .i64 c0_3, .int .i64 c0_4]] w (RetV w (.bool (opOk (⟨c0_0, c0_1, c0_2, c0_3, c0_4⟩ : DOp)))) := by
 go_enter Tryz.func27, Tryz.ntmps27
 go_wp2_with (first | (go_at_call 50; refine (keyOk_c _ _  ).mono ?_; rintro e wa ⟨rfl, rfl⟩) | (go_at_call 51; refine (valueOk_c _ _  ).mono ?_; rintro e wb ⟨rfl, rfl⟩) | (go_at_call 52; refine (idOk_c _ _  ).mono ?_; rintro e wc ⟨rfl, rfl⟩) | (go_at_call 53; refine (timeOk_c _ _  ).mono ?_; rintro e wd ⟨rfl, rfl⟩) | (go_at_call 25; refine (between_c _ _ _ _  ).mono ?_; rintro e we ⟨rfl, rfl⟩))
 all_goals
  go_ret
  refine ⟨by first | rfl | (simp [opOk, *]; done) | (simp [opOk, *]; omega) | (simp_all [opOk, bq, bn]; done) | (simp_all [opOk, bq, bn]; omega), ?_⟩
  exact xT
theorem sAckOk_c (w : World) (c0_0 : Int) (c0_1 : Int) (c0_2 : Int) (c0_3 : Int) :
  Calls Tryz.prog 10 #[.agg #[.int .i64 c0_0, .int .i64 c0_1, .int .i64 c0_2, .int .i64 c0_3]] w (RetV w (.bool (ackOk (⟨c0_0, c0_1, c0_2, c0_3⟩ : DAck)))) := by
 go_enter Tryz.func10, Tryz.ntmps10
 go_wp2_with (first | (go_at_call 28; refine (sAskerOk_c _ _  ).mono ?_; rintro e wa ⟨rfl, rfl⟩) | (go_at_call 29; refine (l7Seq_c _ _  ).mono ?_; rintro e wb ⟨rfl, rfl⟩) | (go_at_call 21; refine (l1In_c _ _ _ _  ).mono ?_; rintro e wc ⟨rfl, rfl⟩) | (go_at_call 30; refine (l7Index_c _ _  ).mono ?_; rintro e wd ⟨rfl, rfl⟩))
 all_goals
  go_ret
  refine ⟨by first | rfl | (simp [ackOk, inb, *]; done) | (simp [ackOk, inb, *]; omega) | (simp_all [ackOk, inb, bq, bn]; done) | (simp_all [ackOk, inb, bq, bn]; omega), ?_⟩
  exact xT
theorem ackOk_c (w : World) (c0_0 : Int) (c0_1 : Int) (c0_2 : Int) (c0_3 : Int) :
  Calls Tryz.prog 19 #[.agg #[.int .i64 c0_0, .int .i64 c0_1, .int .i64 c0_2, .int .i64 c0_3]] w (RetV w (.bool (ackOk (⟨c0_0, c0_1, c0_2, c0_3⟩ : DAck)))) := by
 go_enter Tryz.func19, Tryz.ntmps19
 go_wp2_with (first | (go_at_call 41; refine (askerOk_c _ _  ).mono ?_; rintro e wa ⟨rfl, rfl⟩) | (go_at_call 42; refine (seqOk_c _ _  ).mono ?_; rintro e wb ⟨rfl, rfl⟩) | (go_at_call 25; refine (between_c _ _ _ _  ).mono ?_; rintro e wc ⟨rfl, rfl⟩) | (go_at_call 43; refine (indexOk_c _ _  ).mono ?_; rintro e wd ⟨rfl, rfl⟩))
 all_goals
  go_ret
  refine ⟨by first | rfl | (simp [ackOk, inb, *]; done) | (simp [ackOk, inb, *]; omega) | (simp_all [ackOk, inb, bq, bn]; done) | (simp_all [ackOk, inb, bq, bn]; omega), ?_⟩
  exact xT
theorem sSchedOk_c (w : World) (c0_0 : Int) (c0_1 : Int) (c0_2 : Int) (c0_3 : Int) (c0_4 : Int) (c0_5 : Int) (c0_6 : Int) (s0_7 : Value) (l0_7 : List DDue) (c0_8 : Bool) (c0_9 : Int) (c0_10 : Int) (c0_11 : Int) (c0_12 : Int) (c0_13 : Int) (c0_14 : Int) (h0_7 : Ints 2 w s0_7 (dues l0_7)) :
  Calls Tryz.prog 8 #[.agg #[.int .i64 c0_0, .int .i64 c0_1, .int .i64 c0_2, .int .i64 c0_3, .int .i64 c0_4, .int .i64 c0_5, .int .i64 c0_6, s0_7, .bool c0_8, .int .i64 c0_9, .int .i64 c0_10, .int .i64 c0_11, .int .i64 c0_12, .int .i64 c0_13, .int .i64 c0_14]] w (RetV w (.bool (schedOkS (⟨c0_0, c0_1, ⟨⟨c0_2, c0_3, c0_4, c0_5, c0_6, l0_7⟩⟩, c0_8, ⟨c0_9, c0_10, c0_11, c0_12, c0_13⟩, c0_14⟩ : DSched)))) := by
 obtain ⟨a0_7, n0_7, k0_7, rfl⟩ := h0_7.shape
 go_enter Tryz.func8, Tryz.ntmps8
 go_wp2_with (first | (go_at_call 20; refine (l16Who_c _ _  ).mono ?_; rintro e wa ⟨rfl, rfl⟩) | (go_at_call 21; refine (l1In_c _ _ _ _  ).mono ?_; rintro e wb ⟨rfl, rfl⟩) | (go_at_call 22; refine (sViewOk_l _ _ _ _ _ _ _ _ (by first | (with_reducible exact Ints.ext (by assumption) xT) | (with_reducible exact Ints.ext (OwnI.ints (by assumption)) xT) | with_reducible exact rnil_dues _ _) ).mono ?_; rintro e wc ⟨rfl, hxc⟩; have hzc := hxc.size; obtain ⟨hcc, hfc⟩ := hxc.cells; (repeat (first | simp only [World.size_alloc] at hzc hcc hfc | simp only [World.size_setCell] at hzc hcc hfc)); (try have hcrc_a := fun u v (h0 : wa.heap.size ≤ u) h => hcc u v h); (try have hfrc_a := fun u v (h0 : wa.heap.size ≤ u) h => hfc u v h); (try have hyc_a_0 : wa.heap.size < wc.heap.size := oM); (try have hyc_a_1 : wa.heap.size + 1 < wc.heap.size := oM); (try have hyc_a_2 : wa.heap.size + 1 + 1 < wc.heap.size := oM); (try have hcrc_b := fun u v (h0 : wb.heap.size ≤ u) h => hcc u v h); (try have hfrc_b := fun u v (h0 : wb.heap.size ≤ u) h => hfc u v h); (try have hyc_b_0 : wb.heap.size < wc.heap.size := oM); (try have hyc_b_1 : wb.heap.size + 1 < wc.heap.size := oM); (try have hyc_b_2 : wb.heap.size + 1 + 1 < wc.heap.size := oM); (try have hcrc_d := fun u v (h0 : wd.heap.size ≤ u) h => hcc u v h); (try have hfrc_d := fun u v (h0 : wd.heap.size ≤ u) h => hfc u v h); (try have hyc_d_0 : wd.heap.size < wc.heap.size := oM); (try have hyc_d_1 : wd.heap.size + 1 < wc.heap.size := oM); (try have hyc_d_2 : wd.heap.size + 1 + 1 < wc.heap.size := oM); have Pc0_0 := hcc (w.heap.size) 0 oM; have Rc0_0 := hfc (w.heap.size) 0 oM; have Pc0_1 := hcc (w.heap.size) 1 oM; have Rc0_1 := hfc (w.heap.size) 1 oM; have Pc0_2 := hcc (w.heap.size) 2 oM; have Rc0_2 := hfc (w.heap.size) 2 oM; have Pc0_3 := hcc (w.heap.size) 3 oM; have Rc0_3 := hfc (w.heap.size) 3 oM; have Pc0_4 := hcc (w.heap.size) 4 oM; have Rc0_4 := hfc (w.heap.size) 4 oM; have Pc0_5 := hcc (w.heap.size) 5 oM; have Rc0_5 := hfc (w.heap.size) 5 oM; have Pc0_6 := hcc (w.heap.size) 6 oM; have Rc0_6 := hfc (w.heap.size) 6 oM; have Pc0_7 := hcc (w.heap.size) 7 oM; have Rc0_7 := hfc (w.heap.size) 7 oM; have Pc0_8 := hcc (w.heap.size) 8 oM; have Rc0_8 := hfc (w.heap.size) 8 oM; have Pc0_9 := hcc (w.heap.size) 9 oM; have Rc0_9 := hfc (w.heap.size) 9 oM; have Pc0_10 := hcc (w.heap.size) 10 oM; have Rc0_10 := hfc (w.heap.size) 10 oM; have Pc0_11 := hcc (w.heap.size) 11 oM; have Rc0_11 := hfc (w.heap.size) 11 oM; have Pc0_12 := hcc (w.heap.size) 12 oM; have Rc0_12 := hfc (w.heap.size) 12 oM; have Pc0_13 := hcc (w.heap.size) 13 oM; have Rc0_13 := hfc (w.heap.size) 13 oM; have Pc0_14 := hcc (w.heap.size) 14 oM; have Rc0_14 := hfc (w.heap.size) 14 oM; have hyc__0 : w.heap.size < wc.heap.size := oM; clear hcc hfc; (try simp [*] at Pc0_0); (try simp [*] at Rc0_0); (try simp [*] at Pc0_1); (try simp [*] at Rc0_1); (try simp [*] at Pc0_2); (try simp [*] at Rc0_2); (try simp [*] at Pc0_3); (try simp [*] at Rc0_3); (try simp [*] at Pc0_4); (try simp [*] at Rc0_4); (try simp [*] at Pc0_5); (try simp [*] at Rc0_5); (try simp [*] at Pc0_6); (try simp [*] at Rc0_6); (try simp [*] at Pc0_7); (try simp [*] at Rc0_7); (try simp [*] at Pc0_8); (try simp [*] at Rc0_8); (try simp [*] at Pc0_9); (try simp [*] at Rc0_9); (try simp [*] at Pc0_10); (try simp [*] at Rc0_10); (try simp [*] at Pc0_11); (try simp [*] at Rc0_11); (try simp [*] at Pc0_12); (try simp [*] at Rc0_12); (try simp [*] at Pc0_13); (try simp [*] at Rc0_13); (try simp [*] at Pc0_14); (try simp [*] at Rc0_14)) | (go_at_call 23; refine (sOpOk_c _ _ _ _ _ _  ).mono ?_; rintro e wd ⟨rfl, hxd⟩; have hzd := hxd.size; obtain ⟨hcd, hfd⟩ := hxd.cells; (repeat (first | simp only [World.size_alloc] at hzd hcd hfd | simp only [World.size_setCell] at hzd hcd hfd)); (try have hcrd_a := fun u v (h0 : wa.heap.size ≤ u) h => hcd u v h); (try have hfrd_a := fun u v (h0 : wa.heap.size ≤ u) h => hfd u v h); (try have hyd_a_0 : wa.heap.size < wd.heap.size := oM); (try have hyd_a_1 : wa.heap.size + 1 < wd.heap.size := oM); (try have hyd_a_2 : wa.heap.size + 1 + 1 < wd.heap.size := oM); (try have hcrd_b := fun u v (h0 : wb.heap.size ≤ u) h => hcd u v h); (try have hfrd_b := fun u v (h0 : wb.heap.size ≤ u) h => hfd u v h); (try have hyd_b_0 : wb.heap.size < wd.heap.size := oM); (try have hyd_b_1 : wb.heap.size + 1 < wd.heap.size := oM); (try have hyd_b_2 : wb.heap.size + 1 + 1 < wd.heap.size := oM); (try have hcrd_c := fun u v (h0 : wc.heap.size ≤ u) h => hcd u v h); (try have hfrd_c := fun u v (h0 : wc.heap.size ≤ u) h => hfd u v h); (try have hyd_c_0 : wc.heap.size < wd.heap.size := oM); (try have hyd_c_1 : wc.heap.size + 1 < wd.heap.size := oM); (try have hyd_c_2 : wc.heap.size + 1 + 1 < wd.heap.size := oM); have Pd0_0 := hcd (w.heap.size) 0 oM; have Rd0_0 := hfd (w.heap.size) 0 oM; have Pd0_1 := hcd (w.heap.size) 1 oM; have Rd0_1 := hfd (w.heap.size) 1 oM; have Pd0_2 := hcd (w.heap.size) 2 oM; have Rd0_2 := hfd (w.heap.size) 2 oM; have Pd0_3 := hcd (w.heap.size) 3 oM; have Rd0_3 := hfd (w.heap.size) 3 oM; have Pd0_4 := hcd (w.heap.size) 4 oM; have Rd0_4 := hfd (w.heap.size) 4 oM; have Pd0_5 := hcd (w.heap.size) 5 oM; have Rd0_5 := hfd (w.heap.size) 5 oM; have Pd0_6 := hcd (w.heap.size) 6 oM; have Rd0_6 := hfd (w.heap.size) 6 oM; have Pd0_7 := hcd (w.heap.size) 7 oM; have Rd0_7 := hfd (w.heap.size) 7 oM; have Pd0_8 := hcd (w.heap.size) 8 oM; have Rd0_8 := hfd (w.heap.size) 8 oM; have Pd0_9 := hcd (w.heap.size) 9 oM; have Rd0_9 := hfd (w.heap.size) 9 oM; have Pd0_10 := hcd (w.heap.size) 10 oM; have Rd0_10 := hfd (w.heap.size) 10 oM; have Pd0_11 := hcd (w.heap.size) 11 oM; have Rd0_11 := hfd (w.heap.size) 11 oM; have Pd0_12 := hcd (w.heap.size) 12 oM; have Rd0_12 := hfd (w.heap.size) 12 oM; have Pd0_13 := hcd (w.heap.size) 13 oM; have Rd0_13 := hfd (w.heap.size) 13 oM; have Pd0_14 := hcd (w.heap.size) 14 oM; have Rd0_14 := hfd (w.heap.size) 14 oM; have hyd__0 : w.heap.size < wd.heap.size := oM; clear hcd hfd; (try simp [*] at Pd0_0); (try simp [*] at Rd0_0); (try simp [*] at Pd0_1); (try simp [*] at Rd0_1); (try simp [*] at Pd0_2); (try simp [*] at Rd0_2); (try simp [*] at Pd0_3); (try simp [*] at Rd0_3); (try simp [*] at Pd0_4); (try simp [*] at Rd0_4); (try simp [*] at Pd0_5); (try simp [*] at Rd0_5); (try simp [*] at Pd0_6); (try simp [*] at Rd0_6); (try simp [*] at Pd0_7); (try simp [*] at Rd0_7); (try simp [*] at Pd0_8); (try simp [*] at Rd0_8); (try simp [*] at Pd0_9); (try simp [*] at Rd0_9); (try simp [*] at Pd0_10); (try simp [*] at Rd0_10); (try simp [*] at Pd0_11); (try simp [*] at Rd0_11); (try simp [*] at Pd0_12); (try simp [*] at Rd0_12); (try simp [*] at Pd0_13); (try simp [*] at Rd0_13); (try simp [*] at Pd0_14); (try simp [*] at Rd0_14)))
 all_goals
  go_ret
  refine ⟨by first | rfl | (simp [schedOkS, opZ, inb, *]; done) | (simp [schedOkS, opZ, inb, *]; omega) | (simp_all [schedOkS, opZ, inb, bq, bn]; done) | (simp_all [schedOkS, opZ, inb, bq, bn]; omega), ?_⟩
  exact xT
theorem schedOk_cS (w : World) (c0_0 : Int) (c0_1 : Int) (c0_2 : Int) (c0_3 : Int) (c0_4 : Int) (c0_5 : Int) (c0_6 : Int) (s0_7 : Value) (l0_7 : List DDue) (c0_8 : Bool) (c0_9 : Int) (c0_10 : Int) (c0_11 : Int) (c0_12 : Int) (c0_13 : Int) (c0_14 : Int) (h0_7 : Ints 2 w s0_7 (dues l0_7)) :
  Calls Tryz.prog 9 #[.agg #[.int .i64 c0_0, .int .i64 c0_1, .int .i64 c0_2, .int .i64 c0_3, .int .i64 c0_4, .int .i64 c0_5, .int .i64 c0_6, s0_7, .bool c0_8, .int .i64 c0_9, .int .i64 c0_10, .int .i64 c0_11, .int .i64 c0_12, .int .i64 c0_13, .int .i64 c0_14]] w (RetV w (.bool (schedOkS (⟨c0_0, c0_1, ⟨⟨c0_2, c0_3, c0_4, c0_5, c0_6, l0_7⟩⟩, c0_8, ⟨c0_9, c0_10, c0_11, c0_12, c0_13⟩, c0_14⟩ : DSched)))) := by
 obtain ⟨a0_7, n0_7, k0_7, rfl⟩ := h0_7.shape
 go_enter Tryz.func9, Tryz.ntmps9
 go_wp2_with (first | (go_at_call 24; refine (schedOk_c _ _  ).mono ?_; rintro e wa ⟨rfl, rfl⟩) | (go_at_call 25; refine (between_c _ _ _ _  ).mono ?_; rintro e wb ⟨rfl, rfl⟩) | (go_at_call 26; refine (viewOk_l _ _ _ _ _ _ _ _ (by first | (with_reducible exact Ints.ext (by assumption) xT) | (with_reducible exact Ints.ext (OwnI.ints (by assumption)) xT) | with_reducible exact rnil_dues _ _) ).mono ?_; rintro e wc ⟨rfl, hxc⟩; have hzc := hxc.size; obtain ⟨hcc, hfc⟩ := hxc.cells; (repeat (first | simp only [World.size_alloc] at hzc hcc hfc | simp only [World.size_setCell] at hzc hcc hfc)); (try have hcrc_a := fun u v (h0 : wa.heap.size ≤ u) h => hcc u v h); (try have hfrc_a := fun u v (h0 : wa.heap.size ≤ u) h => hfc u v h); (try have hyc_a_0 : wa.heap.size < wc.heap.size := oM); (try have hyc_a_1 : wa.heap.size + 1 < wc.heap.size := oM); (try have hyc_a_2 : wa.heap.size + 1 + 1 < wc.heap.size := oM); (try have hcrc_b := fun u v (h0 : wb.heap.size ≤ u) h => hcc u v h); (try have hfrc_b := fun u v (h0 : wb.heap.size ≤ u) h => hfc u v h); (try have hyc_b_0 : wb.heap.size < wc.heap.size := oM); (try have hyc_b_1 : wb.heap.size + 1 < wc.heap.size := oM); (try have hyc_b_2 : wb.heap.size + 1 + 1 < wc.heap.size := oM); (try have hcrc_d := fun u v (h0 : wd.heap.size ≤ u) h => hcc u v h); (try have hfrc_d := fun u v (h0 : wd.heap.size ≤ u) h => hfc u v h); (try have hyc_d_0 : wd.heap.size < wc.heap.size := oM); (try have hyc_d_1 : wd.heap.size + 1 < wc.heap.size := oM); (try have hyc_d_2 : wd.heap.size + 1 + 1 < wc.heap.size := oM); have Pc0_0 := hcc (w.heap.size) 0 oM; have Rc0_0 := hfc (w.heap.size) 0 oM; have Pc0_1 := hcc (w.heap.size) 1 oM; have Rc0_1 := hfc (w.heap.size) 1 oM; have Pc0_2 := hcc (w.heap.size) 2 oM; have Rc0_2 := hfc (w.heap.size) 2 oM; have Pc0_3 := hcc (w.heap.size) 3 oM; have Rc0_3 := hfc (w.heap.size) 3 oM; have Pc0_4 := hcc (w.heap.size) 4 oM; have Rc0_4 := hfc (w.heap.size) 4 oM; have Pc0_5 := hcc (w.heap.size) 5 oM; have Rc0_5 := hfc (w.heap.size) 5 oM; have Pc0_6 := hcc (w.heap.size) 6 oM; have Rc0_6 := hfc (w.heap.size) 6 oM; have Pc0_7 := hcc (w.heap.size) 7 oM; have Rc0_7 := hfc (w.heap.size) 7 oM; have Pc0_8 := hcc (w.heap.size) 8 oM; have Rc0_8 := hfc (w.heap.size) 8 oM; have Pc0_9 := hcc (w.heap.size) 9 oM; have Rc0_9 := hfc (w.heap.size) 9 oM; have Pc0_10 := hcc (w.heap.size) 10 oM; have Rc0_10 := hfc (w.heap.size) 10 oM; have Pc0_11 := hcc (w.heap.size) 11 oM; have Rc0_11 := hfc (w.heap.size) 11 oM; have Pc0_12 := hcc (w.heap.size) 12 oM; have Rc0_12 := hfc (w.heap.size) 12 oM; have Pc0_13 := hcc (w.heap.size) 13 oM; have Rc0_13 := hfc (w.heap.size) 13 oM; have Pc0_14 := hcc (w.heap.size) 14 oM; have Rc0_14 := hfc (w.heap.size) 14 oM; have hyc__0 : w.heap.size < wc.heap.size := oM; clear hcc hfc; (try simp [*] at Pc0_0); (try simp [*] at Rc0_0); (try simp [*] at Pc0_1); (try simp [*] at Rc0_1); (try simp [*] at Pc0_2); (try simp [*] at Rc0_2); (try simp [*] at Pc0_3); (try simp [*] at Rc0_3); (try simp [*] at Pc0_4); (try simp [*] at Rc0_4); (try simp [*] at Pc0_5); (try simp [*] at Rc0_5); (try simp [*] at Pc0_6); (try simp [*] at Rc0_6); (try simp [*] at Pc0_7); (try simp [*] at Rc0_7); (try simp [*] at Pc0_8); (try simp [*] at Rc0_8); (try simp [*] at Pc0_9); (try simp [*] at Rc0_9); (try simp [*] at Pc0_10); (try simp [*] at Rc0_10); (try simp [*] at Pc0_11); (try simp [*] at Rc0_11); (try simp [*] at Pc0_12); (try simp [*] at Rc0_12); (try simp [*] at Pc0_13); (try simp [*] at Rc0_13); (try simp [*] at Pc0_14); (try simp [*] at Rc0_14)) | (go_at_call 27; refine (opOk_c _ _ _ _ _ _  ).mono ?_; rintro e wd ⟨rfl, hxd⟩; have hzd := hxd.size; obtain ⟨hcd, hfd⟩ := hxd.cells; (repeat (first | simp only [World.size_alloc] at hzd hcd hfd | simp only [World.size_setCell] at hzd hcd hfd)); (try have hcrd_a := fun u v (h0 : wa.heap.size ≤ u) h => hcd u v h); (try have hfrd_a := fun u v (h0 : wa.heap.size ≤ u) h => hfd u v h); (try have hyd_a_0 : wa.heap.size < wd.heap.size := oM); (try have hyd_a_1 : wa.heap.size + 1 < wd.heap.size := oM); (try have hyd_a_2 : wa.heap.size + 1 + 1 < wd.heap.size := oM); (try have hcrd_b := fun u v (h0 : wb.heap.size ≤ u) h => hcd u v h); (try have hfrd_b := fun u v (h0 : wb.heap.size ≤ u) h => hfd u v h); (try have hyd_b_0 : wb.heap.size < wd.heap.size := oM); (try have hyd_b_1 : wb.heap.size + 1 < wd.heap.size := oM); (try have hyd_b_2 : wb.heap.size + 1 + 1 < wd.heap.size := oM); (try have hcrd_c := fun u v (h0 : wc.heap.size ≤ u) h => hcd u v h); (try have hfrd_c := fun u v (h0 : wc.heap.size ≤ u) h => hfd u v h); (try have hyd_c_0 : wc.heap.size < wd.heap.size := oM); (try have hyd_c_1 : wc.heap.size + 1 < wd.heap.size := oM); (try have hyd_c_2 : wc.heap.size + 1 + 1 < wd.heap.size := oM); have Pd0_0 := hcd (w.heap.size) 0 oM; have Rd0_0 := hfd (w.heap.size) 0 oM; have Pd0_1 := hcd (w.heap.size) 1 oM; have Rd0_1 := hfd (w.heap.size) 1 oM; have Pd0_2 := hcd (w.heap.size) 2 oM; have Rd0_2 := hfd (w.heap.size) 2 oM; have Pd0_3 := hcd (w.heap.size) 3 oM; have Rd0_3 := hfd (w.heap.size) 3 oM; have Pd0_4 := hcd (w.heap.size) 4 oM; have Rd0_4 := hfd (w.heap.size) 4 oM; have Pd0_5 := hcd (w.heap.size) 5 oM; have Rd0_5 := hfd (w.heap.size) 5 oM; have Pd0_6 := hcd (w.heap.size) 6 oM; have Rd0_6 := hfd (w.heap.size) 6 oM; have Pd0_7 := hcd (w.heap.size) 7 oM; have Rd0_7 := hfd (w.heap.size) 7 oM; have Pd0_8 := hcd (w.heap.size) 8 oM; have Rd0_8 := hfd (w.heap.size) 8 oM; have Pd0_9 := hcd (w.heap.size) 9 oM; have Rd0_9 := hfd (w.heap.size) 9 oM; have Pd0_10 := hcd (w.heap.size) 10 oM; have Rd0_10 := hfd (w.heap.size) 10 oM; have Pd0_11 := hcd (w.heap.size) 11 oM; have Rd0_11 := hfd (w.heap.size) 11 oM; have Pd0_12 := hcd (w.heap.size) 12 oM; have Rd0_12 := hfd (w.heap.size) 12 oM; have Pd0_13 := hcd (w.heap.size) 13 oM; have Rd0_13 := hfd (w.heap.size) 13 oM; have Pd0_14 := hcd (w.heap.size) 14 oM; have Rd0_14 := hfd (w.heap.size) 14 oM; have hyd__0 : w.heap.size < wd.heap.size := oM; clear hcd hfd; (try simp [*] at Pd0_0); (try simp [*] at Rd0_0); (try simp [*] at Pd0_1); (try simp [*] at Rd0_1); (try simp [*] at Pd0_2); (try simp [*] at Rd0_2); (try simp [*] at Pd0_3); (try simp [*] at Rd0_3); (try simp [*] at Pd0_4); (try simp [*] at Rd0_4); (try simp [*] at Pd0_5); (try simp [*] at Rd0_5); (try simp [*] at Pd0_6); (try simp [*] at Rd0_6); (try simp [*] at Pd0_7); (try simp [*] at Rd0_7); (try simp [*] at Pd0_8); (try simp [*] at Rd0_8); (try simp [*] at Pd0_9); (try simp [*] at Rd0_9); (try simp [*] at Pd0_10); (try simp [*] at Rd0_10); (try simp [*] at Pd0_11); (try simp [*] at Rd0_11); (try simp [*] at Pd0_12); (try simp [*] at Rd0_12); (try simp [*] at Pd0_13); (try simp [*] at Rd0_13); (try simp [*] at Pd0_14); (try simp [*] at Rd0_14)))
 all_goals
  go_ret
  refine ⟨by first | rfl | (simp [schedOkS, opZ, inb, *]; done) | (simp [schedOkS, opZ, inb, *]; omega) | (simp_all [schedOkS, opZ, inb, bq, bn]; done) | (simp_all [schedOkS, opZ, inb, bq, bn]; omega), ?_⟩
  exact xT
def dueIds (l : List DDue) (G : Int) : List Int := if G < 0 then [] else (l.filter (fun d => decide (d.Due ≤ G))).map DDue.Id
theorem dueIds_neg {l : List DDue} {G : Int} (h : G < 0) : dueIds l G = [] := by simp [dueIds, h]
theorem dueIds_yes {l : List DDue} {G : Int} {k : Nat} {d : DDue} (hd : l[k]? = some d) (h : 0 ≤ G) (h' : d.Due ≤ G) : dueIds (l.take (k + 1)) G = dueIds (l.take k) G ++ [d.Id] := by
 rw [List.take_add_one, hd]
 simp [dueIds, h', show ¬ G < 0 by omega]
theorem dueIds_no {l : List DDue} {G : Int} {k : Nat} {d : DDue} (hd : l[k]? = some d) (h' : ¬ d.Due ≤ G) : dueIds (l.take (k + 1)) G = dueIds (l.take k) G := by
 rw [List.take_add_one, hd]
 simp [dueIds, h']
theorem dueIds_len (l : List DDue) (G : Int) : (dueIds l G).length ≤ l.length := by
 unfold dueIds
 split
 ·
  simp
 simpa using List.length_filter_le _ l
theorem guess_len {v : DView} {now : Int} (h : 0 ≤ guessOf v now) : v.Jobs.Open.length ≤ 8 := by
 unfold guessOf at h
 split at h
 ·
  rename_i hh
  simp only [Bool.and_eq_true, jobsOk2] at hh
  exact (openOk_iff.1 hh.1.2.2.2.2.2).1
 omega
theorem l20Due_c (w : World) (v : DView) (s : Value) (now : Int) (h : Ints 2 w s (dues v.Jobs.Open)) : Calls Tryz.prog 75 #[.agg #[.int .i64 v.Jobs.Index, .int .i64 v.Jobs.Time, .int .i64 v.Jobs.Holder, .int .i64 v.Jobs.Epoch, .int .i64 v.Jobs.Until, s], .int .i64 now] w (Ret w fun s' w' => OwnI w.heap.size 2 1 w' s' (dueIds v.Jobs.Open (guessOf v now))) := by
 obtain ⟨a, cap, rfl, hcap, hm, ha⟩ := h.recs (f := DDue.ints) (fun _ => rfl) dC
 have h8 := @guess_len v now
 generalize hg : guessOf v now = G at h8
 have H8 := Lib.hid h8
 clear h8
 have HA := Lib.hid ha
 clear ha
 unfold maxLen at hm
 obtain ⟨i0, hi, hz0, hz1, hz2⟩ := info_parts info_Int64
 go_enter Tryz.func75, Tryz.ntmps75
 go_wp2_with fail
 refine (sGuessOf_c _ v _ _ (h.ext xT)).mono ?_
 rintro e w1 ⟨rfl, hx1⟩
 rw [hg]
 obtain ⟨W0, hW0⟩ : ∃ W0, W0 = w.alloc (.cells #[.int .i64 v.Jobs.Index, .int .i64 v.Jobs.Time, .int .i64 v.Jobs.Holder, .int .i64 v.Jobs.Epoch, .int .i64 v.Jobs.Until, .slice a v.Jobs.Open.length cap] 28) := ⟨_, rfl⟩
 rw [← hW0] at hx1
 have hs0 : W0.heap.size = w.heap.size + 1 := by rw [hW0]; simp
 have hE0 : Ext w W0 := by rw [hW0]; exact (Ext.refl _).alloc _
 have hE1 : Ext W0 w1 := Ext.trans ((Ext.refl _).alloc _) hx1
 have jb0 : W0.cell? ⟨w.heap.size, 5, none⟩ = some (.slice a v.Jobs.Open.length cap) := by rw [hW0]; simp
 have hown0 : OwnI (w.heap.size + 1) 2 1 w1 (.slice (some ⟨w.heap.size + 1, 0, none⟩) 0 0) [] := by
  rw [← hs0]
  exact Own.ext (Own.of_blk (cap := 0) (Blk.new W0 2 #[]) (Nat.le_refl _) rfl rfl (Nat.le_refl _) dC (Pre.zero _ _)) hx1
 clear hW0 hx1
 go_wp2_with fail
 go_loopw [5, 7] (fun s i wr => ∃ k : Nat, k ≤ v.Jobs.Open.length ∧ i = .int .i64 k ∧ Ext W0 wr ∧ OwnI (w.heap.size + 1) 2 1 wr s (dueIds (v.Jobs.Open.take k) G)) (fun _ i _ => v.Jobs.Open.length - (intOf i).toNat)
 case atStart => exact ⟨0, Nat.zero_le _, rfl, hE1, by simpa [dueIds] using hown0⟩
 case round =>
  obtain ⟨k, hk, rfl, he, hown⟩ := hrel
  obtain ⟨a1, n1, c1, rfl⟩ := hown.shape
  have jb := he.cell jb0
  have hsz := he.size
  by_cases hlt : k < v.Jobs.Open.length
  ·
   obtain ⟨d, b1, o1, hd, rfl, hb1, c⟩ := HA.out k hlt
   have d0 := (hE0.trans he).cell (c 0 _ dC rfl)
   have d1 := (hE0.trans he).cell (c 1 _ dC rfl)
   simp only [Nat.add_zero] at d0
   have HD := Lib.hid hd
   have hdl := dueIds_len (v.Jobs.Open.take k) G
   simp only [List.length_take] at hdl
   clear c hd
   go_wp2_with (first | (at_builtin; (have h8 := H8.out (by assumption); refine wp_append rfl _ _ 46 rfl 2 i0 _ 1 8 Tryz.underlying46 hi hz0 hz1 hz2 rfl dC (w.heap.size + 1) _ _ rfl (Own.ext hown ((Ext.refl _).alloc _)) _ ([d.Id].map (.int .i64)) rfl (Sl.one wr #[.int .i64 d.Id] _ 1 rfl) (ints_oneCell _ _) (k + 1) (by simp only [List.length_map, List.length_cons, List.length_nil]; omega) (by unfold maxLen; omega) oM (by simp; omega) W0 (he.alloc _) oM ?_); rotate_right; intro v1 wa hown1 hea _))
   ·
    go_roundw
    case rel => exact ⟨k + 1, by omega, by go_num, hea, by rw [dueIds_yes HD.out (by assumption) (by assumption)]; simpa [OwnI] using hown1⟩
    case measure => simp [intOf]; omega
   ·
    go_roundw
    case rel => exact ⟨k + 1, by omega, by go_num, he, by rw [dueIds_no HD.out oM]; exact hown⟩
    case measure => simp [intOf]; omega
   go_ret
   refine ⟨_, rfl, hE0.trans he, ?_⟩
   have hn : G < 0 := by assumption
   rw [dueIds_neg hn] at hown ⊢
   exact hown.mono oM
  obtain rfl : k = v.Jobs.Open.length := by omega
  go_wp2
  go_ret
  refine ⟨_, rfl, hE0.trans he, ?_⟩
  rw [List.take_length] at hown
  exact hown.mono oM
theorem sNextFire_c (w : World) (v : DView) (s : Value) (now : Int) (h : Ints 2 w s (dues v.Jobs.Open)) : Calls Tryz.prog 68 #[.agg #[.int .i64 v.Jobs.Index, .int .i64 v.Jobs.Time, .int .i64 v.Jobs.Holder, .int .i64 v.Jobs.Epoch, .int .i64 v.Jobs.Until, s], .int .i64 now] w (RetV w (.tuple #[.int .i64 ((dueIds v.Jobs.Open (guessOf v now)).headD 0), .bool (decide (0 < (dueIds v.Jobs.Open (guessOf v now)).length))])) := by
 obtain ⟨a, n, c, rfl⟩ := h.shape
 go_enter Tryz.func68, Tryz.ntmps68
 go_wp2_with fail
 refine (l20Due_c _ v _ _ (h.ext xT)).mono ?_
 rintro e w1 ⟨_, rfl, hx1, hown⟩
 generalize hd : dueIds v.Jobs.Open (guessOf v now) = l at hown
 have HD := Lib.hid hd
 clear hd
 obtain ⟨a1, n1, c1, rfl, hl, _, hm, hc⟩ := hown.ints.open_
 clear hown
 cases l with
 | nil =>
  obtain rfl : n1 = 0 := by simpa using hl.symm
  clear hc
  go_wp2
  go_ret2
  refine ⟨by rw [HD.out]; rfl, ?_⟩
  exact xT
 | cons x xs =>
  obtain rfl : n1 = xs.length + 1 := by simpa using hl.symm
  obtain ⟨b1, o1, rfl, hb, hcc⟩ := hc 0 oM
  obtain ⟨x0, hx0, d0⟩ := hcc 0 oM
  obtain rfl : x = x0 := by simpa using hx0
  simp only [Nat.zero_mul, Nat.add_zero] at d0
  clear hc hcc hl hx0
  go_wp2
  all_goals
   go_ret2
   refine ⟨by rw [HD.out]; simp, ?_⟩
   exact xT
theorem l20CopyJobs_c (w : World) (c0 c1 c2 c3 c4 : Int) (s5 : Value) (d5 : List Int) (L5 : Nat) (hL5 : d5.length = L5 * 2) (h5 : Ints 2 w s5 d5) (hs5 : L5 ≤ 1048576) :
  Calls Tryz.prog 60 #[.agg #[.int .i64 c0, .int .i64 c1, .int .i64 c2, .int .i64 c3, .int .i64 c4, s5]] w (Ret w fun v w' => ∃ t5 : Value, v = .agg #[.int .i64 c0, .int .i64 c1, .int .i64 c2, .int .i64 c3, .int .i64 c4, t5] ∧ OwnI w.heap.size 72 2 w' t5 d5) := by
 obtain ⟨a5, n5, k5, rfl⟩ := h5.shape
 obtain ⟨i0, hi, hz0, hz1, hz2⟩ := info_parts info_Due
 go_enter Tryz.func60, Tryz.ntmps60
 go_wp2_with (first | (at_builtin; refine wp_append_fresh rfl _ _ 24 rfl 72 i0 _ 2 16 Tryz.underlying24 hi hz0 hz1 hz2 rfl dC (w.heap.size + 1 + 1) (by simp) rfl _ _ rfl (h5.ext xT) (ints_oneCell _ _) L5 (by simp; omega) (by unfold maxLen; omega) oM ?_; rotate_right; intro t5 w1 g5 hx1; obtain ⟨ta5, tn5, tc5, rfl⟩ := g5.sl.shape; have hz1 := hx1.size; obtain ⟨hc1, hf1⟩ := hx1.cells; (repeat (first | simp only [World.size_alloc] at hz1 hc1 hf1 g5 | simp only [World.size_setCell] at hz1 hc1 hf1 g5)); have hy1_0 : w.heap.size < w1.heap.size := oM; have hy1_1 : w.heap.size + 1 < w1.heap.size := oM; have hs5 : w1.cell? ⟨w.heap.size, 5, none⟩ = some (.slice a5 n5 k5) := (hx1.cell (by simp))))
 refine bodyPost_ret (v := .agg #[.int .i64 c0, .int .i64 c1, .int .i64 c2, .int .i64 c3, .int .i64 c4, .slice ta5 tn5 tc5]) ?_ rfl ?_
 ·
  simp [results, Tryz.results60, go_sem, *]
 refine ⟨_, rfl, ?_, _, rfl, (g5.keep ?_).mono ?_⟩
 all_goals clear hc1 hf1
 ·
  exact xT
 ·
  repeat' (first | (with_reducible exact Chg.refl _ _) | (with_reducible refine Chg.drewN ?_ _) | (with_reducible refine Chg.drew ?_) | (with_reducible refine Chg.alloc ?_ _) | (with_reducible refine Chg.setLow ?_ ?_ _) | (with_reducible refine Chg.ext ?_ (by assumption)) | omega)
 omega
theorem l20Copy_c (w : World) (c0 c1 c2 c3 c4 : Int) (s5 : Value) (d5 : List Int) (L5 : Nat) (hL5 : d5.length = L5 * 2) (h5 : Ints 2 w s5 d5) (hs5 : L5 ≤ 1048576) :
  Calls Tryz.prog 39 #[.agg #[.int .i64 c0, .int .i64 c1, .int .i64 c2, .int .i64 c3, .int .i64 c4, s5]] w (Ret w fun v w' => ∃ t5 : Value, v = .agg #[.int .i64 c0, .int .i64 c1, .int .i64 c2, .int .i64 c3, .int .i64 c4, t5] ∧ OwnI w.heap.size 72 2 w' t5 d5) := by
 obtain ⟨a5, n5, k5, rfl⟩ := h5.shape
 go_enter Tryz.func39, Tryz.ntmps39
 go_wp2_with (first | (go_at_call 60; refine (l20CopyJobs_c _ c0 c1 c2 c3 c4 _ d5 L5 hL5 (h5.ext xT) hs5).mono ?_; rintro e w1 ⟨_, rfl, hx1, t5, rfl, g5⟩; obtain ⟨ta5, tn5, tc5, rfl⟩ := g5.shape; have hz1 := hx1.size; obtain ⟨hc1, hf1⟩ := hx1.cells; (repeat (first | simp only [World.size_alloc] at hz1 hc1 hf1 g5 | simp only [World.size_setCell] at hz1 hc1 hf1 g5)); have hy1_0 : w.heap.size < w1.heap.size := oM; have hy1_1 : w.heap.size + 1 < w1.heap.size := oM))
 refine bodyPost_ret (v := .agg #[.int .i64 c0, .int .i64 c1, .int .i64 c2, .int .i64 c3, .int .i64 c4, .slice ta5 tn5 tc5]) ?_ rfl ?_
 ·
  simp [results, Tryz.results39, go_sem, *]
 refine ⟨_, rfl, ?_, _, rfl, (g5.keep ?_).mono ?_⟩
 all_goals clear hc1 hf1
 ·
  exact xT
 ·
  repeat' (first | (with_reducible exact Chg.refl _ _) | (with_reducible refine Chg.drewN ?_ _) | (with_reducible refine Chg.drew ?_) | (with_reducible refine Chg.alloc ?_ _) | (with_reducible refine Chg.setLow ?_ ?_ _) | (with_reducible refine Chg.ext ?_ (by assumption)) | omega)
 omega
theorem copyView_c (w : World) (c0 c1 c2 c3 c4 : Int) (s5 : Value) (d5 : List Int) (L5 : Nat) (hL5 : d5.length = L5 * 2) (h5 : Ints 2 w s5 d5) (hs5 : L5 ≤ 1048576) :
  Calls Tryz.prog 40 #[.agg #[.int .i64 c0, .int .i64 c1, .int .i64 c2, .int .i64 c3, .int .i64 c4, s5]] w (Ret w fun v w' => ∃ t5 : Value, v = .agg #[.int .i64 c0, .int .i64 c1, .int .i64 c2, .int .i64 c3, .int .i64 c4, t5] ∧ OwnI w.heap.size 72 2 w' t5 d5) := by
 obtain ⟨a5, n5, k5, rfl⟩ := h5.shape
 obtain ⟨i0, hi, hz0, hz1, hz2⟩ := info_parts info_Due
 go_enter Tryz.func40, Tryz.ntmps40
 go_wp2_with (first | (at_builtin; refine wp_append_fresh rfl _ _ 24 rfl 72 i0 _ 2 16 Tryz.underlying24 hi hz0 hz1 hz2 rfl dC (w.heap.size + 1 + 1 + 1) (by simp) rfl _ _ rfl (h5.ext xT) (ints_oneCell _ _) L5 (by simp; omega) (by unfold maxLen; omega) oM ?_; rotate_right; intro t5 w1 g5 hx1; obtain ⟨ta5, tn5, tc5, rfl⟩ := g5.sl.shape; have hz1 := hx1.size; obtain ⟨hc1, hf1⟩ := hx1.cells; (repeat (first | simp only [World.size_alloc] at hz1 hc1 hf1 g5 | simp only [World.size_setCell] at hz1 hc1 hf1 g5)); have hy1_0 : w.heap.size < w1.heap.size := oM; have hy1_1 : w.heap.size + 1 < w1.heap.size := oM; have hy1_2 : w.heap.size + 1 + 1 < w1.heap.size := oM))
 refine bodyPost_ret (v := .agg #[.int .i64 c0, .int .i64 c1, .int .i64 c2, .int .i64 c3, .int .i64 c4, .slice ta5 tn5 tc5]) ?_ rfl ?_
 ·
  simp [results, Tryz.results40, go_sem, *]
 refine ⟨_, rfl, ?_, _, rfl, (g5.keep ?_).mono ?_⟩
 all_goals clear hc1 hf1
 ·
  exact xT
 ·
  repeat' (first | (with_reducible exact Chg.refl _ _) | (with_reducible refine Chg.drewN ?_ _) | (with_reducible refine Chg.drew ?_) | (with_reducible refine Chg.alloc ?_ _) | (with_reducible refine Chg.setLow ?_ ?_ _) | (with_reducible refine Chg.ext ?_ (by assumption)) | omega)
 omega
theorem jobs_len {j : DJobs} (h : jobsOk2 j = true) : j.Open.length ≤ 8 := by
 simp only [Bool.and_eq_true, jobsOk2] at h
 exact (openOk_iff.1 h.2.2.2.2.2).1
end Go.Proofs.YtfhaooaajpopmaaGreat
