/- Contracts and plain laws: V2 V3 V4a V4b V4c V4 V5 V6 V7 V8 V9 V10 V11 V12 V13 V14 KSc. -/
import Derived.Test.YthihnangjghloaaSb
import Derived.Test.YthihnangjghloaaSa
import Derived.Test.YthihnangjghloaaSw
import Derived.Test.YthihnangjghloaaSe
set_option linter.unusedSimpArgs false
set_option linter.unusedVariables false
-- The order of a list of open jobs, in the reference.
namespace Go.Proofs.Ythihnangjghloaa
open Go.RowKit Go.G8

end Go.Proofs.Ythihnangjghloaa

-- Whether a list of open jobs, with its lease, is valid: the reference.
namespace Go.Proofs.Ythihnangjghloaa
open Go.RowKit Go.G8

set_option maxHeartbeats 400000 in
theorem schedOk_c (w : World) (x : Int) : Calls Try.prog 80 #[.int .i64 x] w fun e w' => e = .returned (.bool (schedOk x)) ∧ w = w' := by
 by_cases h2 : x = 2
 ·
  subst h2
  go_enter Try.func80, Try.ntmps80
  go_wp2
  go_ret
  exact ⟨rfl, rfl⟩
 ·
  have e2 : (x == 2) = false := by simpa using h2
  by_cases h3 : x = 3
  ·
   subst h3
   go_enter Try.func80, Try.ntmps80
   go_wp2
   go_ret
   exact ⟨rfl, rfl⟩
  ·
   have e3 : (x == 3) = false := by simpa using h3
   go_enter Try.func80, Try.ntmps80
   go_wp2
   go_ret
   exact ⟨by simp [schedOk, e2, e3], rfl⟩

end Go.Proofs.Ythihnangjghloaa

-- Whether a list of open jobs, with its lease, is valid: the program, where the head fails.
namespace Go.Proofs.Ythihnangjghloaa
open Go.RowKit Go.G8

theorem zb (w : World) : (zeroValue 4).run Try.prog w = .ok (.bool false) w := by kernel_rfl

set_option maxHeartbeats 3200000 in
theorem jobsOk2_bad (w : World) (j : DJobs) (s : Value) (h : Ints 2 w s (dues j.Open)) (hbad : ¬ (inb j.Index 0 2000 = true ∧ timeOk j.Time = true ∧ (j.Holder == 0 || schedOk j.Holder) = true ∧ inb j.Epoch 0 1000 = true ∧ inb j.Until 0 1001000 = true ∧ j.Open.length ≤ 8)) : Calls Try.prog 44 #[.agg #[.int .i64 j.Index, .int .i64 j.Time, .int .i64 j.Holder, .int .i64 j.Epoch, .int .i64 j.Until, s]] w (RetV w (.bool (jobsOk2 j))) := by
 obtain ⟨a, cap, rfl, hcap, hm, ha⟩ := h.recs (f := DDue.ints) (fun _ => rfl) (by decide)
 have HA := Lib.hid ha
 clear ha
 unfold maxLen at hm
 have hmm := @run_makeMap Try.prog
 have hb0 : jobsOk2 j = false := by
  have e8 : ¬ j.Open.length ≤ 8 → openOk j.Open = false := fun hn => openOk_false (fun hh => hn hh.1)
  cases h1 : inb j.Index 0 2000 <;> cases h2 : timeOk j.Time <;> cases h3 : (j.Holder == 0 || schedOk j.Holder) <;> cases h4 : inb j.Epoch 0 1000 <;> cases h5 : inb j.Until 0 1001000 <;> simp only [jobsOk2, h1, h2, h3, h4, h5, Bool.false_and, Bool.and_false, Bool.true_and]
  exact e8 (fun h8 => hbad ⟨h1, h2, h3, h4, h5, h8⟩)
 rw [hb0]
 have HBD := Lib.hid hbad
 clear hb0 hbad
 by_cases hH : j.Holder = 0
 ·
  have hH' : (j.Holder == 0) = true := by simpa using hH
  have hH2 : (j.Holder != 0) = false := by simpa using hH
  clear hH
  go_enter Try.func44, Try.ntmps44
  go_wp2_with (first | (go_at_call 92; refine (between_c _ _ _ _).mono ?_; rintro e w1 ⟨rfl, rfl⟩) | (go_at_call 78; refine (timeOk_c _ _).mono ?_; rintro e w1 ⟨rfl, rfl⟩) | (go_at_call 80; refine (schedOk_c _ _).mono ?_; rintro e w1 ⟨rfl, rfl⟩))
  all_goals try (go_ret; refine ⟨rfl, ?_⟩; ((first | exact extT | omega)); done)
  exfalso
  refine HBD.out ⟨?_, ?_, ?_, ?_, ?_, ?_⟩
  all_goals first | assumption | omega | (rw [Bool.or_eq_true]; first | exact .inl hH' | exact .inr (by simpa using ‹(!schedOk j.Holder) = false›))
 ·
  have hH' : (j.Holder == 0) = false := by simpa using hH
  have hH2 : (j.Holder != 0) = true := by simpa using hH
  clear hH
  go_enter Try.func44, Try.ntmps44
  go_wp2_with (first | (go_at_call 92; refine (between_c _ _ _ _).mono ?_; rintro e w1 ⟨rfl, rfl⟩) | (go_at_call 78; refine (timeOk_c _ _).mono ?_; rintro e w1 ⟨rfl, rfl⟩) | (go_at_call 80; refine (schedOk_c _ _).mono ?_; rintro e w1 ⟨rfl, rfl⟩))
  all_goals try (go_ret; refine ⟨rfl, ?_⟩; ((first | exact extT | omega)); done)
  exfalso
  refine HBD.out ⟨?_, ?_, ?_, ?_, ?_, ?_⟩
  all_goals first | assumption | omega | (rw [Bool.or_eq_true]; first | exact .inl hH' | exact .inr (by simpa using ‹(!schedOk j.Holder) = false›))
end Go.Proofs.Ythihnangjghloaa

-- .. where the lease is free.
namespace Go.Proofs.Ythihnangjghloaa
open Go.RowKit Go.G8

set_option maxHeartbeats 3200000 in
set_option maxRecDepth 100000 in
theorem jobsOk2_free (w : World) (j : DJobs) (s : Value) (h : Ints 2 w s (dues j.Open)) (h1 : inb j.Index 0 2000 = true) (h2 : timeOk j.Time = true) (h3 : (j.Holder == 0) = true) (h4 : inb j.Epoch 0 1000 = true) (h5 : inb j.Until 0 1001000 = true) (h8 : j.Open.length ≤ 8) : Calls Try.prog 44 #[.agg #[.int .i64 j.Index, .int .i64 j.Time, .int .i64 j.Holder, .int .i64 j.Epoch, .int .i64 j.Until, s]] w (RetV w (.bool (jobsOk2 j))) := by
 obtain ⟨a, cap, rfl, hcap, hm, ha⟩ := h.recs (f := DDue.ints) (fun _ => rfl) (by decide)
 have HA := Lib.hid ha
 clear ha
 unfold maxLen at hm
 have hmm := @run_makeMap Try.prog
 have hb0 : jobsOk2 j = openOk j.Open := by simp [jobsOk2, *]
 have HB0 := Lib.hid hb0
 clear hb0
 have h8' : decide ((8 : Int) < (j.Open.length : Int)) = false := by simp; omega
 have h3' : (j.Holder != 0) = false := by simpa using h3
 ·
  go_enter Try.func44, Try.ntmps44
  go_wp2_with (first | (go_at_call 92; refine (between_c _ _ _ _).mono ?_; rintro e w1 ⟨rfl, rfl⟩) | (go_at_call 78; refine (timeOk_c _ _).mono ?_; rintro e w1 ⟨rfl, rfl⟩) | (go_at_call 80; refine (schedOk_c _ _).mono ?_; rintro e w1 ⟨rfl, rfl⟩))
  clear hmm
  ·
   skip
   go_loopw [47] (fun i wr => ∃ k : Nat, k ≤ j.Open.length ∧ i = .int .i64 k ∧ Ext w wr ∧ wr.cell? ⟨w.heap.size, 5, none⟩ = some (.slice a j.Open.length cap) ∧ (∃ S, BSet Try.prog 2 4 wr (w.heap.size + 1) k S ∧ (∀ i, i < k → OpenAt j.Open i) ∧ (∀ x, x ∈ S ↔ ∃ i e, i < k ∧ j.Open[i]? = some e ∧ e.Id = x))) (fun i _ => j.Open.length - (intOf i).toNat)
   case atStart => exact ⟨0, Nat.zero_le _, rfl, ((Ext.refl _).alloc _).alloc _, by simp, [], by simpa using BSet.made Try.prog 2 4 (w.alloc _), fun i hi => by omega, fun x => by simp⟩
   case round =>
    obtain ⟨k, hk, rfl, he, jb, S, hset, hok, hS⟩ := hrel
    have HO := Lib.hid hok
    have HM := Lib.hid hS
    clear hok hS
    have hsz := he.size
    by_cases hlt : k < j.Open.length
    ·
     obtain ⟨d, b1, o1, hd, rfl, hb1, c⟩ := HA.out k hlt
     have d0 := he.cell (c 0 _ (by decide) rfl)
     have d1 := he.cell (c 1 _ (by decide) rfl)
     simp only [Nat.add_zero] at d0
     have HD := Lib.hid hd
     clear c hd
     go_wp2
     obtain ⟨W, hW⟩ : ∃ W, W = wr.alloc (.cells #[.int .i64 d.Id, .int .i64 d.Due] 132) := ⟨_, rfl⟩
     have x0 : W.cell? ⟨wr.heap.size, 0, none⟩ = some (.int .i64 d.Id) := by rw [hW]; simp
     have x1 : W.cell? ⟨wr.heap.size, 1, none⟩ = some (.int .i64 d.Due) := by rw [hW]; simp
     have jb' : W.cell? ⟨w.heap.size, 5, none⟩ = some (.slice (some ⟨b1, o1, none⟩) j.Open.length cap) := by rw [hW]; exact ((Ext.refl wr).alloc _).cell jb
     have hset' : BSet Try.prog 2 4 W (w.heap.size + 1) k S := by rw [hW]; exact hset.ext ((Ext.refl wr).alloc _)
     have heW : Ext w W := by rw [hW]; exact he.alloc _
     have heR : Ext wr W := by rw [hW]; exact (Ext.refl wr).alloc _
     rw [← hW]
     clear hW
     cases hid : idOk d.Id
     ·
      refine wp_region_ext (by kernel_rfl) (by kernel_rfl) ?_
      repeat (first | go_big_quiet_skip | (go_big_quiet_want; first | (refine quiet_load _ _ _ ?_ rfl rfl (fun wq hq => ?_) ?_; rotate_left; (focus (have q0 := hq.cell x0; have q1 := hq.cell x1; go_simp; first | done | rfl)); (try simp only [Act.put, List.setIfInBounds_toArray, List.set_cons_zero, List.set_cons_succ]); go_big_quiet_on) | (refine quiet_lookup _ _ _ _ _ ?_ rfl rfl rfl (fun wq hq => ?_) ?_; rotate_left; (focus (fail)); (try simp only [Act.put, List.setIfInBounds_toArray, List.set_cons_zero, List.set_cons_succ]); go_big_quiet_on) | (go_big_quiet_op; first | go_big_quiet_on | (refine ⟨_, fun _ _ => rfl, ?_⟩; go_big_quiet_on) | (apply Exists.intro; refine ⟨fun wq hq => ?_, ?_⟩; (focus (first | exact call_same hq (by have c := idOk_c wq d.Id; rw [hid] at c; exact c))); go_big_quiet_on))))
      refine wpQuiet_nil ?_
      intro w1 hx1
      go_wp2
      go_ret
      exact ⟨congrArg (fun z => Ending.returned (.bool z)) (HB0.out.trans (openOk_false (fun hh => by have := (hh.2 k hlt d HD.out).1; rw [hid] at this; cases this))).symm, heW.trans hx1⟩
     ·
      have hw : (Lit.int .i64 d.Id).wf = true := by
       have := inb_true.1 hid
       exact WalkArith.wf_i64 (by omega)
      cases htm : timeOk d.Due
      ·
       refine wp_region_ext (by kernel_rfl) (by kernel_rfl) ?_
       repeat (first | go_big_quiet_skip | (go_big_quiet_want; first | (refine quiet_load _ _ _ ?_ rfl rfl (fun wq hq => ?_) ?_; rotate_left; (focus (have q0 := hq.cell x0; have q1 := hq.cell x1; go_simp; first | done | rfl)); (try simp only [Act.put, List.setIfInBounds_toArray, List.set_cons_zero, List.set_cons_succ]); go_big_quiet_on) | (refine quiet_lookup _ _ _ _ _ ?_ rfl rfl rfl (fun wq hq => ?_) ?_; rotate_left; (focus (fail)); (try simp only [Act.put, List.setIfInBounds_toArray, List.set_cons_zero, List.set_cons_succ]); go_big_quiet_on) | (go_big_quiet_op; first | go_big_quiet_on | (refine ⟨_, fun _ _ => rfl, ?_⟩; go_big_quiet_on) | (apply Exists.intro; refine ⟨fun wq hq => ?_, ?_⟩; (focus (first | exact call_same hq (by have c := idOk_c wq d.Id; rw [hid] at c; exact c) | exact call_same hq (by have c := timeOk_c wq d.Due; rw [htm] at c; exact c))); go_big_quiet_on))))
       refine wpQuiet_nil ?_
       intro w1 hx1
       go_wp2
       go_ret
       exact ⟨congrArg (fun z => Ending.returned (.bool z)) (HB0.out.trans (openOk_false (fun hh => by have := (hh.2 k hlt d HD.out).2.1; rw [htm] at this; cases this))).symm, heW.trans hx1⟩
      ·
       by_cases hmem : d.Id ∈ S
       ·
        have hnu : decide (d.Id ∈ S) = true := by simpa using hmem
        have HMM := Lib.hid hmem
        clear hmem
        refine wp_region_ext (by kernel_rfl) (by kernel_rfl) ?_
        repeat (first | go_big_quiet_skip | (go_big_quiet_want; first | (refine quiet_load _ _ _ ?_ rfl rfl (fun wq hq => ?_) ?_; rotate_left; (focus (have q0 := hq.cell x0; have q1 := hq.cell x1; go_simp; first | done | rfl)); (try simp only [Act.put, List.setIfInBounds_toArray, List.set_cons_zero, List.set_cons_succ]); go_big_quiet_on) | (refine quiet_lookup _ _ _ _ _ ?_ rfl rfl rfl (fun wq hq => ?_) ?_; rotate_left; (focus (exact (by have c := (hset'.ext hq).look (t := 151) Try.underlying2 Try.underlying151 Try.underlying4 (zb _) hw; rw [hnu] at c; exact c))); (try simp only [Act.put, List.setIfInBounds_toArray, List.set_cons_zero, List.set_cons_succ]); go_big_quiet_on) | (go_big_quiet_op; first | go_big_quiet_on | (refine ⟨_, fun _ _ => rfl, ?_⟩; go_big_quiet_on) | (apply Exists.intro; refine ⟨fun wq hq => ?_, ?_⟩; (focus (first | exact call_same hq (by have c := idOk_c wq d.Id; rw [hid] at c; exact c) | exact call_same hq (by have c := timeOk_c wq d.Due; rw [htm] at c; exact c))); go_big_quiet_on))))
        refine wpQuiet_nil ?_
        intro w1 hx1
        go_wp2
        go_ret
        exact ⟨congrArg (fun z => Ending.returned (.bool z)) (HB0.out.trans (openOk_false (fun hh => by obtain ⟨i, e, hi, he', hid'⟩ := (HM.out d.Id).1 HMM.out; exact (hh.2 k hlt d HD.out).2.2.2 i e hi he' hid'))).symm, heW.trans hx1⟩
       ·
        have hnu : decide (d.Id ∈ S) = false := by simpa using hmem
        have hnd : ∀ i e, i < k → j.Open[i]? = some e → e.Id ≠ d.Id := fun i e hi he' hid' => hmem ((HM.out d.Id).2 ⟨i, e, hi, he', hid'⟩)
        have HND := Lib.hid hnd
        clear hmem hnd
        have hnext : (∀ e, 0 < k → j.Open[k - 1]? = some e → dueLess e d = true) → ∀ i, i < k + 1 → OpenAt j.Open i := by
         intro n1 i hi
         by_cases hik : i = k
         ·
          subst hik
          intro d' hd'
          rw [HD.out] at hd'
          obtain rfl := Option.some.inj hd'
          exact ⟨hid, htm, n1, HND.out⟩
         ·
          exact HO.out i (by omega)
        have HN := Lib.hid hnext
        clear hnext
        have hs2 : ∀ x, x ∈ d.Id :: S ↔ ∃ i e, i < k + 1 ∧ j.Open[i]? = some e ∧ e.Id = x := by
         intro x
         rw [List.mem_cons, HM.out x]
         constructor
         ·
          rintro (rfl | ⟨i, e, hi, h1, h2⟩)
          ·
           exact ⟨k, d, by omega, HD.out, rfl⟩
          ·
           exact ⟨i, e, by omega, h1, h2⟩
         ·
          rintro ⟨i, e, hi, h1, h2⟩
          by_cases hik : i = k
          ·
           subst hik
           rw [HD.out] at h1
           obtain rfl := Option.some.inj h1
           exact .inl h2.symm
          ·
           exact .inr ⟨i, e, by omega, h1, h2⟩
        have HS := Lib.hid hs2
        clear hs2
        by_cases hk0 : k = 0
        ·
         subst hk0
         refine wp_region_ext (by kernel_rfl) (by kernel_rfl) ?_
         repeat (first | go_big_quiet_skip | (go_big_quiet_want; first | (refine quiet_load _ _ _ ?_ rfl rfl (fun wq hq => ?_) ?_; rotate_left; (focus (have q0 := hq.cell x0; have q1 := hq.cell x1; go_simp; first | done | rfl)); (try simp only [Act.put, List.setIfInBounds_toArray, List.set_cons_zero, List.set_cons_succ]); go_big_quiet_on) | (refine quiet_lookup _ _ _ _ _ ?_ rfl rfl rfl (fun wq hq => ?_) ?_; rotate_left; (focus (exact (by have c := (hset'.ext hq).look (t := 151) Try.underlying2 Try.underlying151 Try.underlying4 (zb _) hw; rw [hnu] at c; exact c))); (try simp only [Act.put, List.setIfInBounds_toArray, List.set_cons_zero, List.set_cons_succ]); go_big_quiet_on) | (go_big_quiet_op; first | go_big_quiet_on | (refine ⟨_, fun _ _ => rfl, ?_⟩; go_big_quiet_on) | (apply Exists.intro; refine ⟨fun wq hq => ?_, ?_⟩; (focus (first | exact call_same hq (by have c := idOk_c wq d.Id; rw [hid] at c; exact c) | exact call_same hq (by have c := timeOk_c wq d.Due; rw [htm] at c; exact c))); go_big_quiet_on))))
         refine wpQuiet_nil ?_
         intro w1 hx1
         have x0' := hx1.cell x0
         go_wp2_with (at_mapUpdate; refine wpList_put rfl _ _ _ 151 rfl 2 4 Try.underlying2 Try.underlying151 Try.underlying4 _ _ _ _ rfl rfl rfl (hset'.ext hx1) (by unfold maxLen; omega) hw ?_; intro w2 hset2 hgr2)
         have hx2 := (heW.trans hx1).grownOwn hgr2 (by omega)
         go_roundw
         case rel => exact ⟨0 + 1, by omega, by go_num, hx2, hgr2.cell (hx1.cell jb') (by first | (simp; done) | (simp; omega)), _, hset2, HN.out (fun e h => by omega), HS.out⟩
         case measure => simp [intOf]; omega
        ·
         obtain ⟨e, b2, o2, hde, hbo, _, c⟩ := HA.out (k - 1) (by omega)
         obtain ⟨rfl, rfl⟩ : b1 = b2 ∧ o1 = o2 := by simpa using hbo
         have e0' := heW.cell (c 0 _ (by decide) rfl)
         have e1' := heW.cell (c 1 _ (by decide) rfl)
         simp only [Nat.add_zero] at e0'
         have HE := Lib.hid hde
         clear c hde hbo
         have hk1 : decide (0 < k) = true := by simp; omega
         cases hls : dueLess e d
         ·
          refine wp_region_ext (by kernel_rfl) (by kernel_rfl) ?_
          repeat (first | go_big_quiet_skip | (go_big_quiet_want; first | (refine quiet_load _ _ _ ?_ rfl rfl (fun wq hq => ?_) ?_; rotate_left; (focus (have q0 := hq.cell x0; have q1 := hq.cell x1; have q2 := hq.cell jb'; have p0 := hq.cell e0'; have p1 := hq.cell e1'; go_simp; first | done | rfl)); (try simp only [Act.put, List.setIfInBounds_toArray, List.set_cons_zero, List.set_cons_succ]); go_big_quiet_on) | (refine quiet_lookup _ _ _ _ _ ?_ rfl rfl rfl (fun wq hq => ?_) ?_; rotate_left; (focus (exact (by have c := (hset'.ext hq).look (t := 151) Try.underlying2 Try.underlying151 Try.underlying4 (zb _) hw; rw [hnu] at c; exact c))); (try simp only [Act.put, List.setIfInBounds_toArray, List.set_cons_zero, List.set_cons_succ]); go_big_quiet_on) | (go_big_quiet_op; first | go_big_quiet_on | (refine ⟨_, fun _ _ => rfl, ?_⟩; go_big_quiet_on) | (apply Exists.intro; refine ⟨fun wq hq => ?_, ?_⟩; (focus (first | exact call_same hq (by have c := idOk_c wq d.Id; rw [hid] at c; exact c) | exact call_same hq (by have c := timeOk_c wq d.Due; rw [htm] at c; exact c) | exact call_ext hq (by have c := dueLess_c wq e d; rw [hls] at c; exact c))); go_big_quiet_on))))
          refine wpQuiet_nil ?_
          intro w1 hx1
          go_wp2
          go_ret
          exact ⟨congrArg (fun z => Ending.returned (.bool z)) (HB0.out.trans (openOk_false (fun hh => by have := (hh.2 k hlt d HD.out).2.2.1 e (by omega) HE.out; rw [hls] at this; cases this))).symm, heW.trans hx1⟩
         ·
          refine wp_region_ext (by kernel_rfl) (by kernel_rfl) ?_
          repeat (first | go_big_quiet_skip | (go_big_quiet_want; first | (refine quiet_load _ _ _ ?_ rfl rfl (fun wq hq => ?_) ?_; rotate_left; (focus (have q0 := hq.cell x0; have q1 := hq.cell x1; have q2 := hq.cell jb'; have p0 := hq.cell e0'; have p1 := hq.cell e1'; go_simp; first | done | rfl)); (try simp only [Act.put, List.setIfInBounds_toArray, List.set_cons_zero, List.set_cons_succ]); go_big_quiet_on) | (refine quiet_lookup _ _ _ _ _ ?_ rfl rfl rfl (fun wq hq => ?_) ?_; rotate_left; (focus (exact (by have c := (hset'.ext hq).look (t := 151) Try.underlying2 Try.underlying151 Try.underlying4 (zb _) hw; rw [hnu] at c; exact c))); (try simp only [Act.put, List.setIfInBounds_toArray, List.set_cons_zero, List.set_cons_succ]); go_big_quiet_on) | (go_big_quiet_op; first | go_big_quiet_on | (refine ⟨_, fun _ _ => rfl, ?_⟩; go_big_quiet_on) | (apply Exists.intro; refine ⟨fun wq hq => ?_, ?_⟩; (focus (first | exact call_same hq (by have c := idOk_c wq d.Id; rw [hid] at c; exact c) | exact call_same hq (by have c := timeOk_c wq d.Due; rw [htm] at c; exact c) | exact call_ext hq (by have c := dueLess_c wq e d; rw [hls] at c; exact c))); go_big_quiet_on))))
          refine wpQuiet_nil ?_
          intro w1 hx1
          have x0' := hx1.cell x0
          go_wp2_with (at_mapUpdate; refine wpList_put rfl _ _ _ 151 rfl 2 4 Try.underlying2 Try.underlying151 Try.underlying4 _ _ _ _ rfl rfl rfl (hset'.ext hx1) (by unfold maxLen; omega) hw ?_; intro w2 hset2 hgr2)
          have hx2 := (heW.trans hx1).grownOwn hgr2 (by omega)
          go_roundw
          case rel => exact ⟨k + 1, by omega, by go_num, hx2, hgr2.cell (hx1.cell jb') (by first | (simp; done) | (simp; omega)), _, hset2, HN.out (fun e' _ hl => by rw [HE.out] at hl; obtain rfl := Option.some.inj hl; exact hls), HS.out⟩
          case measure => simp [intOf]; omega
    ·
     obtain rfl : k = j.Open.length := by omega
     go_wp2
     go_ret
     exact ⟨congrArg (fun z => Ending.returned (.bool z)) (HB0.out.trans (openOk_true ⟨by omega, HO.out⟩)).symm, he⟩

end Go.Proofs.Ythihnangjghloaa

-- .. where the lease is held.
namespace Go.Proofs.Ythihnangjghloaa
open Go.RowKit Go.G8

set_option maxHeartbeats 3200000 in
set_option maxRecDepth 100000 in
theorem jobsOk2_held (w : World) (j : DJobs) (s : Value) (h : Ints 2 w s (dues j.Open)) (h1 : inb j.Index 0 2000 = true) (h2 : timeOk j.Time = true) (h3 : (j.Holder == 0) = false) (h6 : schedOk j.Holder = true) (h4 : inb j.Epoch 0 1000 = true) (h5 : inb j.Until 0 1001000 = true) (h8 : j.Open.length ≤ 8) : Calls Try.prog 44 #[.agg #[.int .i64 j.Index, .int .i64 j.Time, .int .i64 j.Holder, .int .i64 j.Epoch, .int .i64 j.Until, s]] w (RetV w (.bool (jobsOk2 j))) := by
 obtain ⟨a, cap, rfl, hcap, hm, ha⟩ := h.recs (f := DDue.ints) (fun _ => rfl) (by decide)
 have HA := Lib.hid ha
 clear ha
 unfold maxLen at hm
 have hmm := @run_makeMap Try.prog
 have hb0 : jobsOk2 j = openOk j.Open := by simp [jobsOk2, *]
 have HB0 := Lib.hid hb0
 clear hb0
 have h8' : decide ((8 : Int) < (j.Open.length : Int)) = false := by simp; omega
 have h3' : (j.Holder != 0) = true := by simpa using h3
 ·
  go_enter Try.func44, Try.ntmps44
  go_wp2_with (first | (go_at_call 92; refine (between_c _ _ _ _).mono ?_; rintro e w1 ⟨rfl, rfl⟩) | (go_at_call 78; refine (timeOk_c _ _).mono ?_; rintro e w1 ⟨rfl, rfl⟩) | (go_at_call 80; refine (schedOk_c _ _).mono ?_; rintro e w1 ⟨rfl, rfl⟩))
  clear hmm
  ·
   skip
   go_loopw [47] (fun i wr => ∃ k : Nat, k ≤ j.Open.length ∧ i = .int .i64 k ∧ Ext w wr ∧ wr.cell? ⟨w.heap.size, 5, none⟩ = some (.slice a j.Open.length cap) ∧ (∃ S, BSet Try.prog 2 4 wr (w.heap.size + 1) k S ∧ (∀ i, i < k → OpenAt j.Open i) ∧ (∀ x, x ∈ S ↔ ∃ i e, i < k ∧ j.Open[i]? = some e ∧ e.Id = x))) (fun i _ => j.Open.length - (intOf i).toNat)
   case atStart => exact ⟨0, Nat.zero_le _, rfl, ((Ext.refl _).alloc _).alloc _, by simp, [], by simpa using BSet.made Try.prog 2 4 (w.alloc _), fun i hi => by omega, fun x => by simp⟩
   case round =>
    obtain ⟨k, hk, rfl, he, jb, S, hset, hok, hS⟩ := hrel
    have HO := Lib.hid hok
    have HM := Lib.hid hS
    clear hok hS
    have hsz := he.size
    by_cases hlt : k < j.Open.length
    ·
     obtain ⟨d, b1, o1, hd, rfl, hb1, c⟩ := HA.out k hlt
     have d0 := he.cell (c 0 _ (by decide) rfl)
     have d1 := he.cell (c 1 _ (by decide) rfl)
     simp only [Nat.add_zero] at d0
     have HD := Lib.hid hd
     clear c hd
     go_wp2
     obtain ⟨W, hW⟩ : ∃ W, W = wr.alloc (.cells #[.int .i64 d.Id, .int .i64 d.Due] 132) := ⟨_, rfl⟩
     have x0 : W.cell? ⟨wr.heap.size, 0, none⟩ = some (.int .i64 d.Id) := by rw [hW]; simp
     have x1 : W.cell? ⟨wr.heap.size, 1, none⟩ = some (.int .i64 d.Due) := by rw [hW]; simp
     have jb' : W.cell? ⟨w.heap.size, 5, none⟩ = some (.slice (some ⟨b1, o1, none⟩) j.Open.length cap) := by rw [hW]; exact ((Ext.refl wr).alloc _).cell jb
     have hset' : BSet Try.prog 2 4 W (w.heap.size + 1) k S := by rw [hW]; exact hset.ext ((Ext.refl wr).alloc _)
     have heW : Ext w W := by rw [hW]; exact he.alloc _
     have heR : Ext wr W := by rw [hW]; exact (Ext.refl wr).alloc _
     rw [← hW]
     clear hW
     cases hid : idOk d.Id
     ·
      refine wp_region_ext (by kernel_rfl) (by kernel_rfl) ?_
      repeat (first | go_big_quiet_skip | (go_big_quiet_want; first | (refine quiet_load _ _ _ ?_ rfl rfl (fun wq hq => ?_) ?_; rotate_left; (focus (have q0 := hq.cell x0; have q1 := hq.cell x1; go_simp; first | done | rfl)); (try simp only [Act.put, List.setIfInBounds_toArray, List.set_cons_zero, List.set_cons_succ]); go_big_quiet_on) | (refine quiet_lookup _ _ _ _ _ ?_ rfl rfl rfl (fun wq hq => ?_) ?_; rotate_left; (focus (fail)); (try simp only [Act.put, List.setIfInBounds_toArray, List.set_cons_zero, List.set_cons_succ]); go_big_quiet_on) | (go_big_quiet_op; first | go_big_quiet_on | (refine ⟨_, fun _ _ => rfl, ?_⟩; go_big_quiet_on) | (apply Exists.intro; refine ⟨fun wq hq => ?_, ?_⟩; (focus (first | exact call_same hq (by have c := idOk_c wq d.Id; rw [hid] at c; exact c))); go_big_quiet_on))))
      refine wpQuiet_nil ?_
      intro w1 hx1
      go_wp2
      go_ret
      exact ⟨congrArg (fun z => Ending.returned (.bool z)) (HB0.out.trans (openOk_false (fun hh => by have := (hh.2 k hlt d HD.out).1; rw [hid] at this; cases this))).symm, heW.trans hx1⟩
     ·
      have hw : (Lit.int .i64 d.Id).wf = true := by
       have := inb_true.1 hid
       exact WalkArith.wf_i64 (by omega)
      cases htm : timeOk d.Due
      ·
       refine wp_region_ext (by kernel_rfl) (by kernel_rfl) ?_
       repeat (first | go_big_quiet_skip | (go_big_quiet_want; first | (refine quiet_load _ _ _ ?_ rfl rfl (fun wq hq => ?_) ?_; rotate_left; (focus (have q0 := hq.cell x0; have q1 := hq.cell x1; go_simp; first | done | rfl)); (try simp only [Act.put, List.setIfInBounds_toArray, List.set_cons_zero, List.set_cons_succ]); go_big_quiet_on) | (refine quiet_lookup _ _ _ _ _ ?_ rfl rfl rfl (fun wq hq => ?_) ?_; rotate_left; (focus (fail)); (try simp only [Act.put, List.setIfInBounds_toArray, List.set_cons_zero, List.set_cons_succ]); go_big_quiet_on) | (go_big_quiet_op; first | go_big_quiet_on | (refine ⟨_, fun _ _ => rfl, ?_⟩; go_big_quiet_on) | (apply Exists.intro; refine ⟨fun wq hq => ?_, ?_⟩; (focus (first | exact call_same hq (by have c := idOk_c wq d.Id; rw [hid] at c; exact c) | exact call_same hq (by have c := timeOk_c wq d.Due; rw [htm] at c; exact c))); go_big_quiet_on))))
       refine wpQuiet_nil ?_
       intro w1 hx1
       go_wp2
       go_ret
       exact ⟨congrArg (fun z => Ending.returned (.bool z)) (HB0.out.trans (openOk_false (fun hh => by have := (hh.2 k hlt d HD.out).2.1; rw [htm] at this; cases this))).symm, heW.trans hx1⟩
      ·
       by_cases hmem : d.Id ∈ S
       ·
        have hnu : decide (d.Id ∈ S) = true := by simpa using hmem
        have HMM := Lib.hid hmem
        clear hmem
        refine wp_region_ext (by kernel_rfl) (by kernel_rfl) ?_
        repeat (first | go_big_quiet_skip | (go_big_quiet_want; first | (refine quiet_load _ _ _ ?_ rfl rfl (fun wq hq => ?_) ?_; rotate_left; (focus (have q0 := hq.cell x0; have q1 := hq.cell x1; go_simp; first | done | rfl)); (try simp only [Act.put, List.setIfInBounds_toArray, List.set_cons_zero, List.set_cons_succ]); go_big_quiet_on) | (refine quiet_lookup _ _ _ _ _ ?_ rfl rfl rfl (fun wq hq => ?_) ?_; rotate_left; (focus (exact (by have c := (hset'.ext hq).look (t := 151) Try.underlying2 Try.underlying151 Try.underlying4 (zb _) hw; rw [hnu] at c; exact c))); (try simp only [Act.put, List.setIfInBounds_toArray, List.set_cons_zero, List.set_cons_succ]); go_big_quiet_on) | (go_big_quiet_op; first | go_big_quiet_on | (refine ⟨_, fun _ _ => rfl, ?_⟩; go_big_quiet_on) | (apply Exists.intro; refine ⟨fun wq hq => ?_, ?_⟩; (focus (first | exact call_same hq (by have c := idOk_c wq d.Id; rw [hid] at c; exact c) | exact call_same hq (by have c := timeOk_c wq d.Due; rw [htm] at c; exact c))); go_big_quiet_on))))
        refine wpQuiet_nil ?_
        intro w1 hx1
        go_wp2
        go_ret
        exact ⟨congrArg (fun z => Ending.returned (.bool z)) (HB0.out.trans (openOk_false (fun hh => by obtain ⟨i, e, hi, he', hid'⟩ := (HM.out d.Id).1 HMM.out; exact (hh.2 k hlt d HD.out).2.2.2 i e hi he' hid'))).symm, heW.trans hx1⟩
       ·
        have hnu : decide (d.Id ∈ S) = false := by simpa using hmem
        have hnd : ∀ i e, i < k → j.Open[i]? = some e → e.Id ≠ d.Id := fun i e hi he' hid' => hmem ((HM.out d.Id).2 ⟨i, e, hi, he', hid'⟩)
        have HND := Lib.hid hnd
        clear hmem hnd
        have hnext : (∀ e, 0 < k → j.Open[k - 1]? = some e → dueLess e d = true) → ∀ i, i < k + 1 → OpenAt j.Open i := by
         intro n1 i hi
         by_cases hik : i = k
         ·
          subst hik
          intro d' hd'
          rw [HD.out] at hd'
          obtain rfl := Option.some.inj hd'
          exact ⟨hid, htm, n1, HND.out⟩
         ·
          exact HO.out i (by omega)
        have HN := Lib.hid hnext
        clear hnext
        have hs2 : ∀ x, x ∈ d.Id :: S ↔ ∃ i e, i < k + 1 ∧ j.Open[i]? = some e ∧ e.Id = x := by
         intro x
         rw [List.mem_cons, HM.out x]
         constructor
         ·
          rintro (rfl | ⟨i, e, hi, h1, h2⟩)
          ·
           exact ⟨k, d, by omega, HD.out, rfl⟩
          ·
           exact ⟨i, e, by omega, h1, h2⟩
         ·
          rintro ⟨i, e, hi, h1, h2⟩
          by_cases hik : i = k
          ·
           subst hik
           rw [HD.out] at h1
           obtain rfl := Option.some.inj h1
           exact .inl h2.symm
          ·
           exact .inr ⟨i, e, by omega, h1, h2⟩
        have HS := Lib.hid hs2
        clear hs2
        by_cases hk0 : k = 0
        ·
         subst hk0
         refine wp_region_ext (by kernel_rfl) (by kernel_rfl) ?_
         repeat (first | go_big_quiet_skip | (go_big_quiet_want; first | (refine quiet_load _ _ _ ?_ rfl rfl (fun wq hq => ?_) ?_; rotate_left; (focus (have q0 := hq.cell x0; have q1 := hq.cell x1; go_simp; first | done | rfl)); (try simp only [Act.put, List.setIfInBounds_toArray, List.set_cons_zero, List.set_cons_succ]); go_big_quiet_on) | (refine quiet_lookup _ _ _ _ _ ?_ rfl rfl rfl (fun wq hq => ?_) ?_; rotate_left; (focus (exact (by have c := (hset'.ext hq).look (t := 151) Try.underlying2 Try.underlying151 Try.underlying4 (zb _) hw; rw [hnu] at c; exact c))); (try simp only [Act.put, List.setIfInBounds_toArray, List.set_cons_zero, List.set_cons_succ]); go_big_quiet_on) | (go_big_quiet_op; first | go_big_quiet_on | (refine ⟨_, fun _ _ => rfl, ?_⟩; go_big_quiet_on) | (apply Exists.intro; refine ⟨fun wq hq => ?_, ?_⟩; (focus (first | exact call_same hq (by have c := idOk_c wq d.Id; rw [hid] at c; exact c) | exact call_same hq (by have c := timeOk_c wq d.Due; rw [htm] at c; exact c))); go_big_quiet_on))))
         refine wpQuiet_nil ?_
         intro w1 hx1
         have x0' := hx1.cell x0
         go_wp2_with (at_mapUpdate; refine wpList_put rfl _ _ _ 151 rfl 2 4 Try.underlying2 Try.underlying151 Try.underlying4 _ _ _ _ rfl rfl rfl (hset'.ext hx1) (by unfold maxLen; omega) hw ?_; intro w2 hset2 hgr2)
         have hx2 := (heW.trans hx1).grownOwn hgr2 (by omega)
         go_roundw
         case rel => exact ⟨0 + 1, by omega, by go_num, hx2, hgr2.cell (hx1.cell jb') (by first | (simp; done) | (simp; omega)), _, hset2, HN.out (fun e h => by omega), HS.out⟩
         case measure => simp [intOf]; omega
        ·
         obtain ⟨e, b2, o2, hde, hbo, _, c⟩ := HA.out (k - 1) (by omega)
         obtain ⟨rfl, rfl⟩ : b1 = b2 ∧ o1 = o2 := by simpa using hbo
         have e0' := heW.cell (c 0 _ (by decide) rfl)
         have e1' := heW.cell (c 1 _ (by decide) rfl)
         simp only [Nat.add_zero] at e0'
         have HE := Lib.hid hde
         clear c hde hbo
         have hk1 : decide (0 < k) = true := by simp; omega
         cases hls : dueLess e d
         ·
          refine wp_region_ext (by kernel_rfl) (by kernel_rfl) ?_
          repeat (first | go_big_quiet_skip | (go_big_quiet_want; first | (refine quiet_load _ _ _ ?_ rfl rfl (fun wq hq => ?_) ?_; rotate_left; (focus (have q0 := hq.cell x0; have q1 := hq.cell x1; have q2 := hq.cell jb'; have p0 := hq.cell e0'; have p1 := hq.cell e1'; go_simp; first | done | rfl)); (try simp only [Act.put, List.setIfInBounds_toArray, List.set_cons_zero, List.set_cons_succ]); go_big_quiet_on) | (refine quiet_lookup _ _ _ _ _ ?_ rfl rfl rfl (fun wq hq => ?_) ?_; rotate_left; (focus (exact (by have c := (hset'.ext hq).look (t := 151) Try.underlying2 Try.underlying151 Try.underlying4 (zb _) hw; rw [hnu] at c; exact c))); (try simp only [Act.put, List.setIfInBounds_toArray, List.set_cons_zero, List.set_cons_succ]); go_big_quiet_on) | (go_big_quiet_op; first | go_big_quiet_on | (refine ⟨_, fun _ _ => rfl, ?_⟩; go_big_quiet_on) | (apply Exists.intro; refine ⟨fun wq hq => ?_, ?_⟩; (focus (first | exact call_same hq (by have c := idOk_c wq d.Id; rw [hid] at c; exact c) | exact call_same hq (by have c := timeOk_c wq d.Due; rw [htm] at c; exact c) | exact call_ext hq (by have c := dueLess_c wq e d; rw [hls] at c; exact c))); go_big_quiet_on))))
          refine wpQuiet_nil ?_
          intro w1 hx1
          go_wp2
          go_ret
          exact ⟨congrArg (fun z => Ending.returned (.bool z)) (HB0.out.trans (openOk_false (fun hh => by have := (hh.2 k hlt d HD.out).2.2.1 e (by omega) HE.out; rw [hls] at this; cases this))).symm, heW.trans hx1⟩
         ·
          refine wp_region_ext (by kernel_rfl) (by kernel_rfl) ?_
          repeat (first | go_big_quiet_skip | (go_big_quiet_want; first | (refine quiet_load _ _ _ ?_ rfl rfl (fun wq hq => ?_) ?_; rotate_left; (focus (have q0 := hq.cell x0; have q1 := hq.cell x1; have q2 := hq.cell jb'; have p0 := hq.cell e0'; have p1 := hq.cell e1'; go_simp; first | done | rfl)); (try simp only [Act.put, List.setIfInBounds_toArray, List.set_cons_zero, List.set_cons_succ]); go_big_quiet_on) | (refine quiet_lookup _ _ _ _ _ ?_ rfl rfl rfl (fun wq hq => ?_) ?_; rotate_left; (focus (exact (by have c := (hset'.ext hq).look (t := 151) Try.underlying2 Try.underlying151 Try.underlying4 (zb _) hw; rw [hnu] at c; exact c))); (try simp only [Act.put, List.setIfInBounds_toArray, List.set_cons_zero, List.set_cons_succ]); go_big_quiet_on) | (go_big_quiet_op; first | go_big_quiet_on | (refine ⟨_, fun _ _ => rfl, ?_⟩; go_big_quiet_on) | (apply Exists.intro; refine ⟨fun wq hq => ?_, ?_⟩; (focus (first | exact call_same hq (by have c := idOk_c wq d.Id; rw [hid] at c; exact c) | exact call_same hq (by have c := timeOk_c wq d.Due; rw [htm] at c; exact c) | exact call_ext hq (by have c := dueLess_c wq e d; rw [hls] at c; exact c))); go_big_quiet_on))))
          refine wpQuiet_nil ?_
          intro w1 hx1
          have x0' := hx1.cell x0
          go_wp2_with (at_mapUpdate; refine wpList_put rfl _ _ _ 151 rfl 2 4 Try.underlying2 Try.underlying151 Try.underlying4 _ _ _ _ rfl rfl rfl (hset'.ext hx1) (by unfold maxLen; omega) hw ?_; intro w2 hset2 hgr2)
          have hx2 := (heW.trans hx1).grownOwn hgr2 (by omega)
          go_roundw
          case rel => exact ⟨k + 1, by omega, by go_num, hx2, hgr2.cell (hx1.cell jb') (by first | (simp; done) | (simp; omega)), _, hset2, HN.out (fun e' _ hl => by rw [HE.out] at hl; obtain rfl := Option.some.inj hl; exact hls), HS.out⟩
          case measure => simp [intOf]; omega
    ·
     obtain rfl : k = j.Open.length := by omega
     go_wp2
     go_ret
     exact ⟨congrArg (fun z => Ending.returned (.bool z)) (HB0.out.trans (openOk_true ⟨by omega, HO.out⟩)).symm, he⟩

end Go.Proofs.Ythihnangjghloaa

-- Whether a list of open jobs, with its lease, is valid: the program.
namespace Go.Proofs.Ythihnangjghloaa
open Go.RowKit Go.G8

theorem jobsOk2_c (w : World) (j : DJobs) (s : Value) (h : Ints 2 w s (dues j.Open)) : Calls Try.prog 44 #[.agg #[.int .i64 j.Index, .int .i64 j.Time, .int .i64 j.Holder, .int .i64 j.Epoch, .int .i64 j.Until, s]] w (RetV w (.bool (jobsOk2 j))) := by
 by_cases hg : inb j.Index 0 2000 = true ∧ timeOk j.Time = true ∧ (j.Holder == 0 || schedOk j.Holder) = true ∧ inb j.Epoch 0 1000 = true ∧ inb j.Until 0 1001000 = true ∧ j.Open.length ≤ 8
 ·
  obtain ⟨h1, h2, h3, h4, h5, h8⟩ := hg
  cases h6 : (j.Holder == 0)
  ·
   exact jobsOk2_held w j s h h1 h2 h6 (by simpa [h6] using h3) h4 h5 h8
  ·
   exact jobsOk2_free w j s h h1 h2 h6 h4 h5 h8
 ·
  exact jobsOk2_bad w j s h hg
end Go.Proofs.Ythihnangjghloaa

-- Views: whether one is valid.
namespace Go.Proofs.Ythihnangjghloaa
open Go.RowKit Go.G8

set_option maxHeartbeats 400000 in
theorem viewOk_c (w : World) (v : DView) (s : Value) (h : Ints 2 w s (dues v.Jobs.Open)) : Calls Try.prog 43 #[.agg #[.int .i64 v.Jobs.Index, .int .i64 v.Jobs.Time, .int .i64 v.Jobs.Holder, .int .i64 v.Jobs.Epoch, .int .i64 v.Jobs.Until, s]] w (RetV w (.bool (jobsOk2 v.Jobs))) := by
 obtain ⟨a, n, c, rfl⟩ := h.shape
 go_enter Try.func43, Try.ntmps43
 go_wp2_with (first | (go_at_call 44; refine (jobsOk2_c _ v.Jobs _ (h.ext (by (first | exact extT | omega)))).mono ?_; rintro e w1 ⟨rfl, hx1⟩; have hz1 := hx1.size; obtain ⟨hc1, hf1⟩ := hx1.cells; (repeat (first | simp only [World.size_alloc] at hz1 hc1 hf1 | simp only [World.size_setCell] at hz1 hc1 hf1)); have hy1_0 : w.heap.size < w1.heap.size := (by omega)))
 go_ret
 refine ⟨rfl, ?_⟩
 (first | exact extT | omega)

end Go.Proofs.Ythihnangjghloaa

-- Views: stale, and the estimate of the time.
namespace Go.Proofs.Ythihnangjghloaa
open Go.RowKit Go.G8

set_option maxHeartbeats 800000 in
theorem staleIn_c (w : World) (v : DView) (s : Value) (index : Int) (h : Ints 2 w s (dues v.Jobs.Open)) : Calls Try.prog 16 #[.agg #[.int .i64 v.Jobs.Index, .int .i64 v.Jobs.Time, .int .i64 v.Jobs.Holder, .int .i64 v.Jobs.Epoch, .int .i64 v.Jobs.Until, s], .int .i64 index] w (RetV w (.bool (staleIn v index))) := by
 obtain ⟨a, n, c, rfl⟩ := h.shape
 cases hb : jobsOk2 v.Jobs
 ·
  have hv : staleIn v index = false := by simp [staleIn, hb]
  rw [hv]
  clear hv
  go_enter Try.func16, Try.ntmps16
  go_wp2_with (first | (go_at_call 43; refine (viewOk_c _ v _ (h.ext (by (first | exact extT | omega)))).mono ?_; rintro e w1 ⟨rfl, hx1⟩; rw [hb]; have hz1 := hx1.size; obtain ⟨hc1, hf1⟩ := hx1.cells; (repeat (first | simp only [World.size_alloc] at hz1 hc1 hf1 | simp only [World.size_setCell] at hz1 hc1 hf1)); have hy1_0 : w.heap.size < w1.heap.size := (by omega)))
  all_goals
   go_ret
   refine ⟨rfl, ?_⟩
   (first | exact extT | omega)
 ·
  have hv : staleIn v index = decide (v.Jobs.Index < index) := by simp [staleIn, hb]
  rw [hv]
  clear hv
  go_enter Try.func16, Try.ntmps16
  go_wp2_with (first | (go_at_call 43; refine (viewOk_c _ v _ (h.ext (by (first | exact extT | omega)))).mono ?_; rintro e w1 ⟨rfl, hx1⟩; rw [hb]; have hz1 := hx1.size; obtain ⟨hc1, hf1⟩ := hx1.cells; (repeat (first | simp only [World.size_alloc] at hz1 hc1 hf1 | simp only [World.size_setCell] at hz1 hc1 hf1)); have hy1_0 : w.heap.size < w1.heap.size := (by omega)))
  all_goals
   go_ret
   refine ⟨rfl, ?_⟩
   (first | exact extT | omega)

end Go.Proofs.Ythihnangjghloaa

-- Views: free, and held by one.
namespace Go.Proofs.Ythihnangjghloaa
open Go.RowKit Go.G8

end Go.Proofs.Ythihnangjghloaa

-- Views: what is due.
namespace Go.Proofs.Ythihnangjghloaa
open Go.RowKit Go.G8

end Go.Proofs.Ythihnangjghloaa

-- Views: what fires next.
namespace Go.Proofs.Ythihnangjghloaa
open Go.RowKit Go.G8

end Go.Proofs.Ythihnangjghloaa

-- Views: copies.
namespace Go.Proofs.Ythihnangjghloaa
open Go.RowKit Go.G8

set_option maxHeartbeats 800000 in
set_option maxRecDepth 100000 in
theorem copyView_c (w : World) (c0 c1 c2 c3 c4 : Int) (s5 : Value) (d5 : List Int) (L5 : Nat) (hL5 : d5.length = L5 * 2) (h5 : Ints 2 w s5 d5) (hs5 : L5 ≤ 1048576) :
  Calls Try.prog 45 #[.agg #[.int .i64 c0, .int .i64 c1, .int .i64 c2, .int .i64 c3, .int .i64 c4, s5]] w (Ret w fun v w' => ∃ t5 : Value, v = .agg #[.int .i64 c0, .int .i64 c1, .int .i64 c2, .int .i64 c3, .int .i64 c4, t5] ∧ OwnI w.heap.size 132 2 w' t5 d5) := by
 obtain ⟨a5, n5, k5, rfl⟩ := h5.shape
 obtain ⟨i0, hi, hz0, hz1, hz2⟩ := info_parts info_Due
 go_enter Try.func45, Try.ntmps45
 go_wp2_with (first | (at_builtin; refine wp_append_fresh rfl _ _ 30 rfl 132 i0 _ 2 16 Try.underlying30 hi hz0 hz1 hz2 rfl (by decide) (w.heap.size + 1 + 1 + 1) (by simp) rfl _ _ rfl (h5.ext (by (first | exact extT | omega))) (ints_oneCell _ _) L5 (by simp; omega) (by unfold maxLen; omega) (by omega) ?_; rotate_right; intro t5 w1 g5 hx1; obtain ⟨ta5, tn5, tc5, rfl⟩ := g5.sl.shape; have hz1 := hx1.size; obtain ⟨hc1, hf1⟩ := hx1.cells; (repeat (first | simp only [World.size_alloc] at hz1 hc1 hf1 g5 | simp only [World.size_setCell] at hz1 hc1 hf1 g5)); have hy1_0 : w.heap.size < w1.heap.size := (by omega); have hy1_1 : w.heap.size + 1 < w1.heap.size := (by omega); have hy1_2 : w.heap.size + 1 + 1 < w1.heap.size := (by omega)))
 refine bodyPost_ret (v := .agg #[.int .i64 c0, .int .i64 c1, .int .i64 c2, .int .i64 c3, .int .i64 c4, .slice ta5 tn5 tc5]) ?_ rfl ?_
 ·
  simp [results, Try.results45, go_sem, *]
 ·
  refine ⟨_, rfl, ?_, _, rfl, (g5.keep ?_).mono ?_⟩
  all_goals clear hc1 hf1
  ·
   (first | exact extT | omega)
  ·
   repeat' (first | (with_reducible exact Chg.refl _ _) | (with_reducible refine Chg.drewN ?_ _) | (with_reducible refine Chg.drew ?_) | (with_reducible refine Chg.alloc ?_ _) | (with_reducible refine Chg.setLow ?_ ?_ _) | (with_reducible refine Chg.ext ?_ (by assumption)) | omega)
  ·
   omega
end Go.Proofs.Ythihnangjghloaa

-- Views: what is heard of the jobs.
namespace Go.Proofs.Ythihnangjghloaa
open Go.RowKit Go.G8

noncomputable def heardJobs (v j : DJobs) : DJobs := if jobsOk2 v then (if jobsOk2 j && !decide (j.Index < v.Index) then j else v) else ⟨0, 0, 0, 0, 0, []⟩
theorem jobs_len {j : DJobs} (h : jobsOk2 j = true) : j.Open.length ≤ 8 := by
 simp only [Bool.and_eq_true, jobsOk2] at h
 exact (openOk_iff.1 h.2.2.2.2.2).1

set_option maxHeartbeats 1600000 in
set_option maxRecDepth 100000 in
theorem heardJobs_c (w : World) (v j : DJobs) (s t : Value) (hv : Ints 2 w s (dues v.Open)) (hj : Ints 2 w t (dues j.Open)) :
  Calls Try.prog 14 #[.agg #[.int .i64 v.Index, .int .i64 v.Time, .int .i64 v.Holder, .int .i64 v.Epoch, .int .i64 v.Until, s], .agg #[.int .i64 j.Index, .int .i64 j.Time, .int .i64 j.Holder, .int .i64 j.Epoch, .int .i64 j.Until, t]] w (Ret w fun r w' => ∃ t5 : Value, r = .agg #[.int .i64 (heardJobs v j).Index, .int .i64 (heardJobs v j).Time, .int .i64 (heardJobs v j).Holder, .int .i64 (heardJobs v j).Epoch, .int .i64 (heardJobs v j).Until, t5] ∧ OwnI w.heap.size 132 2 w' t5 (dues (heardJobs v j).Open)) := by
 obtain ⟨a, n, c, rfl⟩ := hv.shape
 obtain ⟨a', n', c', rfl⟩ := hj.shape
 cases hb : jobsOk2 v
 ·
  have hh : heardJobs v j = ⟨0, 0, 0, 0, 0, []⟩ := by simp [heardJobs, hb]
  go_enter Try.func14, Try.ntmps14
  go_wp2_with (first | (go_at_call 43; refine (viewOk_c _ ⟨v⟩ _ (hv.ext (by (first | exact extT | omega)))).mono ?_; rintro e w1 ⟨rfl, hx1⟩; simp only [hb]; have hz1 := hx1.size; obtain ⟨hc1, hf1⟩ := hx1.cells; (repeat (first | simp only [World.size_alloc] at hz1 hc1 hf1 | simp only [World.size_setCell] at hz1 hc1 hf1)); have hy1_0 : w.heap.size < w1.heap.size := (by omega); have hy1_1 : w.heap.size + 1 < w1.heap.size := (by omega); have hy1_2 : w.heap.size + 1 + 1 < w1.heap.size := (by omega)))
  refine bodyPost_ret (v := .agg #[.int .i64 0, .int .i64 0, .int .i64 0, .int .i64 0, .int .i64 0, .slice none 0 0]) ?_ rfl ?_
  ·
   simp [results, Try.results14, go_sem, *]
  ·
   rw [hh]
   refine ⟨_, rfl, ?_, _, rfl, ⟨0, rfl, .inl ⟨rfl, rfl⟩⟩⟩
   clear hc1 hf1
   (first | exact extT | omega)
 have hlv : v.Open.length ≤ 8 := jobs_len hb
 cases hk : jobsOk2 j
 ·
  have hh : heardJobs v j = v := by simp [heardJobs, hb, hk]
  go_enter Try.func14, Try.ntmps14
  go_wp2_with (first | (go_at_call 43; refine (viewOk_c _ ⟨v⟩ _ (hv.ext (by (first | exact extT | omega)))).mono ?_; rintro e w1 ⟨rfl, hx1⟩; simp only [hb]; have hz1 := hx1.size; obtain ⟨hc1, hf1⟩ := hx1.cells; (repeat (first | simp only [World.size_alloc] at hz1 hc1 hf1 | simp only [World.size_setCell] at hz1 hc1 hf1)); have hy1_0 : w.heap.size < w1.heap.size := (by omega); have hy1_1 : w.heap.size + 1 < w1.heap.size := (by omega); have hy1_2 : w.heap.size + 1 + 1 < w1.heap.size := (by omega)) | (go_at_call 44; refine (jobsOk2_c _ j _ (hj.ext (by (first | exact extT | omega)))).mono ?_; rintro e w2 ⟨rfl, hx2⟩; simp only [hk]; have hz2 := hx2.size; obtain ⟨hc2, hf2⟩ := hx2.cells; (repeat (first | simp only [World.size_alloc] at hz2 hc2 hf2 | simp only [World.size_setCell] at hz2 hc2 hf2)); have hy2_0 : w.heap.size < w2.heap.size := (by omega); have hy2_1 : w.heap.size + 1 < w2.heap.size := (by omega); have hy2_2 : w.heap.size + 1 + 1 < w2.heap.size := (by omega)) | (go_at_call 45; refine (copyView_c _ v.Index v.Time v.Holder v.Epoch v.Until _ _ _ (length_dues _) (hv.ext (by (first | exact extT | omega))) (by omega)).mono ?_; rintro e w3 ⟨_, rfl, hx3, t5, rfl, g5⟩; obtain ⟨ta5, tn5, tc5, rfl⟩ := g5.shape; have hz3 := hx3.size; obtain ⟨hc3, hf3⟩ := hx3.cells; (repeat (first | simp only [World.size_alloc] at hz3 hc3 hf3 g5 | simp only [World.size_setCell] at hz3 hc3 hf3 g5)); have hy3_0 : w.heap.size < w3.heap.size := (by omega); have hy3_1 : w.heap.size + 1 < w3.heap.size := (by omega); have hy3_2 : w.heap.size + 1 + 1 < w3.heap.size := (by omega)))
  refine bodyPost_ret (v := .agg #[.int .i64 v.Index, .int .i64 v.Time, .int .i64 v.Holder, .int .i64 v.Epoch, .int .i64 v.Until, .slice ta5 tn5 tc5]) ?_ rfl ?_
  ·
   simp [results, Try.results14, go_sem, *]
  ·
   rw [hh]
   refine ⟨_, rfl, ?_, _, rfl, (g5.keep ?_).mono ?_⟩
   all_goals clear hc1 hf1 hc2 hf2 hc3 hf3
   ·
    (first | exact extT | omega)
   ·
    repeat' (first | (with_reducible exact Chg.refl _ _) | (with_reducible refine Chg.drewN ?_ _) | (with_reducible refine Chg.drew ?_) | (with_reducible refine Chg.alloc ?_ _) | (with_reducible refine Chg.setLow ?_ ?_ _) | (with_reducible refine Chg.ext ?_ (by assumption)) | omega)
   ·
    omega
 have hlj : j.Open.length ≤ 8 := jobs_len hk
 by_cases hi : j.Index < v.Index
 ·
  have hh : heardJobs v j = v := by simp [heardJobs, hb, hk, hi]
  have hi' : decide (j.Index < v.Index) = true := by simpa using hi
  go_enter Try.func14, Try.ntmps14
  go_wp2_with (first | (go_at_call 43; refine (viewOk_c _ ⟨v⟩ _ (hv.ext (by (first | exact extT | omega)))).mono ?_; rintro e w1 ⟨rfl, hx1⟩; simp only [hb]; have hz1 := hx1.size; obtain ⟨hc1, hf1⟩ := hx1.cells; (repeat (first | simp only [World.size_alloc] at hz1 hc1 hf1 | simp only [World.size_setCell] at hz1 hc1 hf1)); have hy1_0 : w.heap.size < w1.heap.size := (by omega); have hy1_1 : w.heap.size + 1 < w1.heap.size := (by omega); have hy1_2 : w.heap.size + 1 + 1 < w1.heap.size := (by omega)) | (go_at_call 44; refine (jobsOk2_c _ j _ (hj.ext (by (first | exact extT | omega)))).mono ?_; rintro e w2 ⟨rfl, hx2⟩; simp only [hk]; have hz2 := hx2.size; obtain ⟨hc2, hf2⟩ := hx2.cells; (repeat (first | simp only [World.size_alloc] at hz2 hc2 hf2 | simp only [World.size_setCell] at hz2 hc2 hf2)); have hy2_0 : w.heap.size < w2.heap.size := (by omega); have hy2_1 : w.heap.size + 1 < w2.heap.size := (by omega); have hy2_2 : w.heap.size + 1 + 1 < w2.heap.size := (by omega)) | (go_at_call 45; refine (copyView_c _ v.Index v.Time v.Holder v.Epoch v.Until _ _ _ (length_dues _) (hv.ext (by (first | exact extT | omega))) (by omega)).mono ?_; rintro e w3 ⟨_, rfl, hx3, t5, rfl, g5⟩; obtain ⟨ta5, tn5, tc5, rfl⟩ := g5.shape; have hz3 := hx3.size; obtain ⟨hc3, hf3⟩ := hx3.cells; (repeat (first | simp only [World.size_alloc] at hz3 hc3 hf3 g5 | simp only [World.size_setCell] at hz3 hc3 hf3 g5)); have hy3_0 : w.heap.size < w3.heap.size := (by omega); have hy3_1 : w.heap.size + 1 < w3.heap.size := (by omega); have hy3_2 : w.heap.size + 1 + 1 < w3.heap.size := (by omega)))
  refine bodyPost_ret (v := .agg #[.int .i64 v.Index, .int .i64 v.Time, .int .i64 v.Holder, .int .i64 v.Epoch, .int .i64 v.Until, .slice ta5 tn5 tc5]) ?_ rfl ?_
  ·
   simp [results, Try.results14, go_sem, *]
  ·
   rw [hh]
   refine ⟨_, rfl, ?_, _, rfl, (g5.keep ?_).mono ?_⟩
   all_goals clear hc1 hf1 hc2 hf2 hc3 hf3
   ·
    (first | exact extT | omega)
   ·
    repeat' (first | (with_reducible exact Chg.refl _ _) | (with_reducible refine Chg.drewN ?_ _) | (with_reducible refine Chg.drew ?_) | (with_reducible refine Chg.alloc ?_ _) | (with_reducible refine Chg.setLow ?_ ?_ _) | (with_reducible refine Chg.ext ?_ (by assumption)) | omega)
   ·
    omega
 ·
  have hh : heardJobs v j = j := by simp [heardJobs, hb, hk, hi]
  have hi' : decide (j.Index < v.Index) = false := by simpa using hi
  go_enter Try.func14, Try.ntmps14
  go_wp2_with (first | (go_at_call 43; refine (viewOk_c _ ⟨v⟩ _ (hv.ext (by (first | exact extT | omega)))).mono ?_; rintro e w1 ⟨rfl, hx1⟩; simp only [hb]; have hz1 := hx1.size; obtain ⟨hc1, hf1⟩ := hx1.cells; (repeat (first | simp only [World.size_alloc] at hz1 hc1 hf1 | simp only [World.size_setCell] at hz1 hc1 hf1)); have hy1_0 : w.heap.size < w1.heap.size := (by omega); have hy1_1 : w.heap.size + 1 < w1.heap.size := (by omega); have hy1_2 : w.heap.size + 1 + 1 < w1.heap.size := (by omega)) | (go_at_call 44; refine (jobsOk2_c _ j _ (hj.ext (by (first | exact extT | omega)))).mono ?_; rintro e w2 ⟨rfl, hx2⟩; simp only [hk]; have hz2 := hx2.size; obtain ⟨hc2, hf2⟩ := hx2.cells; (repeat (first | simp only [World.size_alloc] at hz2 hc2 hf2 | simp only [World.size_setCell] at hz2 hc2 hf2)); have hy2_0 : w.heap.size < w2.heap.size := (by omega); have hy2_1 : w.heap.size + 1 < w2.heap.size := (by omega); have hy2_2 : w.heap.size + 1 + 1 < w2.heap.size := (by omega)) | (go_at_call 45; refine (copyView_c _ j.Index j.Time j.Holder j.Epoch j.Until _ _ _ (length_dues _) (hj.ext (by (first | exact extT | omega))) (by omega)).mono ?_; rintro e w3 ⟨_, rfl, hx3, t5, rfl, g5⟩; obtain ⟨ta5, tn5, tc5, rfl⟩ := g5.shape; have hz3 := hx3.size; obtain ⟨hc3, hf3⟩ := hx3.cells; (repeat (first | simp only [World.size_alloc] at hz3 hc3 hf3 g5 | simp only [World.size_setCell] at hz3 hc3 hf3 g5)); have hy3_0 : w.heap.size < w3.heap.size := (by omega); have hy3_1 : w.heap.size + 1 < w3.heap.size := (by omega); have hy3_2 : w.heap.size + 1 + 1 < w3.heap.size := (by omega)))
  refine bodyPost_ret (v := .agg #[.int .i64 j.Index, .int .i64 j.Time, .int .i64 j.Holder, .int .i64 j.Epoch, .int .i64 j.Until, .slice ta5 tn5 tc5]) ?_ rfl ?_
  ·
   simp [results, Try.results14, go_sem, *]
  ·
   rw [hh]
   refine ⟨_, rfl, ?_, _, rfl, (g5.keep ?_).mono ?_⟩
   all_goals clear hc1 hf1 hc2 hf2 hc3 hf3
   ·
    (first | exact extT | omega)
   ·
    repeat' (first | (with_reducible exact Chg.refl _ _) | (with_reducible refine Chg.drewN ?_ _) | (with_reducible refine Chg.drew ?_) | (with_reducible refine Chg.alloc ?_ _) | (with_reducible refine Chg.setLow ?_ ?_ _) | (with_reducible refine Chg.ext ?_ (by assumption)) | omega)
   ·
    omega
end Go.Proofs.Ythihnangjghloaa

-- Operations: right or not.
namespace Go.Proofs.Ythihnangjghloaa
open Go.RowKit Go.G8


end Go.Proofs.Ythihnangjghloaa

-- Schedulers: right or not.
namespace Go.Proofs.Ythihnangjghloaa
open Go.RowKit Go.G8

end Go.Proofs.Ythihnangjghloaa

-- Schedulers: new, fallen, their request.
namespace Go.Proofs.Ythihnangjghloaa
open Go.RowKit Go.G8


end Go.Proofs.Ythihnangjghloaa

-- Schedulers as one thing: read, owned, marked.
set_option linter.unusedSimpArgs false
set_option linter.unusedVariables false
namespace Go.Proofs.Ythihnangjghloaa
open Go.RowKit Go.G8

end Go.Proofs.Ythihnangjghloaa
namespace Go.G8
open Go.RowKit
theorem OwnI.boxS {B : Nat} {e : TypeId} {n : Nat} {w : World} {v : Value} {xs : List Int} (h : OwnI B e n w v xs) {X : Nat} {t : TypeId} {a : Array Value} (hX : Blk w X t a) (h1 : t ≠ e) (i : Nat) (u : Value) : OwnI B e n (w.setCell ⟨X, i, none⟩ u) v xs :=
 OwnI.upd' h ((Upd.refl w [X]).setCell (by simp) _) (fun k hk hf => by
  obtain ⟨cur, hb⟩ := h.typed hk
  simp at hf; subst hf
  exact h1 (hX.same hb))
end Go.G8
namespace Go.Proofs.Ythihnangjghloaa
open Go.RowKit Go.G8
def RdSched (w : World) (v : Value) (s : DSched) : Prop := ∃ t2 : Value, v = .agg #[.int .i64 s.Id, .int .i64 s.Seq, .int .i64 s.View.Jobs.Index, .int .i64 s.View.Jobs.Time, .int .i64 s.View.Jobs.Holder, .int .i64 s.View.Jobs.Epoch, .int .i64 s.View.Jobs.Until, t2, .bool s.Busy, .int .i64 s.Op.Kind, .int .i64 s.Op.A, .int .i64 s.Op.B, .int .i64 s.Op.C, .int .i64 s.Op.D, .int .i64 s.Index] ∧ Ints 2 w t2 (dues s.View.Jobs.Open)
def OwSched (B : Nat) (w : World) (v : Value) (s : DSched) (F : List Nat) : Prop := ∃ t2 : Value, v = .agg #[.int .i64 s.Id, .int .i64 s.Seq, .int .i64 s.View.Jobs.Index, .int .i64 s.View.Jobs.Time, .int .i64 s.View.Jobs.Holder, .int .i64 s.View.Jobs.Epoch, .int .i64 s.View.Jobs.Until, t2, .bool s.Busy, .int .i64 s.Op.Kind, .int .i64 s.Op.A, .int .i64 s.Op.B, .int .i64 s.Op.C, .int .i64 s.Op.D, .int .i64 s.Index] ∧ OwnI B 132 2 w t2 (dues s.View.Jobs.Open) ∧ F = feet [t2]
def MkSched (B : Nat) (w : World) (v : Value) (s : DSched) (F : List Nat) (q : Int) : Prop := ∃ t2 : Value, v = .agg #[.int .i64 s.Id, .int .i64 s.Seq, .int .i64 s.View.Jobs.Index, .int .i64 s.View.Jobs.Time, .int .i64 s.View.Jobs.Holder, .int .i64 s.View.Jobs.Epoch, .int .i64 s.View.Jobs.Until, t2, .bool s.Busy, .int .i64 s.Op.Kind, .int .i64 s.Op.A, .int .i64 s.Op.B, .int .i64 s.Op.C, .int .i64 s.Op.D, .int .i64 s.Index] ∧ OwnI B 132 2 w t2 (run q (s.View.Jobs.Open.length * 2)) ∧ F = feet [t2]
section
variable {B B' : Nat} {w w' : World} {v : Value} {s s' : DSched} {F : List Nat} {q : Int}
theorem RdSched.shape (h : RdSched w v s) : ∃ a7 n7 k7, v = .agg #[.int .i64 s.Id, .int .i64 s.Seq, .int .i64 s.View.Jobs.Index, .int .i64 s.View.Jobs.Time, .int .i64 s.View.Jobs.Holder, .int .i64 s.View.Jobs.Epoch, .int .i64 s.View.Jobs.Until, .slice a7 n7 k7, .bool s.Busy, .int .i64 s.Op.Kind, .int .i64 s.Op.A, .int .i64 s.Op.B, .int .i64 s.Op.C, .int .i64 s.Op.D, .int .i64 s.Index] := by
 obtain ⟨t2, rfl, h2⟩ := h
 obtain ⟨a2, n2, k2, rfl⟩ := h2.shape
 exact ⟨a2, n2, k2, rfl⟩
theorem RdSched.ext (h : RdSched w v s) (x : Ext w w') : RdSched w' v s := let ⟨t2, e, h2⟩ := h; ⟨t2, e, h2.ext x⟩
theorem OwSched.rd (h : OwSched B w v s F) : RdSched w v s := let ⟨t2, e, h2, _⟩ := h; ⟨t2, e, h2.ints⟩
theorem OwSched.ext (h : OwSched B w v s F) (x : Ext w w') : OwSched B w' v s F := let ⟨t2, e, h2, hF⟩ := h; ⟨t2, e, Own.ext h2 x, hF⟩
theorem OwSched.keep (h : OwSched B w v s F) (x : Chg B w w') : OwSched B w' v s F := let ⟨t2, e, h2, hF⟩ := h; ⟨t2, e, h2.keep x, hF⟩
theorem OwSched.mono (h : OwSched B w v s F) (x : B' ≤ B) : OwSched B' w v s F := let ⟨t2, e, h2, hF⟩ := h; ⟨t2, e, h2.mono x, hF⟩
theorem OwSched.upd (h : OwSched B w v s F) {fs : List Nat} (x : Upd w w' fs) (hn : ∀ k, k ∈ F → k ∈ fs → False) : OwSched B w' v s F := by
 obtain ⟨t2, e, h2, rfl⟩ := h
 exact ⟨t2, e, OwnI.upd' h2 x hn, rfl⟩
theorem OwSched.box (h : OwSched B w v s F) {X : Nat} {a : Array Value} (hX : Blk w X 65 a) (i : Nat) (u : Value) : OwSched B (w.setCell ⟨X, i, none⟩ u) v s F := let ⟨t2, e, h2, hF⟩ := h; ⟨t2, e, h2.boxS hX (by decide) i u, hF⟩
theorem OwSched.low (h : OwSched B w v s F) : ∀ k, k ∈ F → B ≤ k ∧ k < w.heap.size := by
 obtain ⟨t2, e, h2, rfl⟩ := h
 exact fun k hk => h2.foot k hk
theorem MkSched.ext (h : MkSched B w v s F q) (x : Ext w w') : MkSched B w' v s F q := let ⟨t2, e, h2, hF⟩ := h; ⟨t2, e, Own.ext h2 x, hF⟩
theorem MkSched.upd (h : MkSched B w v s F q) {fs : List Nat} (x : Upd w w' fs) (hn : ∀ k, k ∈ F → k ∈ fs → False) : MkSched B w' v s F q := by
 obtain ⟨t2, e, h2, rfl⟩ := h
 exact ⟨t2, e, OwnI.upd' h2 x hn, rfl⟩
end
end Go.Proofs.Ythihnangjghloaa
