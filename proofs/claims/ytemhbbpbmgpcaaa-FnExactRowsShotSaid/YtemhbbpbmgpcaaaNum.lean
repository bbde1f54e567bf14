/- Numbers written by a cursor. -/
import Derived.Test.YtemhbbpbmgpcaaaSum
import Derived.Test.YtemhbbpbmgpcaaaP5
set_option linter.unusedSimpArgs false
set_option linter.unusedVariables false
namespace Go.Proofs.Ytemhbbpbmgpcaaa
open Go.RowKit Go.G8

set_option maxHeartbeats 1600000 in
set_option maxRecDepth 100000 in
theorem put_c (w : World) (X B : Nat) (v : Value) (xs ys : List Int) (p : Int) (b : Nat) (hK : Blk w X 80 #[v, .int .i64 p]) (ho : OwnI B 2 1 w v xs) (hX : X < B) (hb : Blk w b 2 (ys.map (Value.int .i64)).toArray) (hl : xs.length + ys.length ≤ 1000000) (hB : B ≤ w.heap.size) :
    Calls Try.prog 57 #[.pointer (some ⟨X, 0, none⟩), .slice (some ⟨b, 0, none⟩) ys.length ys.length] w (fun e w' => ∃ r, e = .returned r ∧ ∃ v', Blk w' X 80 #[v', .int .i64 p] ∧ OwnI B 2 1 w' v' (xs ++ ys) ∧ w.heap.size ≤ w'.heap.size ∧ ∀ W0 : World, Ext W0 w → W0.heap.size ≤ X → Ext W0 w') := by
  obtain ⟨a0, n0, k0, rfl⟩ := ho.shape
  obtain ⟨i0, hi, hz0, hz1, hz2⟩ := info_parts info_Int64
  have CK := hK.cell; have FK := hK.frozen
  have hne : some X ≠ (Value.slice a0 n0 k0).ownBlock := fun e => by have := (Own.lt ho e.symm).1; omega
  go_enter Try.func57, Try.ntmps57
  go_wp2_with (first | (at_builtin; refine wp_append_at rfl (.tmp 8) (.tmp 9) 52 rfl 2 i0 _ 1 8 Try.underlying52 hi hz0 hz1 hz2 rfl (by decide) B _ _ rfl ho ⟨b, 0, none⟩ ys.length ys.length (ys.map (.int .i64)) rfl (by simp) (fun j u hu => by rw [add_lit0, Nat.zero_add, hb.cell]; simpa using hu) (ints_oneCell _ _) 1000000 (by simp; omega) (by unfold maxLen; omega) (by omega) hB ?_; rotate_right; intro v1 wa hown1 hga hat; obtain ⟨ta, tn, tc, rfl⟩ := hown1.sl.shape; have KA := hK.grown hga hne; have CKA := KA.cell; have FKA := KA.frozen))
  refine bodyPost_end (by simp [results, Try.results57, go_sem]; try rfl) rfl ?_
  refine ⟨_, rfl, .slice ta tn tc, ?_, ?_, ?_, fun W0 hW hs => ?_⟩
  · have := KA.set_ 0 (.slice ta tn tc); simpa using this
  · have h9 : OwnI B 2 1 wa (.slice ta tn tc) (xs ++ ys) := by simpa [OwnI] using hown1
    exact OwnI.keep h9 ((Chg.refl B wa).setLow hX _)
  · have := hga.size; simp; omega
  · exact Ext.setCell (Ext.own hW ho (by omega) hga) hs _
theorem flPair_snoc (l : List DPair) (d : DPair) : flPair (l ++ [d]) = flPair l ++ [d.Key, d.Value] := by simp [flPair, DPair.ints]
set_option maxHeartbeats 4000000 in
set_option maxRecDepth 100000 in
theorem putPairs_c (w : World) (X B : Nat) (v : Value) (xs : List Int) (p : Int) (s : Value) (l : List DPair) (Wa : World) (hs : Ints 2 Wa s (flPair l)) (hEa : Ext Wa w) (hWa : Wa.heap.size ≤ X) (hK : Blk w X 80 #[v, .int .i64 p]) (ho : OwnI B 2 1 w v xs) (hX : X < B) (hl : xs.length + 1 + l.length * 2 ≤ 100000) (hB : B ≤ w.heap.size) :
    Calls Try.prog 58 #[.pointer (some ⟨X, 0, none⟩), s] w (fun e w' => ∃ r, e = .returned r ∧ ∃ v', Blk w' X 80 #[v', .int .i64 p] ∧ OwnI B 2 1 w' v' (xs ++ ((l.length : Int) :: flPair l)) ∧ w.heap.size ≤ w'.heap.size ∧ ∀ W0 : World, Ext W0 w → W0.heap.size ≤ X → Ext W0 w') := by
  obtain ⟨a, cap, rfl, hcap, hm, ha⟩ := hs.recs (f := DPair.ints) (fun _ => rfl) (by decide)
  have HA := Lib.hid ha
  clear ha
  unfold maxLen at hm
  go_enter Try.func58, Try.ntmps58
  go_wp2_with fail
  refine (put_c _ X B v xs [(l.length : Int)] p w.heap.size (hK.alloc _) (Own.ext ho ((Ext.refl _).alloc _)) hX (Blk.new _ _ _) (by simp; omega) (by simp; omega)).mono ?_
  rintro e w1 ⟨r, rfl, v1, K1, o1, hz1, hx1⟩
  simp only [World.size_alloc] at hz1
  have hy1 : ∀ W0 : World, Ext W0 w → W0.heap.size ≤ X → Ext W0 w1 := fun W0 h1 h2 => hx1 W0 (h1.alloc _) h2
  clear hx1
  go_wp2_with fail
  go_loopw [13] (fun i wr => ∃ k : Nat, k ≤ l.length ∧ i = .int .i64 k ∧ ∃ v2, Blk wr X 80 #[v2, .int .i64 p] ∧ OwnI B 2 1 wr v2 (xs ++ ((l.length : Int) :: flPair (l.take k))) ∧ w.heap.size ≤ wr.heap.size ∧ ∀ W0 : World, Ext W0 w → W0.heap.size ≤ X → Ext W0 wr) (fun i _ => l.length - (intOf i).toNat)
  case atStart => exact ⟨0, Nat.zero_le _, rfl, v1, K1, by simpa [flPair] using o1, by omega, hy1⟩
  case round =>
    obtain ⟨k, hk, rfl, v2, K2, o2, hz2, hy2⟩ := hrel
    by_cases hlt : k < l.length
    · obtain ⟨d, b1, q1, hd, rfl, hb1, c⟩ := HA.out k hlt
      have hEw : Ext Wa wr := hy2 Wa hEa hWa
      have d0 := hEw.cell (c 0 _ (by decide) rfl)
      have d1 := hEw.cell (c 1 _ (by decide) rfl)
      (try simp only [Nat.add_zero] at d0)
      have HD := Lib.hid hd
      have HK := Lib.hid K2; have HO := Lib.hid o2
      have hlk : (flPair (l.take k)).length = k * 2 := by rw [length_flPair, List.length_take]; congr 1; omega
      clear hd c K2 o2
      go_wp2_with fail
      refine (put_c _ X B v2 _ [d.Key, d.Value] p (wr.heap.size + 1) ((HK.out.alloc _).alloc _) (Own.ext HO.out (((Ext.refl _).alloc _).alloc _)) hX (Blk.new2 _ _ _ _) (by simp [hlk]; omega) (by simp; omega)).mono ?_
      rintro e w3 ⟨r, rfl, v3, K3, o3, hz3, hx3⟩
      simp only [World.size_alloc] at hz3
      go_wp2_with fail
      go_roundw
      case rel => exact ⟨k + 1, by omega, by go_num, v3, K3, by rw [take_snoc HD.out, flPair_snoc]; simpa using o3, by omega, fun W0 h1 h2 => hx3 W0 (((hy2 W0 h1 h2).alloc _).alloc _) h2⟩
      case measure => simp [intOf]; omega
    · obtain rfl : k = l.length := by omega
      rw [List.take_length] at o2
      go_wp2_with fail
      refine bodyPost_end (by simp [results, Try.results58, go_sem]; try rfl) rfl ?_
      exact ⟨_, rfl, v2, K2, o2, hz2, hy2⟩
theorem flJob_snoc (l : List DJob) (d : DJob) : flJob (l ++ [d]) = flJob l ++ [d.Id, d.Due, d.Key, d.Value, d.Fired] := by simp [flJob, DJob.ints]
set_option maxHeartbeats 4000000 in
set_option maxRecDepth 100000 in
theorem putJobs_c (w : World) (X B : Nat) (v : Value) (xs : List Int) (p : Int) (s : Value) (l : List DJob) (Wa : World) (hs : Ints 5 Wa s (flJob l)) (hEa : Ext Wa w) (hWa : Wa.heap.size ≤ X) (hK : Blk w X 80 #[v, .int .i64 p]) (ho : OwnI B 2 1 w v xs) (hX : X < B) (hl : xs.length + 1 + l.length * 5 ≤ 100000) (hB : B ≤ w.heap.size) :
    Calls Try.prog 59 #[.pointer (some ⟨X, 0, none⟩), s] w (fun e w' => ∃ r, e = .returned r ∧ ∃ v', Blk w' X 80 #[v', .int .i64 p] ∧ OwnI B 2 1 w' v' (xs ++ ((l.length : Int) :: flJob l)) ∧ w.heap.size ≤ w'.heap.size ∧ ∀ W0 : World, Ext W0 w → W0.heap.size ≤ X → Ext W0 w') := by
  obtain ⟨a, cap, rfl, hcap, hm, ha⟩ := hs.recs (f := DJob.ints) (fun _ => rfl) (by decide)
  have HA := Lib.hid ha
  clear ha
  unfold maxLen at hm
  go_enter Try.func59, Try.ntmps59
  go_wp2_with fail
  refine (put_c _ X B v xs [(l.length : Int)] p w.heap.size (hK.alloc _) (Own.ext ho ((Ext.refl _).alloc _)) hX (Blk.new _ _ _) (by simp; omega) (by simp; omega)).mono ?_
  rintro e w1 ⟨r, rfl, v1, K1, o1, hz1, hx1⟩
  simp only [World.size_alloc] at hz1
  have hy1 : ∀ W0 : World, Ext W0 w → W0.heap.size ≤ X → Ext W0 w1 := fun W0 h1 h2 => hx1 W0 (h1.alloc _) h2
  clear hx1
  go_wp2_with fail
  go_loopw [13] (fun i wr => ∃ k : Nat, k ≤ l.length ∧ i = .int .i64 k ∧ ∃ v2, Blk wr X 80 #[v2, .int .i64 p] ∧ OwnI B 2 1 wr v2 (xs ++ ((l.length : Int) :: flJob (l.take k))) ∧ w.heap.size ≤ wr.heap.size ∧ ∀ W0 : World, Ext W0 w → W0.heap.size ≤ X → Ext W0 wr) (fun i _ => l.length - (intOf i).toNat)
  case atStart => exact ⟨0, Nat.zero_le _, rfl, v1, K1, by simpa [flJob] using o1, by omega, hy1⟩
  case round =>
    obtain ⟨k, hk, rfl, v2, K2, o2, hz2, hy2⟩ := hrel
    by_cases hlt : k < l.length
    · obtain ⟨d, b1, q1, hd, rfl, hb1, c⟩ := HA.out k hlt
      have hEw : Ext Wa wr := hy2 Wa hEa hWa
      have d0 := hEw.cell (c 0 _ (by decide) rfl)
      have d1 := hEw.cell (c 1 _ (by decide) rfl)
      have d2 := hEw.cell (c 2 _ (by decide) rfl)
      have d3 := hEw.cell (c 3 _ (by decide) rfl)
      have d4 := hEw.cell (c 4 _ (by decide) rfl)
      (try simp only [Nat.add_zero] at d0)
      have HD := Lib.hid hd
      have HK := Lib.hid K2; have HO := Lib.hid o2
      have hlk : (flJob (l.take k)).length = k * 5 := by rw [length_flJob, List.length_take]; congr 1; omega
      clear hd c K2 o2
      go_wp2_with fail
      refine (put_c _ X B v2 _ [d.Id, d.Due, d.Key, d.Value, d.Fired] p (wr.heap.size + 1) ((HK.out.alloc _).alloc _) (Own.ext HO.out (((Ext.refl _).alloc _).alloc _)) hX (Blk.new2 _ _ _ _) (by simp [hlk]; omega) (by simp; omega)).mono ?_
      rintro e w3 ⟨r, rfl, v3, K3, o3, hz3, hx3⟩
      simp only [World.size_alloc] at hz3
      go_wp2_with fail
      go_roundw
      case rel => exact ⟨k + 1, by omega, by go_num, v3, K3, by rw [take_snoc HD.out, flJob_snoc]; simpa using o3, by omega, fun W0 h1 h2 => hx3 W0 (((hy2 W0 h1 h2).alloc _).alloc _) h2⟩
      case measure => simp [intOf]; omega
    · obtain rfl : k = l.length := by omega
      rw [List.take_length] at o2
      go_wp2_with fail
      refine bodyPost_end (by simp [results, Try.results59, go_sem]; try rfl) rfl ?_
      exact ⟨_, rfl, v2, K2, o2, hz2, hy2⟩
end Go.Proofs.Ytemhbbpbmgpcaaa
namespace Go.G8
open Go.RowKit
def stateNums (s : DState) : List Int := [s.Index, s.Time] ++ ((s.Pairs.length : Int) :: flPair s.Pairs) ++ ((s.Jobs.length : Int) :: flJob s.Jobs) ++ [s.Lease.Holder, s.Lease.Epoch, s.Lease.Until]
noncomputable def stateNumbers (s : DState) : List Int := if stateOk s then stateNums s else []
end Go.G8
namespace Go.Proofs.Ytemhbbpbmgpcaaa
open Go.RowKit Go.G8
theorem stateOk_lens {s : DState} (h : stateOk s = true) : s.Pairs.length ≤ 10 ∧ s.Jobs.length ≤ 8 := by
  simp only [stateOk, Bool.and_eq_true] at h
  obtain ⟨_, _, hp, hj, _⟩ := h
  exact ⟨PairsOk.len (pairsOk_iff.1 hp), (jobsOk_iff.1 hj).1⟩
set_option maxHeartbeats 4000000 in
set_option maxRecDepth 100000 in
theorem stateNumbers_c (w : World) (s : DState) (s2 s3 : Value) (h2 : Ints 2 w s2 (flPair s.Pairs)) (h3 : Ints 5 w s3 (flJob s.Jobs)) :
    Calls Try.prog 25 #[.agg #[.int .i64 s.Index, .int .i64 s.Time, s2, s3, .int .i64 s.Lease.Holder, .int .i64 s.Lease.Epoch, .int .i64 s.Lease.Until]] w (Ret w fun r w' => OwnI w.heap.size 2 1 w' r (stateNumbers s)) := by
  obtain ⟨a2, n2, k2, rfl⟩ := h2.shape
  obtain ⟨a3, n3, k3, rfl⟩ := h3.shape
  have hE0 : Ext w (w.alloc (.cells #[.int .i64 s.Index, .int .i64 s.Time, .slice a2 n2 k2, .slice a3 n3 k3, .int .i64 s.Lease.Holder, .int .i64 s.Lease.Epoch, .int .i64 s.Lease.Until] 37)) := (Ext.refl _).alloc _
  go_enter Try.func25, Try.ntmps25
  go_wp2_with fail
  refine (stateOk_c _ s.Index s.Time _ s.Pairs _ s.Jobs s.Lease.Holder s.Lease.Epoch s.Lease.Until (h2.ext hE0) (h3.ext hE0)).mono ?_
  rintro e w1 ⟨rfl, hx1⟩
  have KP1 := (Blk.new w 37 #[.int .i64 s.Index, .int .i64 s.Time, .slice a2 n2 k2, .slice a3 n3 k3, .int .i64 s.Lease.Holder, .int .i64 s.Lease.Epoch, .int .i64 s.Lease.Until]).ext hx1
  have CP1 := KP1.cell
  have hE1 : Ext w w1 := hE0.trans hx1
  have hz1 := hx1.size
  simp only [World.size_alloc] at hz1
  have hp1 : w.heap.size < w1.heap.size := by omega
  clear hx1
  cases hb : stateOk s
  · go_wp2_with fail
    go_ret
    exact ⟨_, rfl, hE1, by rw [show stateNumbers s = [] by simp [stateNumbers, hb]]; exact OwnI.nil _ _ _ _⟩
  obtain ⟨hl1, hl2⟩ := stateOk_lens hb
  have HBB := Lib.hid hb
  clear hb
  go_wp2_with fail
  refine (put_c _ w1.heap.size (w1.heap.size + 1) (.slice none 0 0) [] [s.Index, s.Time] 0 (w1.heap.size + 1) ((Blk.new w1 _ _).alloc _) (OwnI.nil _ _ _ _) (by omega) (Blk.new2 w1 _ _ _) (by simp) (by simp; try omega)).mono ?_
  rintro e w2 ⟨r2, rfl, v2, K2, o2, hz2, hy2⟩
  simp only [World.size_alloc] at hz2
  have E2 : Ext w1 w2 := hy2 w1 (((Ext.refl w1).alloc _).alloc _) (Nat.le_refl _)
  clear hy2
  have CP2 := (KP1.ext E2).cell; have hp2 : w.heap.size < w2.heap.size := by omega
  have HK2 := Lib.hid K2; have HO2 := Lib.hid o2
  clear K2 o2 CP1
  go_wp2_with fail
  refine (putPairs_c _ w1.heap.size (w1.heap.size + 1) v2 _ 0 _ s.Pairs w1 (h2.ext hE1) E2 (Nat.le_refl _) HK2.out HO2.out (by omega) (by simp; omega) (by omega)).mono ?_
  rintro e w3 ⟨r3, rfl, v3, K3, o3, hz3, hy3⟩
  have E3 : Ext w1 w3 := hy3 w1 E2 (Nat.le_refl _)
  clear hy3
  have CP3 := (KP1.ext E3).cell; have hp3 : w.heap.size < w3.heap.size := by omega
  have HK3 := Lib.hid K3; have HO3 := Lib.hid o3
  clear K3 o3 CP2
  go_wp2_with fail
  refine (putJobs_c _ w1.heap.size (w1.heap.size + 1) v3 _ 0 _ s.Jobs w1 (h3.ext hE1) E3 (Nat.le_refl _) HK3.out HO3.out (by omega) (by simp [length_flPair]; omega) (by omega)).mono ?_
  rintro e w4 ⟨r4, rfl, v4, K4, o4, hz4, hy4⟩
  have E4 : Ext w1 w4 := hy4 w1 E3 (Nat.le_refl _)
  clear hy4
  have CP4 := (KP1.ext E4).cell; have hp4 : w.heap.size < w4.heap.size := by omega
  have HK4 := Lib.hid K4; have HO4 := Lib.hid o4
  clear K4 o4 CP3
  go_wp2_with fail
  refine (put_c _ w1.heap.size (w1.heap.size + 1) v4 _ [s.Lease.Holder, s.Lease.Epoch, s.Lease.Until] 0 w4.heap.size (HK4.out.alloc _) (Own.ext HO4.out ((Ext.refl w4).alloc _)) (by omega) (Blk.new w4 _ _) (by simp [length_flPair, length_flJob]; omega) (by simp; omega)).mono ?_
  rintro e w5 ⟨r5, rfl, v5, K5, o5, hz5, hy5⟩
  have E5 : Ext w1 w5 := hy5 w1 (E4.alloc _) (Nat.le_refl _)
  clear hy5
  have KX5 := K5.cell
  have HO5 := Lib.hid o5
  clear o5 CP4
  go_wp2_with fail
  go_ret
  refine ⟨_, rfl, hE1.trans E5, ?_⟩
  rw [show stateNumbers s = ((([] ++ [s.Index, s.Time]) ++ ((s.Pairs.length : Int) :: flPair s.Pairs)) ++ ((s.Jobs.length : Int) :: flJob s.Jobs)) ++ [s.Lease.Holder, s.Lease.Epoch, s.Lease.Until] by simp [stateNumbers, HBB.out, stateNums]]
  exact OwnI.mono HO5.out (by omega)

end Go.Proofs.Ytemhbbpbmgpcaaa
