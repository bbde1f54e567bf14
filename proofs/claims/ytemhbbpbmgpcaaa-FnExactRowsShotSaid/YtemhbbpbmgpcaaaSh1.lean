/- Snapshots as rows. -/
import Derived.Test.YtemhbbpbmgpcaaaShM
import Derived.Test.YtemhbbpbmgpcaaaNum3
import Derived.Test.YtemhbbpbmgpcaaaKT
import Derived.Test.YtemhbbpbmgpcaaaP6
import Derived.Test.YtemhbbpbmgpcaaaQ4
set_option linter.unusedSimpArgs false
set_option linter.unusedVariables false
namespace Go.Proofs.Ytemhbbpbmgpcaaa
open Go.RowKit Go.G8

end Go.Proofs.Ytemhbbpbmgpcaaa
namespace Go.G8
open Go.RowKit
theorem Ints.part {w : World} {a : Option Addr} {cap : Nat} {xs : List Int} (h : Ints 1 w (.slice a xs.length cap) xs) {l m : Nat} (h1 : l < m) (h2 : m ≤ xs.length) (h3 : xs.length ≤ cap) : Ints 1 w (.slice (a.map (fun x => x.add l)) (m - l) (cap - l)) ((xs.take m).drop l) := by
  have := h.sliced (l := l) (m := m) (Nat.le_of_lt h1) h2
  unfold Go.sliced at this
  rw [if_neg (by omega), Nat.mul_one] at this
  exact this
theorem own_ne {B B' : Nat} {e e1 e2 : TypeId} {n m : Nat} {w : World} {v u : Value} {rows : List NRow} {ss : List Value} {xs : List Int} (h : OwnI B e2 m w v xs) (k : OwnNs B' e e1 n w u rows ss) (hn : e2 ≠ e) : v.ownBlock = none ∨ v.ownBlock ≠ u.ownBlock := by
  cases hv : v.ownBlock with
  | none => exact .inl rfl
  | some b =>
    refine .inr (fun hu => ?_)
    obtain ⟨c1, h1⟩ := Own.typed h hv
    obtain ⟨c2, h2⟩ := Own.typed k.2.2.1 hu.symm
    exact hn (h1.same h2)
end Go.G8
namespace Go.Proofs.Ytemhbbpbmgpcaaa
open Go.RowKit Go.G8
set_option maxHeartbeats 800000 in
theorem partsOf_c (w : World) (n : Nat) (hn : n ≤ 100000) : Calls Try.prog 26 #[.int .i64 (n : Int)] w fun e w' => e = .returned (.int .i64 ((parts n : Nat) : Int)) ∧ w = w' := by
  have hq : (((n + 19 : Nat) : Int)).tdiv 20 = ((parts n : Nat) : Int) := rfl
  have e1 : (n : Int) + 20 - 1 = ((n + 19 : Nat) : Int) := by omega
  rw [← hq]
  obtain ⟨m, hm⟩ : ∃ m : Nat, m = n + 19 := ⟨_, rfl⟩
  rw [← hm] at e1 ⊢
  have hml : m ≤ 100100 := by omega
  go_enter Try.func26, Try.ntmps26
  go_wp2_with fail
  go_ret
  simp [e1]; omega
set_option maxHeartbeats 8000000 in
set_option maxRecDepth 100000 in
theorem shotRows_k {w : World} {v : Value} {s : DShot} (h : RdShot w v s) : Calls Try.prog 8 #[v] w (Ret w fun r w' => ∃ FF, OwRows w.heap.size w' r (shotRows s) FF) := by
  obtain ⟨t2, t3, rfl, h2, h3⟩ := h
  obtain ⟨a2, n2, k2, rfl⟩ := h2.shape
  obtain ⟨a3, n3, k3, rfl⟩ := h3.shape
  obtain ⟨i0, hi, hz0, hz1, hz2⟩ := info_parts info_Int64
  obtain ⟨j0, hj, hy0, hy1, hy2⟩ := info_parts info_Int64S
  have hE0 : Ext w (w.alloc (.cells #[.int .i64 s.Num, .int .i64 s.State.Index, .int .i64 s.State.Time, .slice a2 n2 k2, .slice a3 n3 k3, .int .i64 s.State.Lease.Holder, .int .i64 s.State.Lease.Epoch, .int .i64 s.State.Lease.Until] 39)) := (Ext.refl _).alloc _
  have B0 : Blk (w.alloc (.cells #[.int .i64 s.Num, .int .i64 s.State.Index, .int .i64 s.State.Time, .slice a2 n2 k2, .slice a3 n3 k3, .int .i64 s.State.Lease.Holder, .int .i64 s.State.Lease.Epoch, .int .i64 s.State.Lease.Until] 39)) w.heap.size 39 #[.int .i64 s.Num, .int .i64 s.State.Index, .int .i64 s.State.Time, .slice a2 n2 k2, .slice a3 n3 k3, .int .i64 s.State.Lease.Holder, .int .i64 s.State.Lease.Epoch, .int .i64 s.State.Lease.Until] := Blk.new _ _ _
  go_enter Try.func8, Try.ntmps8
  go_wp2_with fail
  refine (shotOk_c _ s.Num s.State.Index s.State.Time _ s.State.Pairs _ s.State.Jobs s.State.Lease.Holder s.State.Lease.Epoch s.State.Lease.Until (h2.ext hE0) (h3.ext hE0)).mono ?_
  rintro e w1 ⟨rfl, hx1⟩
  have KP1 := B0.ext hx1
  have CP1 := KP1.cell
  have hE1 : Ext w w1 := hE0.trans hx1
  have hzz := hx1.size
  simp only [World.size_alloc] at hzz
  have hp1 : w.heap.size < w1.heap.size := by omega
  clear hx1 B0
  cases hb : shotOk s
  · go_wp2_with fail
    go_ret
    exact ⟨_, rfl, hE1, _, [], by rw [show shotRows s = [] by simp [shotRows, hb]]; exact OwnNs.nil _ _ _ _ _, rfl⟩
  have HBB := Lib.hid hb
  have hst := (shotOk_parts hb).2.2.1
  have hnb := stateNums_bound hst
  clear hb
  go_wp2_with fail
  refine (stateNumbers_c _ s.State _ _ (h2.ext hE1) (h3.ext hE1)).mono ?_
  rintro e w2 ⟨_, rfl, hx2, o2⟩
  rw [show stateNumbers s.State = stateNums s.State by simp [stateNumbers, hst]] at o2
  obtain ⟨N, hN⟩ : ∃ N, N = stateNums s.State := ⟨_, rfl⟩
  rw [← hN] at o2 hnb
  obtain ⟨na, nc, rfl, hnc, hnm, hna⟩ := o2.ints.one
  have HNA := Lib.hid hna
  unfold maxLen at hnm
  have hE2 : Ext w w2 := hE1.trans hx2
  have KP2 := KP1.ext hx2
  have CP2 := KP2.cell
  have hz2' := hx2.size
  have hp2 : w.heap.size < w2.heap.size := by omega
  have HIN := Lib.hid o2.ints
  have HN := Lib.hid hN
  have hst' := Lib.hid hst
  clear hx2 CP1 hna o2 hN hst
  go_wp2_with fail
  obtain ⟨W3, hW3⟩ : ∃ W3, W3 = w2.alloc (.cells #[] 52) := ⟨_, rfl⟩
  rw [← hW3]
  have hE3 : Ext w2 W3 := by rw [hW3]; exact (Ext.refl _).alloc _
  have hz3 : W3.heap.size = w2.heap.size + 1 := by rw [hW3]; simp
  have hO3 : OwnNs w2.heap.size 52 2 0 W3 (.slice (some ⟨w2.heap.size, 0, none⟩) 0 0) [] [] := by rw [hW3]; exact OwnNs.made0 w2 _ _ 0 0 #[] (by simp) (by decide)
  clear hW3
  go_loopw [5, 6] (fun rows part wr => ∃ k : Nat, k ≤ parts N.length ∧ part = .int .i64 k ∧ Ext w2 wr ∧ ∃ ss, OwnNs w2.heap.size 52 2 0 wr rows (nestInt64S (rowsTo s N k)) ss) (fun _ part _ => parts N.length - (intOf part).toNat)
  case atStart => exact ⟨0, Nat.zero_le _, rfl, hE3, [], by simpa [nestInt64S, rowsTo] using hO3⟩
  case round =>
    obtain ⟨k, hk, rfl, he, ss, hown⟩ := hrel
    obtain ⟨ra, rn, rc, rfl⟩ := hown.nest.shape
    have hp4 : parts N.length ≤ 5 := by unfold parts; omega
    have KPr := KP2.ext he
    have CPr := KPr.cell
    have hzr := he.size
    have hpr : w.heap.size < wr.heap.size := by omega
    have hfo := hown.foot
    have hlen : (nestInt64S (rowsTo s N k)).length = k := by simp [nestInt64S, rowsTo]
    go_wp2_with fail
    refine (partsOf_c _ N.length (by omega)).mono ?_
    rintro e wr' ⟨rfl, rfl⟩
    by_cases hlt : k < parts N.length
    · have hlt' : k * 20 < N.length := by unfold parts at hlt; omega
      have hOW := Lib.hid hown
      have O4 := OwnI.lit wr 2 [s.Num, s.State.Index, (k : Int), (N.length : Int)] (by simp)
      clear hown
      obtain ⟨z, hz⟩ : ∃ z : Nat, z = (k + 1) * 20 := ⟨_, rfl⟩
      have hzI : ((k : Int) + 1) * 20 = (z : Int) := by omega
      have hzl : z ≤ 200 := by omega
      have hzk : k * 20 < z := by omega
      have HZ := Lib.hid hz
      clear hz
      by_cases hfull : (z : Int) < (N.length : Int)
      · have hfd : z < N.length := by omega
        have hpart := Lib.hid ((HIN.out.ext (he.trans ((Ext.refl wr).alloc (.cells #[.int .i64 s.Num, .int .i64 s.State.Index, .int .i64 k, .int .i64 N.length] 2)))).part hzk (Nat.le_of_lt hfd) hnc)
        have hnew : Hid ((N.take z).drop (k * 20) = (N.drop (k * 20)).take 20) := Lib.hid (by rw [HZ.out, List.drop_take]; congr 1; omega)
        have hnl : ((N.take z).drop (k * 20)).length ≤ 20 := by rw [hnew.out]; simp; omega
        go_wp2_with (first | (at_builtin; refine wp_append rfl (.tmp 31) (.tmp 40) 52 rfl 2 i0 _ 1 8 Try.underlying52 hi hz0 hz1 hz2 rfl (by decide) wr.heap.size _ (([s.Num, s.State.Index, (k : Int), (N.length : Int)]).map (.int .i64)) rfl O4 _ (((N.take z).drop (k * 20)).map (.int .i64)) rfl hpart.out (ints_oneCell _ _) 1000000 (by simp only [List.length_map, List.length_append, List.length_cons, List.length_nil]; omega) (by unfold maxLen; omega) (by omega) (by simp) wr ((Ext.refl wr).alloc _) (Nat.le_refl _) ?_; rotate_right; intro v5 w5 O5 E5 _; have O5 : OwnI wr.heap.size 2 1 w5 v5 ([s.Num, s.State.Index, (k : Int), (N.length : Int)] ++ (N.take z).drop (k * 20)) := (by simpa [OwnI] using O5); obtain ⟨b5, m5, c5, rfl⟩ := O5.shape; have KP5 := KPr.ext E5; have CP5 := KP5.cell; have hz5 := E5.size; have hp5 : w.heap.size < w5.heap.size := (by omega)) | (at_builtin; refine wp_append rfl (.tmp 43) (.tmp 49) 52 rfl 2 i0 _ 1 8 Try.underlying52 hi hz0 hz1 hz2 rfl (by decide) wr.heap.size _ (([s.Num, s.State.Index, (k : Int), (N.length : Int)] ++ (N.take z).drop (k * 20)).map (.int .i64)) rfl (Own.ext O5 ((Ext.refl w5).alloc _)) _ (([s.State.Index, s.Num]).map (.int .i64)) rfl (OwnI.lit w5 2 [s.State.Index, s.Num] (by simp)).ints (ints_oneCell _ _) 1000000 (by simp only [List.length_map, List.length_append, List.length_cons, List.length_nil]; omega) (by unfold maxLen; omega) (by omega) (by simp; omega) wr (E5.alloc _) (Nat.le_refl _) ?_; rotate_right; intro v7 w7 O7 E7 _; have O7 : OwnI wr.heap.size 2 1 w7 v7 (shotRow s N k) := (by have e := hnew.out; simp only [shotRow]; rw [← e]; simpa [OwnI] using O7); obtain ⟨b7, m7, c7, rfl⟩ := O7.shape; have hz7 := E7.size) | (go_at_call 27; refine (withSum_c _ _ _ O7.ints).mono ?_; rintro e w8 ⟨_, rfl, hx8, g8⟩; obtain ⟨b8, m8, c8, rfl⟩ := g8.shape; have hz8 := hx8.size) | (at_builtin; refine wp_append_row (n := 0) (r := ([], withSum (shotRow s N k))) rfl _ _ 31 rfl j0 _ 24 Try.underlying31 hj hy0 hy1 hy2 rfl rfl ((hOW.out.ext (E7.trans hx8)).ext ((Ext.refl _).alloc _)) w8.heap.size rfl _ (Blk.new _ _ _) rfl rfl (g8.ext ((Ext.refl _).alloc _)) (by omega) (fun q hq => Nat.lt_of_lt_of_le (hfo q hq).2 (by omega)) 1000001 (by rw [hlen]; omega) (by unfold maxLen; omega) (by omega) (by simp; omega) ?_; rotate_right; intro g cp wa hown1 hga hxa _))
        go_roundw
        case rel => exact ⟨k + 1, by omega, by go_num, hxa w2 ((he.trans (E7.trans hx8)).alloc _) (Nat.le_refl _), ss ++ [.slice b8 m8 c8], by have h9 := hown1; rw [hlen] at h9; rw [rowsTo_succ, nestI_snoc]; exact h9⟩
        case measure => simp [intOf]; omega
      · have hfd : ¬ z < N.length := by omega
        have hpart := Lib.hid ((HIN.out.ext (he.trans ((Ext.refl wr).alloc (.cells #[.int .i64 s.Num, .int .i64 s.State.Index, .int .i64 k, .int .i64 N.length] 2)))).part hlt' (Nat.le_refl _) hnc)
        have hnew : Hid ((N.take N.length).drop (k * 20) = (N.drop (k * 20)).take 20) := Lib.hid (by rw [List.take_length, List.take_of_length_le]; rw [List.length_drop]; have := HZ.out; omega)
        have hnl : ((N.take N.length).drop (k * 20)).length ≤ 20 := by rw [hnew.out]; simp; omega
        go_wp2_with (first | (at_builtin; refine wp_append rfl (.tmp 31) (.tmp 40) 52 rfl 2 i0 _ 1 8 Try.underlying52 hi hz0 hz1 hz2 rfl (by decide) wr.heap.size _ (([s.Num, s.State.Index, (k : Int), (N.length : Int)]).map (.int .i64)) rfl O4 _ (((N.take N.length).drop (k * 20)).map (.int .i64)) rfl hpart.out (ints_oneCell _ _) 1000000 (by simp only [List.length_map, List.length_append, List.length_cons, List.length_nil]; omega) (by unfold maxLen; omega) (by omega) (by simp) wr ((Ext.refl wr).alloc _) (Nat.le_refl _) ?_; rotate_right; intro v5 w5 O5 E5 _; have O5 : OwnI wr.heap.size 2 1 w5 v5 ([s.Num, s.State.Index, (k : Int), (N.length : Int)] ++ (N.take N.length).drop (k * 20)) := (by simpa [OwnI] using O5); obtain ⟨b5, m5, c5, rfl⟩ := O5.shape; have KP5 := KPr.ext E5; have CP5 := KP5.cell; have hz5 := E5.size; have hp5 : w.heap.size < w5.heap.size := (by omega)) | (at_builtin; refine wp_append rfl (.tmp 43) (.tmp 49) 52 rfl 2 i0 _ 1 8 Try.underlying52 hi hz0 hz1 hz2 rfl (by decide) wr.heap.size _ (([s.Num, s.State.Index, (k : Int), (N.length : Int)] ++ (N.take N.length).drop (k * 20)).map (.int .i64)) rfl (Own.ext O5 ((Ext.refl w5).alloc _)) _ (([s.State.Index, s.Num]).map (.int .i64)) rfl (OwnI.lit w5 2 [s.State.Index, s.Num] (by simp)).ints (ints_oneCell _ _) 1000000 (by simp only [List.length_map, List.length_append, List.length_cons, List.length_nil]; omega) (by unfold maxLen; omega) (by omega) (by simp; omega) wr (E5.alloc _) (Nat.le_refl _) ?_; rotate_right; intro v7 w7 O7 E7 _; have O7 : OwnI wr.heap.size 2 1 w7 v7 (shotRow s N k) := (by have e := hnew.out; simp only [shotRow]; rw [← e]; simpa [OwnI] using O7); obtain ⟨b7, m7, c7, rfl⟩ := O7.shape; have hz7 := E7.size) | (go_at_call 27; refine (withSum_c _ _ _ O7.ints).mono ?_; rintro e w8 ⟨_, rfl, hx8, g8⟩; obtain ⟨b8, m8, c8, rfl⟩ := g8.shape; have hz8 := hx8.size) | (at_builtin; refine wp_append_row (n := 0) (r := ([], withSum (shotRow s N k))) rfl _ _ 31 rfl j0 _ 24 Try.underlying31 hj hy0 hy1 hy2 rfl rfl ((hOW.out.ext (E7.trans hx8)).ext ((Ext.refl _).alloc _)) w8.heap.size rfl _ (Blk.new _ _ _) rfl rfl (g8.ext ((Ext.refl _).alloc _)) (by omega) (fun q hq => Nat.lt_of_lt_of_le (hfo q hq).2 (by omega)) 1000001 (by rw [hlen]; omega) (by unfold maxLen; omega) (by omega) (by simp; omega) ?_; rotate_right; intro g cp wa hown1 hga hxa _))
        go_roundw
        case rel => exact ⟨k + 1, by omega, by go_num, hxa w2 ((he.trans (E7.trans hx8)).alloc _) (Nat.le_refl _), ss ++ [.slice b8 m8 c8], by have h9 := hown1; rw [hlen] at h9; rw [rowsTo_succ, nestI_snoc]; exact h9⟩
        case measure => simp [intOf]; omega
    · obtain rfl : k = parts N.length := by omega
      go_wp2_with fail
      go_ret
      refine ⟨_, rfl, hE2.trans he, ?_⟩
      rw [show shotRows s = rowsTo s N (parts N.length) by simp [shotRows, HBB.out, HN.out]]
      exact ⟨_, ss, hown.mono (by omega), rfl⟩
set_option maxHeartbeats 8000000 in
set_option maxRecDepth 100000 in
theorem sShotRows_k {w : World} {v : Value} {s : DShot} (h : RdShot w v s) : Calls Try.prog 6 #[v] w (Ret w fun r w' => ∃ FF, OwRows w.heap.size w' r (shotRows s) FF) := by
  obtain ⟨t2, t3, rfl, h2, h3⟩ := h
  obtain ⟨a2, n2, k2, rfl⟩ := h2.shape
  obtain ⟨a3, n3, k3, rfl⟩ := h3.shape
  obtain ⟨i0, hi, hz0, hz1, hz2⟩ := info_parts info_Int64
  obtain ⟨j0, hj, hy0, hy1, hy2⟩ := info_parts info_Int64S
  have hE0 : Ext w (w.alloc (.cells #[.int .i64 s.Num, .int .i64 s.State.Index, .int .i64 s.State.Time, .slice a2 n2 k2, .slice a3 n3 k3, .int .i64 s.State.Lease.Holder, .int .i64 s.State.Lease.Epoch, .int .i64 s.State.Lease.Until] 39)) := (Ext.refl _).alloc _
  have B0 : Blk (w.alloc (.cells #[.int .i64 s.Num, .int .i64 s.State.Index, .int .i64 s.State.Time, .slice a2 n2 k2, .slice a3 n3 k3, .int .i64 s.State.Lease.Holder, .int .i64 s.State.Lease.Epoch, .int .i64 s.State.Lease.Until] 39)) w.heap.size 39 #[.int .i64 s.Num, .int .i64 s.State.Index, .int .i64 s.State.Time, .slice a2 n2 k2, .slice a3 n3 k3, .int .i64 s.State.Lease.Holder, .int .i64 s.State.Lease.Epoch, .int .i64 s.State.Lease.Until] := Blk.new _ _ _
  go_enter Try.func6, Try.ntmps6
  go_wp2_with fail
  refine (sShotOk_c _ s.Num s.State.Index s.State.Time _ s.State.Pairs _ s.State.Jobs s.State.Lease.Holder s.State.Lease.Epoch s.State.Lease.Until (h2.ext (hE0.alloc _)) (h3.ext (hE0.alloc _))).mono ?_
  rintro e w1 ⟨rfl, hx1⟩
  have KP1 := (B0.alloc (.cells #[] 52)).ext hx1
  have CP1 := KP1.cell
  have hE1 : Ext w w1 := Ext.trans (hE0.alloc _) hx1
  have hzz := hx1.size
  simp only [World.size_alloc] at hzz
  have hp1 : w.heap.size < w1.heap.size := by omega
  have hp1' : w.heap.size + 1 < w1.heap.size := by omega
  have hO1 : OwnNs (w.heap.size + 1) 52 2 0 w1 (.slice (some ⟨w.heap.size + 1, 0, none⟩) 0 0) [] [] := OwnNs.ext (by have := OwnNs.made0 (w.alloc (.cells #[.int .i64 s.Num, .int .i64 s.State.Index, .int .i64 s.State.Time, .slice a2 n2 k2, .slice a3 n3 k3, .int .i64 s.State.Lease.Holder, .int .i64 s.State.Lease.Epoch, .int .i64 s.State.Lease.Until] 39)) 52 2 0 0 #[] (by simp) (by decide); rw [World.size_alloc] at this; exact this) hx1
  clear hx1 B0
  cases hb : shotOk s
  · go_wp2_with fail
    go_ret
    exact ⟨_, rfl, hE1, _, [], by rw [show shotRows s = [] by simp [shotRows, hb]]; exact hO1.mono (by omega), rfl⟩
  have HBB := Lib.hid hb
  have hst := (shotOk_parts hb).2.2.1
  have hnb := stateNums_bound hst
  clear hb
  go_wp2_with fail
  refine (sStateNumbers_c _ s.State _ _ (h2.ext hE1) (h3.ext hE1)).mono ?_
  rintro e w2 ⟨_, rfl, hx2, o2⟩
  rw [show stateNumbers s.State = stateNums s.State by simp [stateNumbers, hst]] at o2
  obtain ⟨N, hN⟩ : ∃ N, N = stateNums s.State := ⟨_, rfl⟩
  rw [← hN] at o2 hnb
  obtain ⟨na, nc, rfl, hnc, hnm, hna⟩ := o2.ints.one
  have hNO : OwnI w.heap.size 2 1 w2 (.slice na N.length nc) N := OwnI.mono o2 (by omega)
  unfold maxLen at hnm
  have hE2 : Ext w w2 := hE1.trans hx2
  have KP2 := KP1.ext hx2
  have hz2' := hx2.size
  have hO2 := hO1.ext hx2
  have HN := Lib.hid hN
  have hst' := Lib.hid hst
  clear CP1 hna o2 hN hst hO1
  go_wp2_with fail
  go_loopw [3, 5] (fun rows part wr => ∃ k : Nat, k ≤ parts N.length ∧ part = .int .i64 k ∧ Ext w wr ∧ Blk wr w.heap.size 39 #[.int .i64 s.Num, .int .i64 s.State.Index, .int .i64 s.State.Time, .slice a2 n2 k2, .slice a3 n3 k3, .int .i64 s.State.Lease.Holder, .int .i64 s.State.Lease.Epoch, .int .i64 s.State.Lease.Until] ∧ OwnI w.heap.size 2 1 wr (.slice na N.length nc) N ∧ w2.heap.size ≤ wr.heap.size ∧ ∃ ss, OwnNs (w.heap.size + 1) 52 2 0 wr rows (nestInt64S (rowsTo s N k)) ss) (fun _ part _ => parts N.length - (intOf part).toNat)
  case atStart => exact ⟨0, Nat.zero_le _, rfl, hE2, KP2, hNO, Nat.le_refl _, [], by simpa [nestInt64S, rowsTo] using hO2⟩
  case round =>
    obtain ⟨k, hk, rfl, he0, KPr, NO, hzr, ss, hown⟩ := hrel
    obtain ⟨wo, hwo⟩ : ∃ wo, wo = wr := ⟨_, rfl⟩
    subst hwo
    obtain ⟨ra, rn, rc, rfl⟩ := hown.nest.shape
    have hp4 : parts N.length ≤ 5 := by unfold parts; omega
    have CPr := KPr.cell
    have hne := own_ne NO hown (by decide)
    have hneb : some w.heap.size ≠ (Value.slice ra rn rc).ownBlock := fun e => by have := (Own.lt hown.2.2.1 e.symm).1; omega
    obtain ⟨_, _, e9, _, _, hna⟩ := (OwnI.ints NO).one
    injection e9 with e91 _ e93; subst e91; subst e93
    have HNA := Lib.hid hna
    have HNO := Lib.hid NO
    clear hna NO
    have hpr : w.heap.size + 1 < wo.heap.size := by omega
    have hpr' : w.heap.size < wo.heap.size := by omega
    have hfo := hown.foot
    have hlen : (nestInt64S (rowsTo s N k)).length = k := by simp [nestInt64S, rowsTo]
    by_cases hlt : k * 20 < N.length
    · have hlt' : k < parts N.length := by unfold parts; omega
      have hOW := Lib.hid hown
      obtain ⟨H4, hH4⟩ : ∃ H4 : List Int, H4 = [s.Num, s.State.Index, (k : Int), (N.length : Int)] := ⟨_, rfl⟩
      have O4 := OwnI.lit wo 2 [s.Num, s.State.Index, (k : Int), (N.length : Int)] (by simp)
      rw [← hH4] at O4
      have hl4 : H4.length = 4 := by rw [hH4]; rfl
      rw [hl4] at O4
      have hkI : (k : Int) * 20 < (N.length : Int) := by omega
      have HH4 := Lib.hid hH4
      have W4 : H4.map (Value.int .i64) = [.int .i64 s.Num, .int .i64 s.State.Index, .int .i64 k, .int .i64 N.length] := by rw [hH4]; rfl
      rw [W4] at O4
      clear hown hH4 W4
      go_wp2_with fail
      obtain ⟨wq, hwq⟩ : ∃ wq, wq = wo.alloc (.cells #[.int .i64 s.Num, .int .i64 s.State.Index, .int .i64 k, .int .i64 N.length] 2) := ⟨_, rfl⟩
      have hEq : Ext wo wq := by rw [hwq]; exact (Ext.refl _).alloc _
      have hO4 : OwnI wo.heap.size 2 1 wq (.slice (some ⟨wo.heap.size, 0, none⟩) 4 4) H4 := by rw [hwq]; exact O4
      rw [← hwq]
      clear hwq O4
      go_loopw [6, 7] (fun row i ws => ∃ j : Nat, j ≤ 20 ∧ k * 20 + j ≤ N.length ∧ i = .int .i64 ((k * 20 + j : Nat) : Int) ∧ Ext wo ws ∧ OwnI wo.heap.size 2 1 ws row (H4 ++ (N.drop (k * 20)).take j)) (fun _ i _ => N.length - (intOf i).toNat)
      case atStart => exact ⟨0, by omega, by omega, by go_num, hEq, by simpa using hO4⟩
      case round =>
        obtain ⟨j, hj1, hj2, rfl, hes, hO⟩ := hrel
        obtain ⟨ws, hws⟩ : ∃ ws, ws = wr := ⟨_, rfl⟩
        subst hws
        obtain ⟨qa, qn, qc, rfl⟩ := hO.shape
        have hzs := hes.size
        have hjl : ((N.drop (k * 20)).take j).length = j := by simp; omega
        obtain ⟨i, hi'⟩ : ∃ i : Nat, i = k * 20 + j := ⟨_, rfl⟩
        obtain ⟨z, hz⟩ : ∃ z : Nat, z = (k + 1) * 20 := ⟨_, rfl⟩
        have hzI : ((k : Int) + 1) * 20 = (z : Int) := by omega
        have hzl : z ≤ 200 := by omega
        rw [← hi']
        rw [← hi'] at hj2
        by_cases hA : i < N.length
        · by_cases hB : i < z
          · have hA' : ((i : Nat) : Int) < (N.length : Int) := by omega
            have hB' : ((i : Nat) : Int) < (z : Int) := by omega
            obtain ⟨x, b1, q1, hx, rfl, hb1, c⟩ := HNA.out i hA
            have d0 := hes.cell c
            have HX := Lib.hid hx; have HI := Lib.hid hi'; have HZ := Lib.hid hz
            have hjj : j < 20 := by omega
            have HO := Lib.hid hO
            clear hx c hi' hz hO CPr
            go_wp2_with (first | (at_builtin; refine wp_append rfl (.tmp 47) (.tmp 52) 52 rfl 2 i0 _ 1 8 Try.underlying52 hi hz0 hz1 hz2 rfl (by decide) wo.heap.size _ ((H4 ++ (N.drop (k * 20)).take j).map (.int .i64)) rfl (Own.ext HO.out ((Ext.refl ws).alloc _)) _ (([x]).map (.int .i64)) rfl (OwnI.lit ws 2 [x] (by simp)).ints (ints_oneCell _ _) 1000000 (by simp only [List.length_map, List.length_append, List.length_cons, List.length_nil]; omega) (by unfold maxLen; omega) (by omega) (by simp; omega) wo (hes.alloc _) (Nat.le_refl _) ?_; rotate_right; intro v5 w5 O5 E5 _))
            go_roundw
            case rel =>
              refine ⟨j + 1, by omega, by have := HI.out; omega, by rw [HI.out]; go_num, E5, ?_⟩
              have hg : (N.drop (k * 20))[j]? = some x := by rw [List.getElem?_drop, ← HI.out]; exact HX.out
              rw [take_snoc hg, ← List.append_assoc]
              simpa [OwnI] using O5
            case measure => have := HI.out; simp [intOf]; omega
          · have hA' : ((i : Nat) : Int) < (N.length : Int) := by omega
            have hB' : ¬ ((i : Nat) : Int) < (z : Int) := by omega
            have hfin : (N.drop (k * 20)).take j = (N.drop (k * 20)).take 20 := by rw [show j = 20 by omega]
            have HF := Lib.hid hfin
            have CPs := (KPr.ext hes).cell
            have hps : w.heap.size < ws.heap.size := by omega
            have HO := Lib.hid hO
            clear hfin hi' hz hO CPr
            go_wp2_with (first | (at_builtin; refine wp_append rfl (.tmp 55) (.tmp 61) 52 rfl 2 i0 _ 1 8 Try.underlying52 hi hz0 hz1 hz2 rfl (by decide) wo.heap.size _ ((H4 ++ (N.drop (k * 20)).take j).map (.int .i64)) rfl (Own.ext HO.out ((Ext.refl ws).alloc _)) _ (([s.State.Index, s.Num]).map (.int .i64)) rfl (OwnI.lit ws 2 [s.State.Index, s.Num] (by simp)).ints (ints_oneCell _ _) 1000000 (by simp only [List.length_map, List.length_append, List.length_cons, List.length_nil]; omega) (by unfold maxLen; omega) (by omega) (by simp; omega) wo (hes.alloc _) (Nat.le_refl _) ?_; rotate_right; intro v7 w7 O7 E7 _; have O7 : OwnI wo.heap.size 2 1 w7 v7 (shotRow s N k) := (by have e := HF.out; have e4 := HH4.out; simp only [shotRow]; rw [← e, ← e4]; simpa [OwnI] using O7); obtain ⟨b7, m7, c7, rfl⟩ := O7.shape; have hz7 := E7.size) | (go_at_call 22; refine (sWithSum_c _ _ _ O7.ints).mono ?_; rintro e w8 ⟨_, rfl, hx8, g8⟩; obtain ⟨b8, m8, c8, rfl⟩ := g8.shape; have hz8 := hx8.size) | (at_builtin; refine wp_append_row (n := 0) (r := ([], withSum (shotRow s N k))) rfl _ _ 31 rfl j0 _ 24 Try.underlying31 hj hy0 hy1 hy2 rfl rfl ((hOW.out.ext (E7.trans hx8)).ext ((Ext.refl _).alloc _)) w8.heap.size rfl _ (Blk.new _ _ _) rfl rfl (g8.ext ((Ext.refl _).alloc _)) (by omega) (fun q hq => Nat.lt_of_lt_of_le (hfo q hq).2 (by omega)) 1000001 (by rw [hlen]; omega) (by unfold maxLen; omega) (by omega) (by simp; omega) ?_; rotate_right; intro g cp wa hown1 hga hxa _))
            go_roundw
            case rel => exact ⟨k + 1, by omega, by go_num, hxa w (he0.trans ((E7.trans hx8).alloc _)) (by omega), Blk.grown ((KPr.ext (E7.trans hx8)).alloc _) hga hneb, Own.kept (Own.ext HNO.out ((E7.trans hx8).alloc _)) hga hne, by have := hga.size; simp only [World.size_alloc] at this; omega, ss ++ [.slice b8 m8 c8], by have h9 := hown1; rw [hlen] at h9; rw [rowsTo_succ, nestI_snoc]; exact h9⟩
            case measure => simp [intOf]; omega
        · have hA' : ¬ ((i : Nat) : Int) < (N.length : Int) := by omega
          have hfin : (N.drop (k * 20)).take j = (N.drop (k * 20)).take 20 := by rw [List.take_of_length_le (by rw [List.length_drop]; omega), List.take_of_length_le (by rw [List.length_drop]; omega)]
          have HF := Lib.hid hfin
          have CPs := (KPr.ext hes).cell
          have hps : w.heap.size < ws.heap.size := by omega
          have HO := Lib.hid hO
          clear hfin hi' hz hO CPr
          go_wp2_with (first | (at_builtin; refine wp_append rfl (.tmp 55) (.tmp 61) 52 rfl 2 i0 _ 1 8 Try.underlying52 hi hz0 hz1 hz2 rfl (by decide) wo.heap.size _ ((H4 ++ (N.drop (k * 20)).take j).map (.int .i64)) rfl (Own.ext HO.out ((Ext.refl ws).alloc _)) _ (([s.State.Index, s.Num]).map (.int .i64)) rfl (OwnI.lit ws 2 [s.State.Index, s.Num] (by simp)).ints (ints_oneCell _ _) 1000000 (by simp only [List.length_map, List.length_append, List.length_cons, List.length_nil]; omega) (by unfold maxLen; omega) (by omega) (by simp; omega) wo (hes.alloc _) (Nat.le_refl _) ?_; rotate_right; intro v7 w7 O7 E7 _; have O7 : OwnI wo.heap.size 2 1 w7 v7 (shotRow s N k) := (by have e := HF.out; have e4 := HH4.out; simp only [shotRow]; rw [← e, ← e4]; simpa [OwnI] using O7); obtain ⟨b7, m7, c7, rfl⟩ := O7.shape; have hz7 := E7.size) | (go_at_call 22; refine (sWithSum_c _ _ _ O7.ints).mono ?_; rintro e w8 ⟨_, rfl, hx8, g8⟩; obtain ⟨b8, m8, c8, rfl⟩ := g8.shape; have hz8 := hx8.size) | (at_builtin; refine wp_append_row (n := 0) (r := ([], withSum (shotRow s N k))) rfl _ _ 31 rfl j0 _ 24 Try.underlying31 hj hy0 hy1 hy2 rfl rfl ((hOW.out.ext (E7.trans hx8)).ext ((Ext.refl _).alloc _)) w8.heap.size rfl _ (Blk.new _ _ _) rfl rfl (g8.ext ((Ext.refl _).alloc _)) (by omega) (fun q hq => Nat.lt_of_lt_of_le (hfo q hq).2 (by omega)) 1000001 (by rw [hlen]; omega) (by unfold maxLen; omega) (by omega) (by simp; omega) ?_; rotate_right; intro g cp wa hown1 hga hxa _))
          go_roundw
          case rel => exact ⟨k + 1, by omega, by go_num, hxa w (he0.trans ((E7.trans hx8).alloc _)) (by omega), Blk.grown ((KPr.ext (E7.trans hx8)).alloc _) hga hneb, Own.kept (Own.ext HNO.out ((E7.trans hx8).alloc _)) hga hne, by have := hga.size; simp only [World.size_alloc] at this; omega, ss ++ [.slice b8 m8 c8], by have h9 := hown1; rw [hlen] at h9; rw [rowsTo_succ, nestI_snoc]; exact h9⟩
          case measure => simp [intOf]; omega
    · obtain rfl : k = parts N.length := by unfold parts at hk ⊢; omega
      have hlt' : ¬ ((parts N.length : Nat) : Int) * 20 < (N.length : Int) := by omega
      go_wp2_with fail
      go_ret
      refine ⟨_, rfl, he0, ?_⟩
      rw [show shotRows s = rowsTo s N (parts N.length) by simp [shotRows, HBB.out, HN.out]]
      exact ⟨_, ss, hown.mono (by omega), rfl⟩
theorem shotRows_small (s : DShot) : numRows (shotRows s) ≤ 1000 := by
  cases h : shotOk s
  · simp [shotRows, h, numRows, nestInt64S, tot]
  · have hl := shotRows_len h
    have hb := numRows_bound 27 (shotRows s) (fun r hr => by
      obtain ⟨i, hi⟩ := List.mem_iff_getElem?.1 hr
      have hi' : i < (shotRows s).length := (List.getElem?_eq_some_iff.1 hi).1
      rw [shotRows_at h hi'] at hi
      rw [← Option.some.inj hi]
      exact Nat.le_trans (withSum_len _) (by have := shotRow_len s (stateNums s.State) i; omega))
    omega

end Go.Proofs.Ytemhbbpbmgpcaaa
