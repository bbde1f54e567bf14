/- The reference's rows of pairs, jobs and states. -/
import Derived.Test.YtemhbbpbmgpcaaaNum
import Derived.Test.YtemhbbpbmgpcaaaP3
set_option linter.unusedSimpArgs false
set_option linter.unusedVariables false
namespace Go.Proofs.Ytemhbbpbmgpcaaa
open Go.RowKit Go.G8

end Go.Proofs.Ytemhbbpbmgpcaaa
namespace Go.G8
open Go.RowKit
theorem step_append_own {P : Program} {w : World} {ops : Array Oper} {o : Oper} {a : Act} {K : Act → World → Prop} {Q : Exit → Act → World → Prop} {E : Prop} (hgd : o.guard = none) (s x : Operand) (t : TypeId)
    (ho : o.op = .call { callee := .builtin .append, args := #[s, x], argTypes := #[t, t] })
    (e : TypeId) (i : TypeInfo) (z : Value) (size bytes : Nat) (ht : P.underlying t = some (.slice e)) (hi : P.info? e = some i) (hz : i.zero = some z)
    (hsize : i.size = size) (hby : i.bytes = bytes) (hzs : z.cells.size = size) (hsz : 0 < size)
    (B : Nat) (v : Value) (cs : List Value) (hs : a.eval s = v) (hown : Own B e size w v cs) (ad : Addr) (m c : Nat) (news : List Value) (hx : a.eval x = .slice (some ad) m c) (hl : news.length = m * size) (hnews : ∀ j u, news[j]? = some u → w.cell? (ad.add j) = some u) (h1 : ∀ u ∈ news, u.oneCell' = true) (hm : 0 < m)
    (n : Nat) (hlen : cs.length + news.length ≤ n * size) (hn : n ≤ maxLen) (hbytes : n * bytes ≤ 140737488355328) (hbase : B ≤ w.heap.size)
    (h : ∀ v' w', Own B e size w' v' (cs ++ news) → w.grownBy w' v.ownBlock → K (a.put o.dst v') w') : if Region.wanted o (yielded ops a.tmps) = true then Oper.wp P o a w K Q else E := by
  obtain ⟨len, ho'⟩ := hown
  have hl0 : cs.length = len * size := ho'.1
  have hle : len + m ≤ n := by
    have : (len + m) * size ≤ n * size := by rw [Nat.add_mul]; omega
    exact Nat.le_of_mul_le_mul_right this hsz
  exact step_append_lies w hgd s x t ho B e i z size bytes ht hi hz hsize hby hzs hsz v len cs hs ho' ad m c news hx hl hnews h1 hm (Nat.le_trans hle hn) (Nat.le_trans (Nat.mul_le_mul_right _ hle) hbytes) hbase _ rfl (fun g cap w' h2 h3 _ _ => h _ w' ⟨_, h2⟩ h3)
end Go.G8
namespace Go.Proofs.Ytemhbbpbmgpcaaa
open Go.RowKit Go.G8
set_option maxHeartbeats 4000000 in
set_option maxRecDepth 100000 in
theorem sPairsRow_c (w : World) (s : Value) (l : List DPair) (hs : Ints 2 w s (flPair l)) (hok : pairsOk l = true) (hlen : l.length ≤ 100) :
    Calls Try.prog 46 #[s] w (Ret w fun r w' => OwnI w.heap.size 2 1 w' r ((l.length : Int) :: flPair l)) := by
  obtain ⟨a, cap, rfl, hcap, hm, ha⟩ := hs.recs (f := DPair.ints) (fun _ => rfl) (by decide)
  have HA := Lib.hid ha; have HOK := Lib.hid hok
  clear ha hok
  unfold maxLen at hm
  obtain ⟨i0, hi, hz0, hz1, hz2⟩ := info_parts info_Int64
  go_enter Try.func46, Try.ntmps46
  go_wp2_with fail
  refine (sPairsOk_c _ _ _ hs).mono ?_
  rintro e w1 ⟨rfl, hx1⟩
  rw [HOK.out]
  have hown0 : OwnI w.heap.size 2 1 (w1.alloc (.cells #[.int .i64 (l.length : Int)] 2)) (.slice (some ⟨w1.heap.size, 0, none⟩) 1 1) ((l.length : Int) :: flPair (l.take 0)) := by
    refine Own.of_blk (cap := 1) (Blk.new w1 _ _) hx1.size (by simp) (by simp [flPair]) (Nat.le_refl _) (by decide) ?_
    intro j hj
    simp [flPair] at hj ⊢
  go_wp2_with fail
  go_loopw [3, 4] (fun t i wr => ∃ k : Nat, k ≤ l.length ∧ i = .int .i64 k ∧ Ext w wr ∧ OwnI w.heap.size 2 1 wr t ((l.length : Int) :: flPair (l.take k))) (fun _ i _ => l.length - (intOf i).toNat)
  case atStart => exact ⟨0, Nat.zero_le _, rfl, hx1.alloc _, hown0⟩
  case round =>
    obtain ⟨k, hk, rfl, he, hown⟩ := hrel
    obtain ⟨ta, tn, tc, rfl⟩ := hown.shape
    have hsz := he.size
    by_cases hlt : k < l.length
    · obtain ⟨d, b1, q1, hd, rfl, hb1, c⟩ := HA.out k hlt
      have d0 := he.cell (c 0 _ (by decide) rfl)
      have e0 := c 0 _ (by decide) rfl
      have d1 := he.cell (c 1 _ (by decide) rfl)
      have e1 := c 1 _ (by decide) rfl
      (try simp only [Nat.add_zero] at d0 e0)
      have HD := Lib.hid hd
      have HO := Lib.hid hown
      have hlk : (flPair (l.take k)).length = k * 2 := by rw [length_flPair, List.length_take]; congr 1; omega
      clear hd c hown
      go_wp2_with fail
      go_region_held3 (fun w' => w'.cell? ⟨b1, q1 + k * 2, none⟩ = some (.int .i64 d.Key) ∧ w'.cell? ⟨b1, q1 + k * 2 + 1, none⟩ = some (.int .i64 d.Value)) (first | (refine ⟨Ext.cell (w := w) ?_ e0, Ext.cell (w := w) ?_ e1⟩ <;> (repeat' (first | (with_reducible exact Ext.refl _) | (with_reducible assumption) | (with_reducible refine Ext.drewN ?_ _) | (with_reducible refine Ext.drew ?_) | (with_reducible refine Ext.alloc ?_ _) | (with_reducible refine Ext.setCell ?_ ?_ _) | (with_reducible refine Ext.setRow ?_ ?_ _) | (with_reducible exact Nat.le_refl _) | (with_reducible refine Ext.trans ?_ (by assumption)) | omega)); done)) (first | (refine step_append_own rfl (.tmp 18) (.tmp 29) 52 rfl 2 i0 _ 1 8 Try.underlying52 hi hz0 hz1 hz2 rfl (by decide) w.heap.size (.slice ta tn tc) _ rfl (Own.ext HO.out (by repeat' (first | (with_reducible exact Ext.refl _) | (with_reducible assumption) | (with_reducible refine Ext.drewN ?_ _) | (with_reducible refine Ext.drew ?_) | (with_reducible refine Ext.alloc ?_ _) | (with_reducible refine Ext.setCell ?_ ?_ _) | (with_reducible refine Ext.setRow ?_ ?_ _) | (with_reducible exact Nat.le_refl _) | (with_reducible refine Ext.trans ?_ (by assumption)) | omega))) ⟨wr.heap.size, 0, none⟩ 2 2 ([d.Key, d.Value].map (.int .i64)) rfl (by simp) (fun j u hu => by rw [add_lit0, Nat.zero_add, ((Blk.new wr _ _).drew).cell]; simpa using hu) (ints_oneCell _ _) (by omega) 1000 (by simp [hlk]; omega) (by unfold maxLen; omega) (by omega) (by simp; omega) ?_; intro v3 wa hown1 hga; have hxa : Ext w wa := Ext.own (v := .slice ta tn tc) (he.trans (by repeat' (first | (with_reducible exact Ext.refl _) | (with_reducible assumption) | (with_reducible refine Ext.drewN ?_ _) | (with_reducible refine Ext.drew ?_) | (with_reducible refine Ext.alloc ?_ _) | (with_reducible refine Ext.setCell ?_ ?_ _) | (with_reducible refine Ext.setRow ?_ ?_ _) | (with_reducible exact Nat.le_refl _) | (with_reducible refine Ext.trans ?_ (by assumption)) | omega))) (Own.ext HO.out (by repeat' (first | (with_reducible exact Ext.refl _) | (with_reducible assumption) | (with_reducible refine Ext.drewN ?_ _) | (with_reducible refine Ext.drew ?_) | (with_reducible refine Ext.alloc ?_ _) | (with_reducible refine Ext.setCell ?_ ?_ _) | (with_reducible refine Ext.setRow ?_ ?_ _) | (with_reducible exact Nat.le_refl _) | (with_reducible refine Ext.trans ?_ (by assumption)) | omega))) (Nat.le_refl _) hga))
      all_goals
        have hown3 : OwnI w.heap.size 2 1 wa v3 (((l.length : Int) :: flPair (l.take k)) ++ [d.Key, d.Value]) := by simpa [OwnI] using hown1
        go_wp2_with fail
        go_roundw
        case rel => exact ⟨k + 1, by omega, by go_num, hxa, by rw [take_snoc HD.out, flPair_snoc]; simpa using hown3⟩
        case measure => simp [intOf]; omega
    · obtain rfl : k = l.length := by omega
      rw [List.take_length] at hown
      go_wp2_with fail
      go_ret
      exact ⟨_, rfl, he, hown⟩
set_option maxHeartbeats 4000000 in
set_option maxRecDepth 100000 in
theorem sOrdersRow_c (w : World) (s : Value) (l : List DJob) (hs : Ints 5 w s (flJob l)) (hok : jobsOk l = true) (hlen : l.length ≤ 100) :
    Calls Try.prog 47 #[s] w (Ret w fun r w' => OwnI w.heap.size 2 1 w' r ((l.length : Int) :: flJob l)) := by
  obtain ⟨a, cap, rfl, hcap, hm, ha⟩ := hs.recs (f := DJob.ints) (fun _ => rfl) (by decide)
  have HA := Lib.hid ha; have HOK := Lib.hid hok
  clear ha hok
  unfold maxLen at hm
  obtain ⟨i0, hi, hz0, hz1, hz2⟩ := info_parts info_Int64
  go_enter Try.func47, Try.ntmps47
  go_wp2_with fail
  refine (sJobsOk_c _ _ _ hs).mono ?_
  rintro e w1 ⟨rfl, hx1⟩
  rw [HOK.out]
  have hown0 : OwnI w.heap.size 2 1 (w1.alloc (.cells #[.int .i64 (l.length : Int)] 2)) (.slice (some ⟨w1.heap.size, 0, none⟩) 1 1) ((l.length : Int) :: flJob (l.take 0)) := by
    refine Own.of_blk (cap := 1) (Blk.new w1 _ _) hx1.size (by simp) (by simp [flJob]) (Nat.le_refl _) (by decide) ?_
    intro j hj
    simp [flJob] at hj ⊢
  go_wp2_with fail
  go_loopw [3, 4] (fun t i wr => ∃ k : Nat, k ≤ l.length ∧ i = .int .i64 k ∧ Ext w wr ∧ OwnI w.heap.size 2 1 wr t ((l.length : Int) :: flJob (l.take k))) (fun _ i _ => l.length - (intOf i).toNat)
  case atStart => exact ⟨0, Nat.zero_le _, rfl, hx1.alloc _, hown0⟩
  case round =>
    obtain ⟨k, hk, rfl, he, hown⟩ := hrel
    obtain ⟨ta, tn, tc, rfl⟩ := hown.shape
    have hsz := he.size
    by_cases hlt : k < l.length
    · obtain ⟨d, b1, q1, hd, rfl, hb1, c⟩ := HA.out k hlt
      have d0 := he.cell (c 0 _ (by decide) rfl)
      have e0 := c 0 _ (by decide) rfl
      have d1 := he.cell (c 1 _ (by decide) rfl)
      have e1 := c 1 _ (by decide) rfl
      have d2 := he.cell (c 2 _ (by decide) rfl)
      have e2 := c 2 _ (by decide) rfl
      have d3 := he.cell (c 3 _ (by decide) rfl)
      have e3 := c 3 _ (by decide) rfl
      have d4 := he.cell (c 4 _ (by decide) rfl)
      have e4 := c 4 _ (by decide) rfl
      (try simp only [Nat.add_zero] at d0 e0)
      have HD := Lib.hid hd
      have HO := Lib.hid hown
      have hlk : (flJob (l.take k)).length = k * 5 := by rw [length_flJob, List.length_take]; congr 1; omega
      clear hd c hown
      go_wp2_with fail
      go_region_held3 (fun w' => w'.cell? ⟨b1, q1 + k * 5, none⟩ = some (.int .i64 d.Id) ∧ w'.cell? ⟨b1, q1 + k * 5 + 1, none⟩ = some (.int .i64 d.Due) ∧ w'.cell? ⟨b1, q1 + k * 5 + 2, none⟩ = some (.int .i64 d.Key) ∧ w'.cell? ⟨b1, q1 + k * 5 + 3, none⟩ = some (.int .i64 d.Value) ∧ w'.cell? ⟨b1, q1 + k * 5 + 4, none⟩ = some (.int .i64 d.Fired)) (first | (refine ⟨Ext.cell (w := w) ?_ e0, Ext.cell (w := w) ?_ e1, Ext.cell (w := w) ?_ e2, Ext.cell (w := w) ?_ e3, Ext.cell (w := w) ?_ e4⟩ <;> (repeat' (first | (with_reducible exact Ext.refl _) | (with_reducible assumption) | (with_reducible refine Ext.drewN ?_ _) | (with_reducible refine Ext.drew ?_) | (with_reducible refine Ext.alloc ?_ _) | (with_reducible refine Ext.setCell ?_ ?_ _) | (with_reducible refine Ext.setRow ?_ ?_ _) | (with_reducible exact Nat.le_refl _) | (with_reducible refine Ext.trans ?_ (by assumption)) | omega)); done)) (first | (refine step_append_own rfl (.tmp 18) (.tmp 44) 52 rfl 2 i0 _ 1 8 Try.underlying52 hi hz0 hz1 hz2 rfl (by decide) w.heap.size (.slice ta tn tc) _ rfl (Own.ext HO.out (by repeat' (first | (with_reducible exact Ext.refl _) | (with_reducible assumption) | (with_reducible refine Ext.drewN ?_ _) | (with_reducible refine Ext.drew ?_) | (with_reducible refine Ext.alloc ?_ _) | (with_reducible refine Ext.setCell ?_ ?_ _) | (with_reducible refine Ext.setRow ?_ ?_ _) | (with_reducible exact Nat.le_refl _) | (with_reducible refine Ext.trans ?_ (by assumption)) | omega))) ⟨wr.heap.size, 0, none⟩ 5 5 ([d.Id, d.Due, d.Key, d.Value, d.Fired].map (.int .i64)) rfl (by simp) (fun j u hu => by rw [add_lit0, Nat.zero_add, ((Blk.new wr _ _).drew).cell]; simpa using hu) (ints_oneCell _ _) (by omega) 1000 (by simp [hlk]; omega) (by unfold maxLen; omega) (by omega) (by simp; omega) ?_; intro v3 wa hown1 hga; have hxa : Ext w wa := Ext.own (v := .slice ta tn tc) (he.trans (by repeat' (first | (with_reducible exact Ext.refl _) | (with_reducible assumption) | (with_reducible refine Ext.drewN ?_ _) | (with_reducible refine Ext.drew ?_) | (with_reducible refine Ext.alloc ?_ _) | (with_reducible refine Ext.setCell ?_ ?_ _) | (with_reducible refine Ext.setRow ?_ ?_ _) | (with_reducible exact Nat.le_refl _) | (with_reducible refine Ext.trans ?_ (by assumption)) | omega))) (Own.ext HO.out (by repeat' (first | (with_reducible exact Ext.refl _) | (with_reducible assumption) | (with_reducible refine Ext.drewN ?_ _) | (with_reducible refine Ext.drew ?_) | (with_reducible refine Ext.alloc ?_ _) | (with_reducible refine Ext.setCell ?_ ?_ _) | (with_reducible refine Ext.setRow ?_ ?_ _) | (with_reducible exact Nat.le_refl _) | (with_reducible refine Ext.trans ?_ (by assumption)) | omega))) (Nat.le_refl _) hga))
      all_goals
        have hown3 : OwnI w.heap.size 2 1 wa v3 (((l.length : Int) :: flJob (l.take k)) ++ [d.Id, d.Due, d.Key, d.Value, d.Fired]) := by simpa [OwnI] using hown1
        go_wp2_with fail
        go_roundw
        case rel => exact ⟨k + 1, by omega, by go_num, hxa, by rw [take_snoc HD.out, flJob_snoc]; simpa using hown3⟩
        case measure => simp [intOf]; omega
    · obtain rfl : k = l.length := by omega
      rw [List.take_length] at hown
      go_wp2_with fail
      go_ret
      exact ⟨_, rfl, he, hown⟩

end Go.Proofs.Ytemhbbpbmgpcaaa
