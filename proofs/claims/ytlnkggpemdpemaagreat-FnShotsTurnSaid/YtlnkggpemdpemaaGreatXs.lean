/- Contracts and plain laws: STM. -/
import Derived.Test.YtlnkggpemdpemaaGreatYa
import Derived.Test.YtlnkggpemdpemaaGreatXy
import Derived.Test.YtlnkggpemdpemaaGreatXe
import Derived.Test.YtlnkggpemdpemaaGreatXg
import Derived.Test.YtlnkggpemdpemaaGreatXf
import Derived.Test.YtlnkggpemdpemaaGreatYn
import Derived.Test.YtlnkggpemdpemaaGreatXl
import Derived.Test.YtlnkggpemdpemaaGreatXj
set_option linter.unusedSimpArgs false
set_option linter.unusedVariables false
set_option maxHeartbeats 8000000
set_option maxRecDepth 100000
namespace Go.G8
open Go.RowKit
open Go.Proofs.YtlnkggpemdpemaaGreat
theorem sec_kept {K : List (List Int)} {slot : Int} (hd : shelfOk ⟨K, []⟩ = true) (hs : slot01 slot = true) {i : Nat} (hi : i < 4) : secRow ⟨K, []⟩ slot i = (K[(slot * 4 + (i : Int)).toNat]?).getD [] := by
 rw [sec_in hd hs hi]; unfold readAt; simp only [List.reverse_nil, List.find?_nil]
theorem at_same {d e : DDisk} {slot : Int} (hd : shelfOk e = true) (h : ∀ i, i < 4 → secRow d slot i = secRow e slot i) {s : DShot} (hs : shotAt d slot = some s) : shotAt e slot = some s := by
 obtain ⟨_, h1, h2, h3⟩ := shotAt_is hs
 have hl := shotRows_len h2
 refine at_rows hd h1 h2 fun i hi => ?_
 rw [← h i oM]
 unfold rowK
 rw [h3 i hi]; rfl
theorem old_mono {n m : Int} {r : List Int} (h : OldRow n r) (hn : n ≤ m) : OldRow m r := by
 rcases h with h | ⟨a, p, h1, h2, h3⟩
 ·
  exact .inl h
 exact .inr ⟨a, p, h1, by omega, h3⟩
theorem old_num {d : DDisk} {slot n : Int} (hO : OldRow (n + 1) (secRow d slot 0)) {s : DShot} (h : shotAt d slot = some s) : s.Num ≤ n := by
 obtain ⟨_, _, h2, h3⟩ := shotAt_is h
 have hl := shotRows_len h2
 have h0 := h3 0 oM
 obtain ⟨b0, _⟩ := row_shape h2 h0
 have := old_first hO b0
 omega
theorem slot_other {q : Int} (h : slot01 q = true) : slot01 (1 - q) = true := by rcases slot_in h with rfl | rfl <;> decide
theorem slot_two {p q : Int} (hp : slot01 p = true) (hq : slot01 q = true) : p = q ∨ p = 1 - q := by
 rcases slot_in hp with rfl | rfl <;> rcases slot_in hq with rfl | rfl <;> simp
theorem newest_of {d : DDisk} {q : Int} {S : DShot} (hq : slot01 q = true) (h : shotAt d q = some S) (ho : ∀ s, shotAt d (1 - q) = some s → s.Num < S.Num) : newOk d = true ∧ newShot d = S ∧ newAt d = q := by
 rcases slot_in hq with rfl | rfl
 ·
  have h1 : newTwo d = false := by
   unfold newTwo atOk atShot
   cases e : shotAt d 1 with
   | none => rfl
   | some s =>
    have := ho s (by simpa using e)
    simp [h]; omega
  unfold newOk newShot newAt
  rw [h1]
  simp [atOk, atShot, h]
 have h1 : newTwo d = true := by
  unfold newTwo atOk atShot
  cases e : shotAt d 0 with
  | none => simp [h]
  | some s =>
   have := ho s (by simpa using e)
   simp [h]; omega
 unfold newOk newShot newAt
 rw [h1]
 simp [atShot, h]
theorem newest_no {d : DDisk} (h0 : shotAt d 0 = none) (h1 : shotAt d 1 = none) : newOk d = false := by
 unfold newOk newTwo atOk; simp [h0, h1]
theorem sbSlot01 (d : DDisk) : slot01 (sbSlot d) = true := by
 unfold sbSlot
 split
 ·
  rcases newAt_is d with h | h <;> rw [h] <;> decide
 decide
structure KInv (st : Int → DState) (K : List (List Int)) (n last : Int) : Prop where
 ok : shelfOk ⟨K, []⟩ = true
 rows : ∀ q, slot01 q = true → ∀ i, i < 4 → OldRow (n + 1) (secRow ⟨K, []⟩ q i)
 no : n = 0 → ∀ q, slot01 q = true → shotAt ⟨K, []⟩ q = none
 yes : n ≠ 0 → ∃ q, slot01 q = true ∧ shotAt ⟨K, []⟩ q = some ⟨n, st last⟩ ∧ ∀ s, shotAt ⟨K, []⟩ (1 - q) = some s → s.Num < n
def Rise (st : Int → DState) (K2 : List (List Int)) (n last busy : Int) : Prop :=
 ((∀ q, slot01 q = true → shotAt ⟨K2, []⟩ q = none) ∧ n = 0) ∨
 ∃ q m l, slot01 q = true ∧ shotAt ⟨K2, []⟩ q = some ⟨m, st l⟩ ∧ (∀ s, shotAt ⟨K2, []⟩ (1 - q) = some s → s.Num < m) ∧ (∀ i, i < 4 → OldRow (m + 1) (secRow ⟨K2, []⟩ q i)) ∧ ((m = n ∧ l = last ∧ n ≠ 0) ∨ (m = n + 1 ∧ l = busy))
theorem rise_same {st : Int → DState} {K : List (List Int)} {n last : Int} (h : KInv st K n last) (busy : Int) : Rise st K n last busy := by
 by_cases h0 : n = 0
 ·
  exact .inl ⟨h.no h0, h0⟩
 obtain ⟨q, h1, h2, h3⟩ := h.yes h0
 exact .inr ⟨q, n, last, h1, h2, h3, h.rows q h1, .inl ⟨rfl, rfl, h0⟩⟩
theorem fell {st : Int → DState} {K : List (List Int)} {n last busy : Int} (h : KInv st K n last) (hS : shotOk ⟨n + 1, st busy⟩ = true) (fates : List Int) :
  ∃ K2, fallenDisk false fates (shD ⟨K, []⟩ (sbSlot ⟨K, []⟩) ⟨n + 1, st busy⟩) = ⟨K2, []⟩ ∧ shelfOk ⟨K2, []⟩ = true ∧ Rise st K2 n last busy := by
 have hq := sbSlot01 ⟨K, []⟩
 generalize hqq : sbSlot ⟨K, []⟩ = q at hq ⊢
 obtain ⟨K2, f1, f2, f3, f4, f5⟩ := fallen_at fates h.ok hq hS
 refine ⟨K2, f1, f2, ?_⟩
 have hl := shotRows_len hS
 have hO := h.rows q hq
 have hX : ∀ i, i < 4 → secRow ⟨K2, []⟩ q i = secRow ⟨K, []⟩ q i ∨ ∃ r, (shotRows ⟨n + 1, st busy⟩)[i]? = some r ∧ (secRow ⟨K2, []⟩ q i = r ∨ secRow ⟨K2, []⟩ q i = tornRow r (secRow ⟨K, []⟩ q i)) := fun i hi => by
  rcases Nat.lt_or_ge i (shotRows ⟨n + 1, st busy⟩).length with h1 | h1
  ·
   have e : (shotRows ⟨n + 1, st busy⟩)[i]? = some (rowK (shotRows ⟨n + 1, st busy⟩) i) := by unfold rowK; rw [List.getElem?_eq_getElem h1]; rfl
   rw [f3 i h1]
   unfold fateRow
   split
   ·
    exact .inr ⟨_, e, .inl rfl⟩
   split
   ·
    exact .inr ⟨_, e, .inr rfl⟩
   exact .inl rfl
  exact .inl (f4 i h1 hi)
 have hother : ∀ s, shotAt ⟨K2, []⟩ (1 - q) = some s → shotAt ⟨K, []⟩ (1 - q) = some s := fun s hs => at_same h.ok (fun i hi => f5 i hi) hs
 have hother2 : ∀ s, shotAt ⟨K, []⟩ (1 - q) = some s → shotAt ⟨K2, []⟩ (1 - q) = some s := fun s hs => at_same f2 (fun i hi => (f5 i hi).symm) hs
 by_cases hc : shotAt ⟨K2, []⟩ q = some ⟨n + 1, st busy⟩
 ·
  refine .inr ⟨q, n + 1, busy, hq, hc, fun s hs => ?_, fun i hi => ?_, .inr ⟨rfl, rfl⟩⟩
  ·
   have := old_num (h.rows (1 - q) (slot_other hq) 0 oM) (hother s hs)
   omega
  rcases Nat.lt_or_ge i (shotRows ⟨n + 1, st busy⟩).length with h1 | h1
  ·
   exact .inr ⟨_, i, hS, by show n + 1 < n + 1 + 1; omega, (shotAt_is hc).2.2.2 i h1⟩
  rw [f4 i h1 hi]; exact old_mono (hO i hi) oM
 have hm : ∀ s, shotAt ⟨K2, []⟩ q = some s → s.Num < n + 1 ∧ shotAt ⟨K, []⟩ q = some s := fun s hs => by
  rcases mix_at (b := ⟨n + 1, st busy⟩) (O := fun i => secRow ⟨K, []⟩ q i) hS hO hX hs with rfl | ⟨h1, h2⟩
  ·
   exact absurd hs hc
  refine ⟨h1, ?_⟩
  obtain ⟨_, _, h4, h5⟩ := shotAt_is hs
  refine at_rows h.ok hq h4 fun i hi => ?_
  rw [← h2 i hi]
  unfold rowK; rw [h5 i hi]; rfl
 by_cases h0 : n = 0
 ·
  refine .inl ⟨fun p hp => ?_, h0⟩
  cases hx : shotAt ⟨K2, []⟩ p with
  | none => rfl
  | some s =>
   exfalso
   rcases slot_two hp hq with rfl | rfl
   ·
    have := (hm s hx).2; rw [h.no h0 _ hq] at this; cases this
   have := hother s hx; rw [h.no h0 _ (slot_other hq)] at this; cases this
 obtain ⟨p, hp, h1, h2⟩ := h.yes h0
 have hn := newest_of hp h1 h2
 have e : q = 1 - p := by rw [← hqq]; unfold sbSlot; rw [hn.1, hn.2.2]; rfl
 subst e
 have e1 : 1 - (1 - p) = p := by omega
 rw [e1] at hother hother2 f5
 refine .inr ⟨p, n, last, hp, hother2 _ h1, fun s hs => ?_, fun i hi => ?_, .inl ⟨rfl, rfl, h0⟩⟩
 ·
  exact h2 s (hm s hs).2
 rw [f5 i hi]; exact h.rows p hp i hi
theorem wipe_get (K : List (List Int)) (s n j : Nat) : (wipeK K s n)[j]? = if s ≤ j ∧ j < s + n ∧ j < K.length then some [] else K[j]? := by
 induction n with
 | zero => simp only [wipeK]; rw [if_neg oM]
 | succ n ih =>
  simp only [wipeK]
  rw [List.getElem?_set, wipeK_len]
  split
  ·
   rename_i h; subst h
   by_cases hl : s + n < K.length
   ·
    rw [if_pos hl, if_pos oM]
   rw [if_neg hl, if_neg oM, List.getElem?_eq_none oM]
  rw [ih]
  by_cases hc : s ≤ j ∧ j < s + n ∧ j < K.length
  ·
   rw [if_pos hc, if_pos oM]
  rw [if_neg hc, if_neg oM]
theorem wiped_at {K : List (List Int)} {c : Int} (hd : shelfOk ⟨K, []⟩ = true) (hc : slot01 c = true) :
  ∃ K3, wipedSlot ⟨K, []⟩ c = ⟨K3, []⟩ ∧ shelfOk ⟨K3, []⟩ = true ∧ (∀ i, i < 4 → secRow ⟨K3, []⟩ c i = []) ∧ ∀ i, i < 4 → secRow ⟨K3, []⟩ (1 - c) i = secRow ⟨K, []⟩ (1 - c) i := by
 obtain ⟨h8, hk⟩ := shelf_rows hd
 have e : wipedSlot ⟨K, []⟩ c = ⟨wipeK K (c * 4).toNat 4, []⟩ := by
  unfold wipedSlot
  rw [if_pos hd, if_pos (slot_in hc)]; rfl
 have hd3 : shelfOk ⟨wipeK K (c * 4).toNat 4, []⟩ = true := by
  simp only [shelfOk, diskOk, Bool.and_eq_true, decide_eq_true_eq, List.all_eq_true]
  rw [wipeK_len]
  refine ⟨⟨⟨by omega, by omega, by simp⟩, fun r hr => ?_, by simp⟩, h8⟩
  obtain ⟨j, hj⟩ := List.mem_iff_getElem?.1 hr
  rw [wipe_get] at hj
  split at hj
  ·
   obtain rfl := Option.some.inj hj; rfl
  exact hk r (List.mem_of_getElem? hj)
 refine ⟨_, e, hd3, fun i hi => ?_, fun i hi => ?_⟩
 ·
  rw [sec_kept hd3 hc hi, wipe_get, if_pos]
  ·
   rfl
  rcases slot_in hc with rfl | rfl <;> omega
 rw [sec_kept hd3 (slot_other hc) hi, sec_kept hd (slot_other hc) hi, wipe_get, if_neg]
 rcases slot_in hc with rfl | rfl <;> omega
theorem mkStoreOk {D : DDisk} {S : DState} {num last busy : Int} (h1 : shelfOk D = true) (h2 : stateOk S = true) (h3 : 0 ≤ num ∧ num ≤ 1000000000) (h4 : 0 ≤ last ∧ last ≤ S.Index) (h5 : num = 0 ↔ last = 0) (h6 : busy = 0 ∨ (num < 1000000000 ∧ last < busy ∧ busy ≤ S.Index)) : storeOk ⟨D, S, num, last, busy⟩ = true := by
 simp only [storeOk, Bool.and_eq_true, Bool.or_eq_true, decide_eq_true_eq, beq_iff_eq]
 exact ⟨h1, h2, inb_of h3.1 h3.2, inb_of h4.1 h4.2, decide_eq_decide.2 h5, h6⟩
theorem store_parts {D : DDisk} {S : DState} {num last busy : Int} (h : storeOk ⟨D, S, num, last, busy⟩ = true) : shelfOk D = true ∧ stateOk S = true ∧ (0 ≤ num ∧ num ≤ 1000000000) ∧ (0 ≤ last ∧ last ≤ S.Index) ∧ (num = 0 ↔ last = 0) ∧ (busy = 0 ∨ (num < 1000000000 ∧ last < busy ∧ busy ≤ S.Index)) := by
 simp only [storeOk, Bool.and_eq_true, Bool.or_eq_true, decide_eq_true_eq, beq_iff_eq] at h
 exact ⟨h.1, h.2.1, inb_true.1 h.2.2.1, inb_true.1 h.2.2.2.1, decide_eq_decide.1 h.2.2.2.2.1, h.2.2.2.2.2⟩
def StOk (st : Int → DState) (len : Int) : Prop := st 0 = ⟨0, 0, [], [], ⟨0, 0, 0⟩⟩ ∧ ∀ k, 0 ≤ k → k ≤ len → stateOk (st k) = true ∧ (st k).Index = k
structure SInv (st : Int → DState) (len : Int) (s : DStore) (told : Int) : Prop where
 ok : storeOk s = true
 state : s.State = st s.State.Index
 top : s.State.Index ≤ len
 told0 : 0 ≤ told
 told : told ≤ s.Last
 kept : KInv st s.Disk.Kept s.Num s.Last
 idle : s.Busy = 0 → s.Disk.Wait = []
 busy : s.Busy ≠ 0 → s.Disk = shD ⟨s.Disk.Kept, []⟩ (sbSlot ⟨s.Disk.Kept, []⟩) ⟨s.Num + 1, st s.Busy⟩ ∧ shotOk ⟨s.Num + 1, st s.Busy⟩ = true
theorem rose {st : Int → DState} {len : Int} {K2 : List (List Int)} {n last busy told : Int} {x : DStore} (hst : StOk st len) (hx : x.Disk = ⟨K2, []⟩) (hd : shelfOk ⟨K2, []⟩ = true) (hr : Rise st K2 n last busy) (hlast : 0 ≤ last ∧ last ≤ len) (hb : last ≤ busy ∧ busy ≤ len) (ht : 0 ≤ told ∧ told ≤ last) (hz : n = 0 → last = 0) (hlen : 0 ≤ len) :
  riOk x = true ∧ SInv st len (riD x) told := by
 have hri : riOk x = true := by unfold riOk; rw [hx]; simp [hd]
 refine ⟨hri, ?_⟩
 rcases hr with ⟨hno, h0⟩ | ⟨q, m, l, hq, h1, h2, h3, h4⟩
 ·
  have hn := newest_no (hno 0 dC) (hno 1 dC)
  obtain ⟨K3, a1, a2, a3, _⟩ := wiped_at (c := 0) hd dC
  obtain ⟨K4, b1, b2, b3, b4⟩ := wiped_at (c := 1) a2 dC
  have e : riD x = ⟨⟨K4, []⟩, ⟨0, 0, [], [], ⟨0, 0, 0⟩⟩, 0, 0, 0⟩ := by
   unfold riD; rw [if_pos hri, hx, hn, a1, b1]; rfl
  rw [e]
  have hall : ∀ q, slot01 q = true → ∀ i, i < 4 → secRow ⟨K4, []⟩ q i = [] := fun q hq i hi => by
   rcases slot_in hq with rfl | rfl
   ·
    have := b4 i hi
    rw [show (1 : Int) - 1 = 0 from rfl] at this
    rw [this]; exact a3 i hi
   exact b3 i hi
  have hl0 := hz h0
  exact ⟨mkStoreOk b2 (hst.1 ▸ (hst.2 0 oM hlen).1) oM (by simp) (by simp) (.inl rfl), by show _ = st 0; rw [hst.1], hlen, ht.1, by show told ≤ 0; omega,
   ⟨b2, fun q hq i hi => .inl (hall q hq i hi), fun _ q hq => at_empty (hall q hq 0 oM), fun h => absurd rfl h⟩, fun _ => rfl, fun h => absurd rfl h⟩
 obtain ⟨n1, n2, n3⟩ := newest_of hq h1 h2
 have hS := (shotAt_is h1).2.2.1
 obtain ⟨p1, p2, p3, p4, _⟩ := shotOk_parts hS
 have p1 : 1 ≤ m := p1
 have p2 : m ≤ 1000000000 := p2
 have p3 : stateOk (st l) = true := p3
 have p4 : 0 < (st l).Index := p4
 have hl : 0 ≤ l ∧ l ≤ len ∧ last ≤ l := by rcases h4 with ⟨_, rfl, _⟩ | ⟨_, rfl⟩ <;> omega
 have hix := (hst.2 l hl.1 hl.2.1).2
 obtain ⟨K3, a1, a2, a3, a4⟩ := wiped_at (c := 1 - q) hd (slot_other hq)
 rw [show 1 - (1 - q) = q by omega] at a4
 have e : riD x = ⟨⟨K3, []⟩, st l, m, l, 0⟩ := by
  unfold riD; rw [if_pos hri, hx, n1, n2, n3, a1]; simp only [if_true]; rw [hix]
 rw [e]
 refine ⟨mkStoreOk a2 p3 oM (by rw [hix]; omega) oM (.inl rfl), by show st l = st (st l).Index; rw [hix], by show (st l).Index ≤ len; omega, ht.1, by show told ≤ l; omega,
  ⟨a2, fun p hp i hi => ?_, fun h => by have h : m = 0 := h; omega, fun _ => ⟨q, hq, at_same a2 (fun i hi => (a4 i hi).symm) h1, fun s hs => ?_⟩⟩, fun _ => rfl, fun h => absurd rfl h⟩
 ·
  rcases slot_two hp hq with rfl | rfl
  ·
   show OldRow (m + 1) (secRow ⟨K3, []⟩ p i); rw [a4 i hi]; exact h3 i hi
  exact .inl (a3 i hi)
 rw [at_empty (a3 0 oM)] at hs; cases hs
theorem sinv_fallen {st : Int → DState} {len : Int} {s : DStore} {told : Int} (hst : StOk st len) (h : SInv st len s told) (fates : List Int) : riOk (fallenStore fates s) = true ∧ SInv st len (riD (fallenStore fates s)) told := by
 obtain ⟨⟨K, W⟩, S, num, last, bz⟩ := s
 obtain ⟨h1, h2, h3, h4, h5, h6, h7, h8⟩ := h
 obtain ⟨s1, s2, s3, s4, s5, s6⟩ := store_parts h1
 simp only at h2 h3 h4 h5 h6 h7 h8
 have e : fallenStore fates ⟨⟨K, W⟩, S, num, last, bz⟩ = ⟨fallenDisk false fates ⟨K, W⟩, ⟨0, 0, [], [], ⟨0, 0, 0⟩⟩, 0, 0, 0⟩ := by unfold fallenStore; rw [if_pos h1]
 rw [e]
 by_cases hb : bz = 0
 ·
  have hW := h7 hb
  subst hW
  have e2 : fallenDisk false fates ⟨K, []⟩ = ⟨K, []⟩ := by
   unfold fallenDisk
   rw [if_pos (shelfOk_disk s1)]; rfl
  exact rose (n := num) (last := last) (busy := last) hst (by simp only [e2]) h6.ok (rise_same h6 last) oM oM oM (fun h0 => s5.1 h0) oM
 obtain ⟨hD, hS⟩ := h8 hb
 obtain ⟨K2, f1, f2, f3⟩ := fell h6 hS fates
 rw [← hD] at f1
 have hbz : last < bz ∧ bz ≤ S.Index := by
  rcases s6 with h0 | ⟨_, h0⟩
  ·
   exact absurd h0 hb
  exact h0
 exact rose (n := num) (last := last) (busy := bz) hst (by simp only [f1]) f2 f3 oM oM oM (fun h0 => s5.1 h0) oM
theorem sinv_begun {st : Int → DState} {len : Int} {s : DStore} {told : Int} (h : SInv st len s told) : SInv st len (sbD s) told := by
 have h' := h
 obtain ⟨⟨K, W⟩, S, num, last, bz⟩ := s
 obtain ⟨h1, h2, h3, h4, h5, h6, h7, h8⟩ := h
 obtain ⟨s1, s2, s3, s4, s5, s6⟩ := store_parts h1
 simp only at h2 h3 h4 h5 h6 h7 h8
 cases hb : sbOk ⟨⟨K, W⟩, S, num, last, bz⟩ with
 | false =>
  have e : sbD ⟨⟨K, W⟩, S, num, last, bz⟩ = ⟨⟨K, W⟩, S, num, last, bz⟩ := by unfold sbD; rw [if_pos h1, hb]; rfl
  rw [e]; exact h'
 | true =>
  have e : sbD ⟨⟨K, W⟩, S, num, last, bz⟩ = ⟨shD ⟨K, W⟩ (sbSlot ⟨K, W⟩) ⟨num + 1, S⟩, S, num, last, S.Index⟩ := by unfold sbD; rw [if_pos h1, hb]; rfl
  simp only [sbOk, sbGo, shOk, sbShot, Bool.and_eq_true, decide_eq_true_eq] at hb
  obtain ⟨_, ⟨hB, hG, hN⟩, _, _, hS, _⟩ := hb
  have hW := h7 hB
  subst hW
  have hq := sbSlot01 ⟨K, []⟩
  obtain ⟨y1, y2⟩ := sh_yes h6.ok hq hS
  have hl := shotRows_len hS
  have hK : (shD ⟨K, []⟩ (sbSlot ⟨K, []⟩) ⟨num + 1, S⟩).Kept = K := by rw [y2]
  rw [e]
  refine ⟨mkStoreOk ?_ s2 s3 s4 s5 (.inr ⟨hN, by omega, by omega⟩), h2, h3, h4, h5, ?_, fun h0 => ?_, fun _ => ?_⟩
  ·
   rw [y2]; exact wrs_disk h6.ok hq (fun i hi => rowK_ok (shotRows_row hS) hi) hl.2.2
  ·
   show KInv st (shD ⟨K, []⟩ (sbSlot ⟨K, []⟩) ⟨num + 1, S⟩).Kept num last
   rw [hK]; exact h6
  ·
   have h0 : S.Index = 0 := h0
   omega
  show shD ⟨K, []⟩ (sbSlot ⟨K, []⟩) ⟨num + 1, S⟩ = shD ⟨(shD ⟨K, []⟩ (sbSlot ⟨K, []⟩) ⟨num + 1, S⟩).Kept, []⟩ (sbSlot ⟨(shD ⟨K, []⟩ (sbSlot ⟨K, []⟩) ⟨num + 1, S⟩).Kept, []⟩) ⟨num + 1, st S.Index⟩ ∧ shotOk ⟨num + 1, st S.Index⟩ = true
  rw [hK, ← h2]; exact ⟨rfl, hS⟩
theorem sinv_synced {st : Int → DState} {len : Int} {s : DStore} {told : Int} (h : SInv st len s told) : SInv st len (ssStore s) (ssStore s).Last := by
 obtain ⟨⟨K, W⟩, S, num, last, bz⟩ := s
 obtain ⟨h1, h2, h3, h4, h5, h6, h7, h8⟩ := h
 obtain ⟨s1, s2, s3, s4, s5, s6⟩ := store_parts h1
 simp only at h2 h3 h4 h5 h6 h7 h8
 by_cases hb : bz = 0
 ·
  have e : ssStore ⟨⟨K, W⟩, S, num, last, bz⟩ = ⟨⟨K, W⟩, S, num, last, bz⟩ := by unfold ssStore; rw [if_pos h1, if_pos hb]
  rw [e]; exact ⟨h1, h2, h3, s4.1, Int.le_refl _, h6, h7, h8⟩
 obtain ⟨hD, hS⟩ := h8 hb
 have hbz : num < 1000000000 ∧ last < bz ∧ bz ≤ S.Index := by
  rcases s6 with h0 | h0
  ·
   exact absurd h0 hb
  exact h0
 have hq := sbSlot01 ⟨K, []⟩
 generalize sbSlot ⟨K, []⟩ = q at hq hD
 obtain ⟨K2, g1, g2, g3, g4⟩ := synced_at h6.ok hq hS
 have hl := shotRows_len hS
 have e : ssStore ⟨⟨K, W⟩, S, num, last, bz⟩ = ⟨⟨K2, []⟩, S, num + 1, bz, 0⟩ := by
  unfold ssStore; rw [if_pos h1, if_neg hb]
  show (⟨fallenDisk true [] ⟨K, W⟩, S, num + 1, bz, 0⟩ : DStore) = _
  rw [hD, g1]
 rw [e]
 have hrow : ∀ i, i < (shotRows ⟨num + 1, st bz⟩).length → (shotRows ⟨num + 1, st bz⟩)[i]? = some (rowK (shotRows ⟨num + 1, st bz⟩) i) := fun i hi => by unfold rowK; rw [List.getElem?_eq_getElem hi]; rfl
 have hsame : ∀ i, i < 4 → secRow ⟨K2, []⟩ (1 - q) i = secRow ⟨K, []⟩ (1 - q) i := fun i hi => by
  rw [sec_kept g2 (slot_other hq) hi, sec_kept h6.ok (slot_other hq) hi, g4 _ (by rcases slot_in hq with rfl | rfl <;> omega) (by rcases slot_in hq with rfl | rfl <;> omega)]
 have hrest : ∀ i, (shotRows ⟨num + 1, st bz⟩).length ≤ i → i < 4 → secRow ⟨K2, []⟩ q i = secRow ⟨K, []⟩ q i := fun i h9 hi => by
  rw [sec_kept g2 hq hi, sec_kept h6.ok hq hi, g4 _ (by rcases slot_in hq with rfl | rfl <;> omega) (by rcases slot_in hq with rfl | rfl <;> omega)]
 refine ⟨mkStoreOk g2 s2 oM oM oM (.inl rfl), h2, h3, by show 0 ≤ bz; omega, Int.le_refl _, ⟨g2, fun p hp i hi => ?_, fun h0 => by have h0 : num + 1 = 0 := h0; omega, fun _ => ⟨q, hq, at_rows g2 hq hS g3, fun s hs => ?_⟩⟩, fun _ => rfl, fun h0 => absurd rfl h0⟩
 ·
  show OldRow (num + 1 + 1) (secRow ⟨K2, []⟩ p i)
  rcases slot_two hp hq with rfl | rfl
  ·
   rcases Nat.lt_or_ge i (shotRows ⟨num + 1, st bz⟩).length with h9 | h9
   ·
    rw [g3 i h9]; exact .inr ⟨_, i, hS, by show num + 1 < num + 1 + 1; omega, hrow i h9⟩
   rw [hrest i h9 hi]; exact old_mono (h6.rows p hq i hi) oM
  rw [hsame i hi]; exact old_mono (h6.rows _ (slot_other hq) i hi) oM
 have h9 := at_same h6.ok (fun i hi => hsame i hi) hs
 have := old_num (h6.rows _ (slot_other hq) 0 oM) h9
 show s.Num < num + 1
 omega
theorem sinv_fed {st : Int → DState} {len : Int} {s : DStore} {told : Int} (hst : StOk st len) (h : SInv st len s told) {f : DFeed} {k : Int} (hk : s.State.Index ≤ k ∧ k ≤ len) (hf : feedS s.State f.Entries = st k) : SInv st len (hfD s f) told := by
 have hy := (hf_yes (f := f) h.ok).1
 cases ho : feedOk f with
 | false =>
  have e : hfD s f = s := by unfold hfD; rw [if_pos h.ok, ho]; rfl
  rw [e]; exact h
 | true =>
  have e : hfD s f = ⟨s.Disk, feedS s.State f.Entries, s.Num, s.Last, s.Busy⟩ := by unfold hfD; rw [if_pos h.ok, ho]; rfl
  rw [e] at hy ⊢
  have h0 := (storeOk_bounds h.ok)
  have hix := (hst.2 k oM hk.2).2
  rw [hf] at hy ⊢
  exact ⟨hy, by show st k = st (st k).Index; rw [hix], by show (st k).Index ≤ len; omega, h.told0, h.told, h.kept, h.idle, h.busy⟩
theorem sinv_new {st : Int → DState} {len : Int} (hst : StOk st len) (hlen : 0 ≤ len) : SInv st len ⟨newDisk 8, ⟨0, 0, [], [], ⟨0, 0, 0⟩⟩, 0, 0, 0⟩ 0 := by
 have hd : shelfOk ⟨List.replicate 8 [], []⟩ = true := by decide
 have hall : ∀ q, slot01 q = true → ∀ i, i < 4 → secRow ⟨List.replicate 8 [], []⟩ q i = [] := fun q hq i hi => by
  rw [sec_kept hd hq hi, List.getElem?_replicate]; split <;> rfl
 exact ⟨mkStoreOk hd (hst.1 ▸ (hst.2 0 oM hlen).1) oM (by simp) (by simp) (.inl rfl), by show _ = st 0; rw [hst.1], hlen, by omega, by show (0 : Int) ≤ 0; omega,
   ⟨hd, fun q hq i hi => .inl (hall q hq i hi), fun _ q hq => at_empty (hall q hq 0 oM), fun h => absurd rfl h⟩, fun _ => rfl, fun h => absurd rfl h⟩
theorem sinv_lies {st : Int → DState} {len : Int} {s : DStore} {told : Int} (hst : StOk st len) (h : SInv st len s told) : liesIn s = true := by
 have hb := storeOk_bounds h.ok
 unfold liesIn
 rw [h.ok]
 have h2 : (!(decide (s.Busy = 0) && decide (0 < s.Disk.Wait.length))) = true := by
  by_cases hz : s.Busy = 0
  ·
   simp [h.idle hz]
  simp [hz]
 rw [h2]
 by_cases h0 : s.Num = 0
 ·
  rw [newest_no (h.kept.no h0 0 dC) (h.kept.no h0 1 dC)]; simp [h0]
 obtain ⟨q, hq, h1, h3⟩ := h.kept.yes h0
 obtain ⟨n1, n2, _⟩ := newest_of hq h1 h3
 rw [n1, n2]
 have := (hst.2 s.Last oM (by have := h.top; omega)).2
 simp [this]
theorem feedS_fold : ∀ (l : List DEntry) {s m : DState}, foldS s l = (m, true) → feedS s l = m
 | [], s, m, h => by simp [foldS] at h; simp [feedS, h]
 | e :: t, s, m, h => by
  unfold foldS at h
  split at h
  ·
   rename_i hn
   unfold feedS
   rw [if_pos hn]
   exact feedS_fold t h
  cases h
theorem st_feed {L : List DEntry} {m : DState} (h : foldS (⟨0, 0, [], [], ⟨0, 0, 0⟩⟩ : DState) L = (m, true)) (hl : L.length ≤ 2000) {a b : Nat} (hab : a ≤ b) (hb : b ≤ L.length) :
  feedS (fldD (⟨0, 0, [], [], ⟨0, 0, 0⟩⟩ : DState) (L.take a)) ((L.take b).drop a) = fldD (⟨0, 0, [], [], ⟨0, 0, 0⟩⟩ : DState) (L.take b) := by
 obtain ⟨ma, ha⟩ := foldS_take h a
 obtain ⟨mb, hb2⟩ := foldS_take h b
 have e1 : fldD (⟨0, 0, [], [], ⟨0, 0, 0⟩⟩ : DState) (L.take a) = ma := (fld_yes z0_ok (by simp; omega) ha).2
 have e2 : fldD (⟨0, 0, [], [], ⟨0, 0, 0⟩⟩ : DState) (L.take b) = mb := (fld_yes z0_ok (by simp; omega) hb2).2
 rw [e1, e2]
 have e3 : L.take b = L.take a ++ (L.take b).drop a := by
  have := (List.take_append_drop a (L.take b)).symm
  rw [List.take_take, Nat.min_eq_left hab] at this
  exact this
 rw [e3, foldS_app, ha] at hb2
 exact feedS_fold _ (by simpa using hb2)
theorem st_ok {L : List DEntry} {m : DState} (h : foldS (⟨0, 0, [], [], ⟨0, 0, 0⟩⟩ : DState) L = (m, true)) (hl : L.length ≤ 2000) : StOk (fun k => fldD (⟨0, 0, [], [], ⟨0, 0, 0⟩⟩ : DState) (L.take k.toNat)) L.length := by
 refine ⟨?_, fun k h0 hk => ?_⟩
 ·
  show fldD _ (L.take 0) = _
  exact (fld_yes (b := true) (l := []) z0_ok (by simp) (by simp [foldS])).2
 obtain ⟨h1, h2⟩ := fld_take h hl (k := k.toNat) oM
 exact ⟨h1, by rw [h2]; omega⟩
end Go.G8
