/- Contracts and plain laws: SBM TSM. -/
import Derived.Test.YtlnkggpemdpemaaGreatYa
import Derived.Test.YtlnkggpemdpemaaGreatYm
import Derived.Test.YtlnkggpemdpemaaGreatYh
import Derived.Test.YtlnkggpemdpemaaGreatYi
import Derived.Test.YtlnkggpemdpemaaGreatYb
set_option linter.unusedSimpArgs false
set_option linter.unusedVariables false
set_option maxHeartbeats 8000000
set_option maxRecDepth 100000
namespace Go.G8
open Go.RowKit
open Go.Proofs.YtlnkggpemdpemaaGreat
theorem rowOk_snoc {l : List Int} {x : Int} (h : rowOk l = true) (hl : l.length < 48) (h0 : 0 ≤ x) (h1 : x ≤ 1000000000) : rowOk (l ++ [x]) = true := by
 simp only [rowOk, Bool.and_eq_true, decide_eq_true_eq, List.all_append, List.all_cons, List.all_nil, Bool.and_true, List.length_append, List.length_cons, List.length_nil] at h ⊢
 exact ⟨by omega, h.2, inb_of h0 h1⟩
theorem rowOk_low {l : List Int} (h : rowOk l = true) : ∀ x, x ∈ l → 0 ≤ x := by
 simp only [rowOk, Bool.and_eq_true, List.all_eq_true] at h
 exact fun x hx => (inb_true.1 (h.2 x hx)).1
theorem shotRows_row {s : DShot} (h : shotOk s = true) : ∀ r, r ∈ shotRows s → rowOk r = true := by
 intro r hr
 obtain ⟨p, hp⟩ := List.mem_iff_getElem?.1 hr
 have hl := shotRows_len h
 have hlt : p < (shotRows s).length := by
  rcases Nat.lt_or_ge p (shotRows s).length with h' | h'
  ·
   exact h'
  rw [List.getElem?_eq_none h'] at hp; cases hp
 rw [shotRows_at h hlt] at hp
 obtain rfl := Option.some.inj hp
 rw [withSum_shot h oM]
 have h1 := shotRow_ok h (p := p) oM
 have h2 := shotRow_len s (stateNums s.State) p
 have h3 := sumOf_low _ (rowOk_low h1)
 exact rowOk_snoc h1 oM h3.1 oM
def wrs (slot : Int) (rows : List (List Int)) (k : Nat) : List DWrite := (List.range k).map (fun (i : Nat) => ⟨slot * 4 + (i : Int), rowK rows i⟩)
theorem wrs_len (slot : Int) (rows : List (List Int)) (k : Nat) : (wrs slot rows k).length = k := by simp [wrs]
theorem wrs_at (slot : Int) (rows : List (List Int)) {k i : Nat} (h : i < k) : (wrs slot rows k)[i]? = some ⟨slot * 4 + (i : Int), rowK rows i⟩ := by simp [wrs, h]
theorem wrs_get {slot : Int} {rows : List (List Int)} {k j : Nat} {y : DWrite} (h : (wrs slot rows k)[j]? = some y) : j < k ∧ y = ⟨slot * 4 + (j : Int), rowK rows j⟩ := by
 have hj : j < k := by
  rcases Nat.lt_or_ge j k with h' | h'
  ·
   exact h'
  rw [List.getElem?_eq_none (by rw [wrs_len]; exact h')] at h; cases h
 rw [wrs_at slot rows hj] at h
 exact ⟨hj, (Option.some.inj h).symm⟩
theorem wrs_succ (slot : Int) (rows : List (List Int)) (k : Nat) : wrs slot rows (k + 1) = wrs slot rows k ++ [⟨slot * 4 + (k : Int), rowK rows k⟩] := by simp [wrs, List.range_succ]
theorem slot_in {slot : Int} (h : slot01 slot = true) : slot = 0 ∨ slot = 1 := by
 simpa [slot01] using h
theorem wrs_disk {K : List (List Int)} {slot : Int} {rows : List (List Int)} {k : Nat} (hd : shelfOk ⟨K, []⟩ = true) (hs : slot01 slot = true) (hr : ∀ i, i < k → rowOk (rowK rows i) = true) (hk : k ≤ 4) : shelfOk ⟨K, wrs slot rows k⟩ = true := by
 simp only [shelfOk, diskOk, Bool.and_eq_true, decide_eq_true_eq] at hd ⊢
 obtain ⟨⟨h1, h2, _⟩, h3⟩ := hd
 refine ⟨⟨⟨h1.1, h1.2.1, by rw [wrs_len]; omega⟩, h2, ?_⟩, h3⟩
 rw [List.all_eq_true]
 intro x hx
 obtain ⟨j, hj⟩ := List.mem_iff_getElem?.1 hx
 obtain ⟨hjk, rfl⟩ := wrs_get hj
 simp only [writeOk, Bool.and_eq_true]
 refine ⟨inb_of ?_ ?_, hr j hjk⟩ <;> rcases slot_in hs with rfl | rfl <;> simp [h3] <;> omega
theorem sw_wrs {K : List (List Int)} {slot : Int} {rows : List (List Int)} {n : Nat} (hd : shelfOk ⟨K, []⟩ = true) (hs : slot01 slot = true) (hr : ∀ i, i < n → rowOk (rowK rows i) = true) (hn : n ≤ 4) : ∀ k, k ≤ n → swK ⟨K, []⟩ slot rows k = ⟨K, wrs slot rows k⟩ ∧ (k < n → wrOk (swK ⟨K, []⟩ slot rows k) (slot * 4 + (k : Int)) (rowK rows k) = true)
 | 0, _ => by
  have h8 : K.length = 8 := by simp only [shelfOk, Bool.and_eq_true, decide_eq_true_eq] at hd; exact hd.2
  refine ⟨rfl, fun h => ?_⟩
  simp only [wrOk, swK, Bool.and_eq_true, decide_eq_true_eq]
  refine ⟨by simp only [shelfOk, Bool.and_eq_true] at hd; exact hd.1, inb_of ?_ ?_, hr 0 h, by simp⟩ <;> rcases slot_in hs with rfl | rfl <;> simp [h8]
 | k + 1, hk => by
  have h8 : K.length = 8 := by simp only [shelfOk, Bool.and_eq_true, decide_eq_true_eq] at hd; exact hd.2
  obtain ⟨e, hw⟩ := sw_wrs hd hs hr hn k oM
  have hw := hw oM
  have hok : diskOk ⟨K, wrs slot rows k⟩ = true := by have := wrs_disk hd hs (k := k) (fun i hi => hr i oM) oM; simp only [shelfOk, Bool.and_eq_true] at this; exact this.1
  have e2 : swK ⟨K, []⟩ slot rows (k + 1) = ⟨K, wrs slot rows (k + 1)⟩ := by
   show wrD (swK ⟨K, []⟩ slot rows k) _ _ = _
   rw [e] at hw ⊢
   unfold wrD
   rw [if_pos hok, if_pos hw, wrs_succ]
  refine ⟨e2, fun h => ?_⟩
  rw [e2]
  have hok2 : diskOk ⟨K, wrs slot rows (k + 1)⟩ = true := by have := wrs_disk hd hs (k := k + 1) (fun i hi => hr i oM) oM; simp only [shelfOk, Bool.and_eq_true] at this; exact this.1
  simp only [wrOk, Bool.and_eq_true, decide_eq_true_eq]
  refine ⟨hok2, inb_of ?_ ?_, hr _ h, by rw [wrs_len]; omega⟩ <;> rcases slot_in hs with rfl | rfl <;> simp [h8] <;> omega
theorem rowK_ok {rows : List (List Int)} (h : ∀ r, r ∈ rows → rowOk r = true) {i : Nat} (hi : i < rows.length) : rowOk (rowK rows i) = true := by
 unfold rowK
 rw [List.getElem?_eq_getElem hi]
 exact h _ (List.getElem_mem hi)
theorem sh_yes {K : List (List Int)} {slot : Int} {S : DShot} (hd : shelfOk ⟨K, []⟩ = true) (hs : slot01 slot = true) (hS : shotOk S = true) :
  shOk ⟨K, []⟩ slot S = true ∧ shD ⟨K, []⟩ slot S = ⟨K, wrs slot (shotRows S) (shotRows S).length⟩ := by
 have hl := shotRows_len hS
 have h1 := sw_wrs hd hs (rows := shotRows S) (n := (shotRows S).length) (fun i hi => rowK_ok (shotRows_row hS) hi) hl.2.2
 obtain ⟨a, b⟩ := shOk_true hd hs hS (fun k hk => (h1 k oM).2 hk)
 exact ⟨a, by rw [b, (h1 _ (Nat.le_refl _)).1]⟩
theorem sec_in {d : DDisk} {slot : Int} (hd : shelfOk d = true) (hs : slot01 slot = true) {i : Nat} (hi : i < 4) : secRow d slot i = readAt d (slot * 4 + (i : Int)) := by
 unfold secRow readIf
 rw [if_pos]
 simp only [shelfOk, Bool.and_eq_true, decide_eq_true_eq] at hd
 simp only [readOk, Bool.and_eq_true]
 refine ⟨hd.1, inb_of ?_ ?_⟩ <;> rcases slot_in hs with rfl | rfl <;> simp [hd.2] <;> omega
theorem at_rows {d : DDisk} {slot : Int} {S : DShot} (hd : shelfOk d = true) (hs : slot01 slot = true) (hS : shotOk S = true) (h : ∀ i, i < (shotRows S).length → secRow d slot i = rowK (shotRows S) i) : shotAt d slot = some S := by
 have hl := shotRows_len hS
 obtain ⟨r, hr, _, _, h3, _⟩ := shotRows_first hS
 have hb := stateNums_bound (shotOk_parts hS).2.2.1
 have hn := stateNums_len S.State
 have e0 : secRow d slot 0 = r := by rw [h 0 oM]; unfold rowK; rw [hr]; rfl
 rw [shotAt_in hd hs (t := ((stateNums S.State).length : Int)) (by rw [e0]; exact h3) (inb_of oM oM), Int.toNat_natCast, ← hl.1]
 refine readShot_some hS ?_
 refine List.ext_getElem? fun i => ?_
 rcases Nat.lt_or_ge i (shotRows S).length with hi | hi
 ·
  rw [List.getElem?_eq_getElem hi]
  simp only [secRows, List.getElem?_map, List.getElem?_range hi, Option.map_some]
  rw [h i hi]; unfold rowK; rw [List.getElem?_eq_getElem hi]; rfl
 rw [List.getElem?_eq_none hi, List.getElem?_eq_none (by simpa [secRows] using hi)]
theorem at_empty {d : DDisk} {slot : Int} (h : secRow d slot 0 = []) : shotAt d slot = none := shotAt_short (by rw [h]; simp)
theorem fall_all (fates : List Int) {K : List (List Int)} {slot : Int} {rows : List (List Int)} {n : Nat} (h8 : K.length = 8) (hs : slot01 slot = true) (hn : n ≤ 4) (j : Nat) : ∀ k, k ≤ n →
  (fallK true fates ⟨K, wrs slot rows n⟩ k)[j]? = if slot * 4 ≤ (j : Int) ∧ (j : Int) < slot * 4 + (k : Int) then some (rowK rows (j - (slot * 4).toNat)) else K[j]?
 | 0, _ => by
  rw [if_neg oM]; rfl
 | k + 1, hk => by
  have ih := fall_all fates (rows := rows) h8 hs hn j k oM
  rw [fallK_succ (x := ⟨slot * 4 + (k : Int), rowK rows k⟩) (wrs_at slot rows oM)]
  have e : fallStep true (fate fates k) (fallK true fates ⟨K, wrs slot rows n⟩ k) ⟨slot * 4 + (k : Int), rowK rows k⟩ = (fallK true fates ⟨K, wrs slot rows n⟩ k).set (slot * 4 + (k : Int)).toNat (rowK rows k) := by simp [fallStep]
  rw [e, List.getElem?_set]
  have hl : (fallK true fates ⟨K, wrs slot rows n⟩ k).length = 8 := by rw [fallK_len]; exact h8
  rcases slot_in hs with rfl | rfl
  ·
   by_cases hj : j = k
   ·
    subst hj
    rw [if_pos oM, if_pos oM, if_pos oM]; simp
   rw [if_neg oM, ih]
   by_cases hj2 : j < k
   ·
    rw [if_pos oM, if_pos oM]
   rw [if_neg oM, if_neg oM]
  by_cases hj : j = 4 + k
  ·
   subst hj
   rw [if_pos oM, if_pos oM, if_pos oM]; simp
  rw [if_neg oM, ih]
  by_cases hj2 : 4 ≤ j ∧ j < 4 + k
  ·
   rw [if_pos oM, if_pos oM]
  rw [if_neg oM, if_neg oM]
theorem fall_rows {fates : List Int} {all : Bool} {K : List (List Int)} {slot : Int} {rows : List (List Int)} {n : Nat} (hd : shelfOk ⟨K, []⟩ = true) (hs : slot01 slot = true) (hr : ∀ i, i < n → rowOk (rowK rows i) = true) (hn : n ≤ 4) (he : ∀ r, r ∈ fallK all fates ⟨K, wrs slot rows n⟩ n → rowOk r = true) :
  fallenDisk all fates ⟨K, wrs slot rows n⟩ = ⟨fallK all fates ⟨K, wrs slot rows n⟩ n, []⟩ ∧ shelfOk ⟨fallK all fates ⟨K, wrs slot rows n⟩ n, []⟩ = true := by
 have h1 := wrs_disk hd hs hr hn
 have h8 : K.length = 8 := by simp only [shelfOk, Bool.and_eq_true, decide_eq_true_eq] at hd; exact hd.2
 simp only [shelfOk, Bool.and_eq_true] at h1
 refine ⟨by unfold fallenDisk; rw [if_pos h1.1, wrs_len], ?_⟩
 simp only [shelfOk, diskOk, Bool.and_eq_true, decide_eq_true_eq, List.all_eq_true]
 rw [fallK_len]
 exact ⟨⟨⟨by simp [h8], by simp [h8], by simp⟩, he, by simp⟩, h8⟩
theorem shelf_rows {K : List (List Int)} (hd : shelfOk ⟨K, []⟩ = true) : K.length = 8 ∧ ∀ r, r ∈ K → rowOk r = true := by
 simp only [shelfOk, diskOk, Bool.and_eq_true, decide_eq_true_eq, List.all_eq_true] at hd
 exact ⟨hd.2, hd.1.2.1⟩
theorem synced_at {K : List (List Int)} {slot : Int} {S : DShot} (hd : shelfOk ⟨K, []⟩ = true) (hs : slot01 slot = true) (hS : shotOk S = true) :
  ∃ K2, fallenDisk true [] (shD ⟨K, []⟩ slot S) = ⟨K2, []⟩ ∧ shelfOk ⟨K2, []⟩ = true ∧ (∀ i, i < (shotRows S).length → secRow ⟨K2, []⟩ slot i = rowK (shotRows S) i) ∧ (∀ j : Nat, j < 8 → ((j : Int) < slot * 4 ∨ slot * 4 + ((shotRows S).length : Int) ≤ (j : Int)) → K2[j]? = K[j]?) := by
 obtain ⟨h8, hk⟩ := shelf_rows hd
 have hl := shotRows_len hS
 have hr : ∀ i, i < (shotRows S).length → rowOk (rowK (shotRows S) i) = true := fun i hi => rowK_ok (shotRows_row hS) hi
 have hf := fall_all [] (K := K) (slot := slot) (rows := shotRows S) h8 hs hl.2.2
 obtain ⟨e1, e2⟩ := fall_rows (all := true) (fates := []) hd hs hr hl.2.2 (fun r hr2 => by
  obtain ⟨j, hj⟩ := List.mem_iff_getElem?.1 hr2
  rw [hf j _ (Nat.le_refl _)] at hj
  split at hj
  ·
   rename_i hc
   obtain rfl := Option.some.inj hj
   refine hr _ ?_
   rcases slot_in hs with rfl | rfl <;> omega
  exact hk r (List.mem_of_getElem? hj))
 rw [(sh_yes hd hs hS).2]
 refine ⟨_, e1, e2, fun i hi => ?_, fun j hj hc => ?_⟩
 ·
  rw [sec_in e2 hs oM]
  unfold readAt
  simp only [List.reverse_nil, List.find?_nil]
  have hz : 0 ≤ slot := by rcases slot_in hs with rfl | rfl <;> omega
  rw [hf _ _ (Nat.le_refl _), if_pos oM]
  have : (slot * 4 + (i : Int)).toNat - (slot * 4).toNat = i := by omega
  rw [this]; rfl
 rw [hf _ _ (Nat.le_refl _), if_neg oM]
theorem row_shape {s : DShot} (h : shotOk s = true) {p : Nat} {r : List Int} (hr : (shotRows s)[p]? = some r) :
  r[0]? = some s.Num ∧ r[3]? = some ((stateNums s.State).length : Int) ∧ r.length = 7 + min 20 ((stateNums s.State).length - p * 20) ∧ r[r.length - 2]? = some s.Num ∧ 8 ≤ r.length := by
 have h8 := shotRows_ends h hr
 have hp : p < (shotRows s).length := (List.getElem?_eq_some_iff.1 hr).1
 have hl := shotRows_len h
 rw [shotRows_at h hp] at hr
 have hr := Option.some.inj hr
 rw [withSum_shot h oM] at hr
 have e0 : r[0]? = some s.Num := by rw [← hr]; simp [shotRow]
 refine ⟨e0, by rw [← hr]; simp [shotRow], ?_, by rw [h8.2.1]; exact e0, h8.1⟩
 rw [← hr]
 simp only [shotRow, List.length_append, List.length_cons, List.length_nil, List.length_take, List.length_drop]
 omega
def OldRow (n : Int) (r : List Int) : Prop := r = [] ∨ ∃ (a : DShot) (p : Nat), shotOk a = true ∧ a.Num < n ∧ (shotRows a)[p]? = some r
theorem torn_get {r old : List Int} {i : Nat} (h : i < r.length / 2) : (tornRow r old)[i]? = r[i]? := by
 unfold tornRow
 rw [List.getElem?_append_left (by simp only [List.length_take]; omega), List.getElem?_take, if_pos h]
theorem torn_no {b s : DShot} (hb : shotOk b = true) (hs : shotOk s = true) {p : Nat} {r old : List Int} (hr : (shotRows b)[p]? = some r) (ho : OldRow b.Num old) : (shotRows s)[p]? ≠ some (tornRow r old) := by
 intro ht
 obtain ⟨b0, b3, bl, _, b8⟩ := row_shape hb hr
 obtain ⟨s0, s3, sl, s2, s8⟩ := row_shape hs ht
 rw [torn_get oM, b0] at s0
 rw [torn_get oM, b3] at s3
 have s0 := Option.some.inj s0
 have s3 := Option.some.inj s3
 have hlen : (tornRow r old).length = r.length := by rw [sl, bl]; omega
 rw [hlen] at s2
 have hl2 : (tornRow r old).length = r.length / 2 + (old.length - r.length / 2) := by
  unfold tornRow
  rw [List.length_append, List.length_take, List.length_drop]; omega
 rcases ho with rfl | ⟨a, q, ha, hlt, hq⟩
 ·
  simp at hl2; omega
 obtain ⟨a0, a3, al, a2, a8⟩ := row_shape ha hq
 have e : old.length = r.length := by omega
 have e2 : (tornRow r old)[r.length - 2]? = old[old.length - 2]? := by
  unfold tornRow
  rw [List.getElem?_append_right (by simp only [List.length_take]; omega), List.getElem?_drop]
  congr 1
  simp only [List.length_take]; omega
 rw [e2, a2] at s2
 have := Option.some.inj s2
 omega
theorem old_first {n : Int} {r : List Int} (h : OldRow n r) {x : Int} (hx : r[0]? = some x) : x < n := by
 rcases h with rfl | ⟨a, q, ha, hlt, hq⟩
 ·
  cases hx
 rw [(row_shape ha hq).1] at hx
 have := Option.some.inj hx
 omega
theorem shotAt_is {d : DDisk} {slot : Int} {s : DShot} (h : shotAt d slot = some s) : shelfOk d = true ∧ slot01 slot = true ∧ shotOk s = true ∧ ∀ i, i < (shotRows s).length → (shotRows s)[i]? = some (secRow d slot i) := by
 unfold shotAt at h
 split at h
 ·
  rename_i hc
  rw [Bool.and_eq_true] at hc
  split at h
  ·
   split at h
   ·
    obtain ⟨h1, h2⟩ := readShot_is h
    refine ⟨hc.1, hc.2, h1, fun i hi => ?_⟩
    rw [h2] at hi ⊢
    have : i < (secRows d slot (parts (Int.toNat _))).length := hi
    simp only [secRows, List.length_map, List.length_range] at this
    simp [secRows, this]
   cases h
  cases h
 cases h
theorem rows_same {s a : DShot} (hs : shotOk s = true) (ha : shotOk a = true) {X : Nat → List Int} (h1 : ∀ i, i < (shotRows s).length → (shotRows s)[i]? = some (X i)) (h2 : ∀ i, i < (shotRows a).length → (shotRows a)[i]? = some (X i)) : s = a := by
 have ls := shotRows_len hs; have la := shotRows_len ha
 have e1 := row_shape hs (h1 0 oM); have e2 := row_shape ha (h2 0 oM)
 have e3 := e1.2.1
 rw [e2.2.1] at e3
 have e3 := Option.some.inj e3
 have e4 : (shotRows s).length = (shotRows a).length := by rw [ls.1, la.1]; congr 1; omega
 refine shotRows_inj hs ha (List.ext_getElem? fun i => ?_)
 rcases Nat.lt_or_ge i (shotRows s).length with hi | hi
 ·
  rw [h1 i hi, h2 i oM]
 rw [List.getElem?_eq_none hi, List.getElem?_eq_none oM]
theorem mix_at {d : DDisk} {slot : Int} {b s : DShot} {O : Nat → List Int} (hb : shotOk b = true) (hO : ∀ i, i < 4 → OldRow b.Num (O i))
  (hX : ∀ i, i < 4 → secRow d slot i = O i ∨ ∃ r, (shotRows b)[i]? = some r ∧ (secRow d slot i = r ∨ secRow d slot i = tornRow r (O i))) (h : shotAt d slot = some s) :
  s = b ∨ (s.Num < b.Num ∧ ∀ i, i < (shotRows s).length → secRow d slot i = O i) := by
 obtain ⟨_, _, hs, hr⟩ := shotAt_is h
 have ls := shotRows_len hs; have lb := shotRows_len hb
 have H : ∀ i, i < (shotRows s).length → (shotRows s)[i]? = some (O i) ∧ secRow d slot i = O i ∧ s.Num < b.Num ∨ (shotRows b)[i]? = some (secRow d slot i) ∧ s.Num = b.Num := by
  intro i hi
  have e := hr i hi
  rcases hX i oM with hx | ⟨r, hr2, hx | hx⟩
  ·
   rw [hx] at e
   exact .inl ⟨e, hx, old_first (hO i oM) (row_shape hs e).1⟩
  ·
   rw [hx] at e ⊢
   have e1 := (row_shape hs e).1
   rw [(row_shape hb hr2).1] at e1
   exact .inr ⟨hr2, (Option.some.inj e1).symm⟩
  rw [hx] at e
  exact absurd e (torn_no hb hs hr2 (hO i oM))
 rcases H 0 oM with ⟨_, _, h0⟩ | ⟨h0, h1⟩
 ·
  refine .inr ⟨h0, fun i hi => ?_⟩
  rcases H i hi with ⟨_, h2, _⟩ | ⟨_, h2⟩
  ·
   exact h2
  omega
 refine .inl (rows_same hs hb (X := secRow d slot) hr fun i hi => ?_)
 have e1 := row_shape hs (hr 0 oM); have e2 := row_shape hb h0
 have e3 := e1.2.1
 rw [e2.2.1] at e3
 have e3 := Option.some.inj e3
 have e4 : (shotRows s).length = (shotRows b).length := by rw [ls.1, lb.1]; congr 1; omega
 rcases H i oM with ⟨_, _, h2⟩ | ⟨h2, _⟩
 ·
  omega
 exact h2
def fateRow (f : Int) (row old : List Int) : List Int := if f = 1 then row else if f = 2 then tornRow row old else old
theorem fall_any (fates : List Int) {K : List (List Int)} {slot : Int} {rows : List (List Int)} {n : Nat} (h8 : K.length = 8) (hs : slot01 slot = true) (hn : n ≤ 4) (j : Nat) : ∀ k, k ≤ n →
  (fallK false fates ⟨K, wrs slot rows n⟩ k)[j]? = if slot * 4 ≤ (j : Int) ∧ (j : Int) < slot * 4 + (k : Int) then some (fateRow (fate fates (j - (slot * 4).toNat)) (rowK rows (j - (slot * 4).toNat)) ((K[j]?).getD [])) else K[j]?
 | 0, _ => by
  rw [if_neg oM]; rfl
 | k + 1, hk => by
  have ih := fall_any fates (rows := rows) h8 hs hn j k oM
  rw [fallK_succ (x := ⟨slot * 4 + (k : Int), rowK rows k⟩) (wrs_at slot rows oM)]
  have hl : (fallK false fates ⟨K, wrs slot rows n⟩ k).length = 8 := by rw [fallK_len]; exact h8
  have hz : (slot * 4 + (k : Int)).toNat = (slot * 4).toNat + k := by rcases slot_in hs with rfl | rfl <;> omega
  have hz4 : (slot * 4).toNat ≤ 4 := by rcases slot_in hs with rfl | rfl <;> omega
  have hz0 : ((slot * 4).toNat : Int) = slot * 4 := by rcases slot_in hs with rfl | rfl <;> omega
  by_cases hj : j = (slot * 4).toNat + k
  ·
   have e1 : j - (slot * 4).toNat = k := by omega
   have e2 : (fallK false fates ⟨K, wrs slot rows n⟩ k)[(slot * 4).toNat + k]? = K[j]? := by rw [← hj, ih, if_neg oM]
   have e3 : K[j]? = some ((K[j]?).getD []) := by rw [List.getElem?_eq_getElem oM]; rfl
   rw [if_pos oM, e1]
   unfold fallStep fateRow
   simp only [Bool.false_or, decide_eq_true_eq, hz]
   by_cases h1 : fate fates k = 1
   ·
    rw [if_pos h1, if_pos h1, List.getElem?_set, if_pos hj.symm, if_pos oM]
   rw [if_neg h1, if_neg h1]
   by_cases h2 : fate fates k = 2
   ·
    rw [if_pos h2, if_pos h2, List.getElem?_set, if_pos hj.symm, if_pos oM, e2]
   rw [if_neg h2, if_neg h2, hj, e2, ← hj]; exact e3
  have e : (fallStep false (fate fates k) (fallK false fates ⟨K, wrs slot rows n⟩ k) ⟨slot * 4 + (k : Int), rowK rows k⟩)[j]? = (fallK false fates ⟨K, wrs slot rows n⟩ k)[j]? := by
   unfold fallStep
   simp only [hz]
   split
   ·
    rw [List.getElem?_set, if_neg oM]
   split
   ·
    rw [List.getElem?_set, if_neg oM]
   rfl
  rw [e, ih]
  by_cases h1 : slot * 4 ≤ (j : Int) ∧ (j : Int) < slot * 4 + (k : Int)
  ·
   rw [if_pos h1, if_pos oM]
  rw [if_neg h1, if_neg oM]
theorem fateRow_ok {f : Int} {row old : List Int} (h1 : rowOk row = true) (h2 : rowOk old = true) : rowOk (fateRow f row old) = true := by
 unfold fateRow
 split
 ·
  exact h1
 split
 ·
  have l1 := rowOk_len h1; have l2 := rowOk_len h2
  simp only [rowOk, Bool.and_eq_true, decide_eq_true_eq, List.all_eq_true]
  refine ⟨tornRow_len l1.1 l2.1, fun x hx => ?_⟩
  unfold tornRow at hx
  rcases List.mem_append.1 hx with h | h
  ·
   exact inb_true.2 (l1.2 x (List.mem_of_mem_take h))
  exact inb_true.2 (l2.2 x (List.mem_of_mem_drop h))
 exact h2
theorem fallen_at {K : List (List Int)} {slot : Int} {S : DShot} (fates : List Int) (hd : shelfOk ⟨K, []⟩ = true) (hs : slot01 slot = true) (hS : shotOk S = true) :
  ∃ K2, fallenDisk false fates (shD ⟨K, []⟩ slot S) = ⟨K2, []⟩ ∧ shelfOk ⟨K2, []⟩ = true ∧
   (∀ i, i < (shotRows S).length → secRow ⟨K2, []⟩ slot i = fateRow (fate fates i) (rowK (shotRows S) i) (secRow ⟨K, []⟩ slot i)) ∧
   (∀ i, (shotRows S).length ≤ i → i < 4 → secRow ⟨K2, []⟩ slot i = secRow ⟨K, []⟩ slot i) ∧ (∀ i, i < 4 → secRow ⟨K2, []⟩ (1 - slot) i = secRow ⟨K, []⟩ (1 - slot) i) := by
 obtain ⟨h8, hk⟩ := shelf_rows hd
 have hl := shotRows_len hS
 have hr : ∀ i, i < (shotRows S).length → rowOk (rowK (shotRows S) i) = true := fun i hi => rowK_ok (shotRows_row hS) hi
 have hf := fall_any fates (K := K) (slot := slot) (rows := shotRows S) h8 hs hl.2.2
 have hz0 : ((slot * 4).toNat : Int) = slot * 4 := by rcases slot_in hs with rfl | rfl <;> omega
 have hKg : ∀ j : Nat, rowOk ((K[j]?).getD []) = true := fun j => by
  cases h : K[j]? with
  | none => rfl
  | some x => exact hk x (List.mem_of_getElem? h)
 obtain ⟨e1, e2⟩ := fall_rows (all := false) (fates := fates) hd hs hr hl.2.2 (fun r hr2 => by
  obtain ⟨j, hj⟩ := List.mem_iff_getElem?.1 hr2
  rw [hf j _ (Nat.le_refl _)] at hj
  split at hj
  ·
   rename_i hc
   obtain rfl := Option.some.inj hj
   exact fateRow_ok (hr _ oM) (hKg j)
  exact hk r (List.mem_of_getElem? hj))
 have hs2 : slot01 (1 - slot) = true := by rcases slot_in hs with rfl | rfl <;> rfl
 have hsec : ∀ (K : List (List Int)) (t : Int) (i : Nat), shelfOk ⟨K, []⟩ = true → slot01 t = true → i < 4 → secRow ⟨K, []⟩ t i = (K[(t * 4).toNat + i]?).getD [] := fun K t i h1 h2 h3 => by
  rw [sec_in h1 h2 h3]
  unfold readAt
  simp only [List.reverse_nil, List.find?_nil]
  have : (t * 4 + (i : Int)).toNat = (t * 4).toNat + i := by rcases slot_in h2 with rfl | rfl <;> omega
  rw [this]
 rw [(sh_yes hd hs hS).2]
 refine ⟨_, e1, e2, fun i hi => ?_, fun i hi hi4 => ?_, fun i hi => ?_⟩
 ·
  rw [hsec _ _ _ e2 hs oM, hsec _ _ _ hd hs oM, hf _ _ (Nat.le_refl _), if_pos oM]
  have : (slot * 4).toNat + i - (slot * 4).toNat = i := by omega
  rw [this]; rfl
 ·
  rw [hsec _ _ _ e2 hs oM, hsec _ _ _ hd hs oM, hf _ _ (Nat.le_refl _), if_neg oM]
 rw [hsec _ _ _ e2 hs2 oM, hsec _ _ _ hd hs2 oM, hf _ _ (Nat.le_refl _), if_neg]
 rcases slot_in hs with rfl | rfl <;> omega
end Go.G8
