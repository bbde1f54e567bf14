/- Contracts and plain laws: OM EM OB GB. -/
import Derived.Test.YthihnangjghloaaSa
import Derived.Test.YthihnangjghloaaSo
import Derived.Test.YthihnangjghloaaSj
import Derived.Test.YthihnangjghloaaSc
set_option linter.unusedSimpArgs false
set_option linter.unusedVariables false
-- The order of open jobs, without the program.
set_option linter.unusedSimpArgs false
set_option linter.unusedVariables false
namespace Go.Proofs.Ythihnangjghloaa
open Go.RowKit Go.G8

end Go.Proofs.Ythihnangjghloaa
namespace Go.G8
open Go.RowKit
open Go.Proofs.Ythihnangjghloaa
open Go.Sort (SWO PermIn SortedIn)
theorem dueLess_iff {a b : DDue} : dueLess a b = true ↔ (a.Due < b.Due ∨ (a.Due = b.Due ∧ a.Id < b.Id)) := by simp [dueLess]
theorem spos_gt (out : List DDue) (x : Int) : ∀ k, k ≤ out.length → ∀ i d, spos out x k ≤ i → i < k → out[i]? = some d → x < d.Due
 | 0, _, i, d, _, h, _ => by omega
 | k + 1, hk, i, d, h1, h2, hd => by
  have hlt : k < out.length := hk
  have hg : out[k]? = some out[k] := List.getElem?_eq_getElem hlt
  by_cases hx : x < (out[k]).Due
  ·
   rw [spos_down hg hx] at h1
   by_cases hik : i = k
   ·
    subst hik
    rw [hg] at hd
    injection hd with hd
    subst hd
    exact hx
   ·
    exact spos_gt out x k (by omega) i d h1 (by omega) hd
  ·
   rw [spos_stop hg hx] at h1
   omega
theorem spos_le_due (out : List DDue) (x : Int) : ∀ k, k ≤ out.length → ∀ d, 0 < spos out x k → out[spos out x k - 1]? = some d → d.Due ≤ x
 | 0, _, d, h, _ => by simp [spos] at h
 | k + 1, hk, d, h, hd => by
  have hlt : k < out.length := hk
  have hg : out[k]? = some out[k] := List.getElem?_eq_getElem hlt
  by_cases hx : x < (out[k]).Due
  ·
   rw [spos_down hg hx] at h hd
   exact spos_le_due out x k (by omega) d h hd
  ·
   rw [spos_stop hg hx] at h hd
   simp only [Nat.add_sub_cancel] at hd
   rw [hg] at hd
   injection hd with hd
   subst hd
   omega
def SortedD (l : List DDue) : Prop := l.Pairwise (fun a b => dueLess a b = true)
theorem SortedD.get {l : List DDue} (h : SortedD l) {i j : Nat} {a b : DDue} (hij : i < j) (ha : l[i]? = some a) (hb : l[j]? = some b) : dueLess a b = true := by
 obtain ⟨hi, rfl⟩ := List.getElem?_eq_some_iff.1 ha
 obtain ⟨hj, rfl⟩ := List.getElem?_eq_some_iff.1 hb
 exact List.pairwise_iff_getElem.1 h i j hi hj hij
theorem insD_sorted {out : List DDue} {d : DDue} (h : SortedD out) (hid : ∀ a, a ∈ out → a.Id < d.Id) : SortedD (insD out d) := by
 unfold insD
 obtain ⟨p, hp⟩ : ∃ p, p = spos out d.Due out.length := ⟨_, rfl⟩
 have hple : p ≤ out.length := by rw [hp]; exact spos_le _ _ _
 rw [← hp]
 have hta : ∀ a, a ∈ out.take p → dueLess a d = true := by
  intro a ha
  obtain ⟨i, hi, hai⟩ := List.getElem_of_mem ha
  have hi2 : i < p := by simp at hi; omega
  have hao : out[i]? = some a := by
   have := List.getElem?_eq_getElem hi
   rw [hai, List.getElem?_take, if_pos hi2] at this
   exact this
  have hid2 := hid a (List.mem_of_mem_take ha)
  have hq : out[p - 1]? = some (out[p - 1]'(by omega)) := List.getElem?_eq_getElem (by omega)
  have hle := spos_le_due out d.Due out.length (Nat.le_refl _) _ (by omega) (by rw [← hp]; exact hq)
  have hle2 : a.Due ≤ (out[p - 1]'(by omega)).Due := by
   by_cases he : i = p - 1
   ·
    subst he
    rw [hq] at hao
    injection hao with hao
    rw [hao]; exact Int.le_refl _
   ·
    have := dueLess_iff.1 (h.get (show i < p - 1 by omega) hao hq)
    omega
  exact dueLess_iff.2 (by omega)
 have hdb : ∀ b, b ∈ out.drop p → dueLess d b = true := by
  intro b hb
  obtain ⟨i, hi, hbi⟩ := List.getElem_of_mem hb
  have hbo : out[p + i]? = some b := by
   have := List.getElem?_eq_getElem hi
   rw [hbi, List.getElem?_drop] at this
   exact this
  have hi2 : p + i < out.length := (List.getElem?_eq_some_iff.1 hbo).1
  have := spos_gt out d.Due out.length (Nat.le_refl _) (p + i) b (by omega) hi2 hbo
  exact dueLess_iff.2 (by omega)
 have hs : SortedD (out.take p ++ out.drop p) := by rw [List.take_append_drop]; exact h
 obtain ⟨h1, h2, h3⟩ := List.pairwise_append.1 hs
 refine List.pairwise_append.2 ⟨h1, List.pairwise_cons.2 ⟨hdb, h2⟩, fun a ha b hb => ?_⟩
 rcases List.mem_cons.1 hb with rfl | hb
 ·
  exact hta a ha
 ·
  exact h3 a ha b hb
theorem insD_perm (out : List DDue) (d : DDue) : (insD out d).Perm (d :: out) := by
 unfold insD
 have := (List.perm_middle (a := d) (l₁ := out.take (spos out d.Due out.length)) (l₂ := out.drop (spos out d.Due out.length)))
 rwa [List.take_append_drop] at this
theorem fold_sorted : ∀ (L out : List DDue), SortedD out → L.Pairwise (fun a b => a.Id < b.Id) → (∀ a, a ∈ out → ∀ b, b ∈ L → a.Id < b.Id) → SortedD (L.foldl insD out) ∧ (L.foldl insD out).Perm (out ++ L)
 | [], out, h, _, _ => ⟨h, by simp⟩
 | d :: t, out, h, hl, ho => by
  obtain ⟨h1, h2⟩ := List.pairwise_cons.1 hl
  have hs := insD_sorted h (fun a ha => ho a ha d (by simp))
  have hp := insD_perm out d
  obtain ⟨r1, r2⟩ := fold_sorted t (insD out d) hs h2 (fun a ha b hb => by
   rcases List.mem_cons.1 (hp.mem_iff.1 ha) with rfl | ha
   ·
    exact h1 b hb
   ·
    exact ho a ha b (by simp [hb]))
  refine ⟨r1, r2.trans ?_⟩
  exact ((hp.append_right t).trans (by simpa using (List.perm_middle (a := d) (l₁ := out) (l₂ := t)).symm))
theorem opens_srt {l : List DJob} (h : jobsOk l = true) : (opens l).Pairwise (fun a b => a.Id < b.Id) := by
 have hs := (jobsOk_srt h).2.1
 unfold opens
 exact List.pairwise_map.2 ((List.Pairwise.filter _ hs))
theorem openD_sorted {l : List DJob} (h : jobsOk l = true) : SortedD (openD l) ∧ (openD l).Perm (opens l) := by
 have := fold_sorted (opens l) [] List.Pairwise.nil (opens_srt h) (fun a ha => by simp at ha)
 unfold openD
 rw [if_pos h]
 simpa using this
end Go.G8
namespace Go.Proofs.Ythihnangjghloaa
open Go.RowKit Go.G8

end Go.Proofs.Ythihnangjghloaa

-- What one entry does, without the program.
set_option linter.unusedSimpArgs false
set_option linter.unusedVariables false
namespace Go.Proofs.Ythihnangjghloaa
open Go.RowKit Go.G8

end Go.Proofs.Ythihnangjghloaa
namespace Go.G8
open Go.RowKit
open Go.Proofs.Ythihnangjghloaa
theorem stepS_at {s : DState} {e : DEntry} : (stepS s e).Index = e.Index ∧ (stepS s e).Time = e.Time := by
 unfold stepS
 repeat' split
 all_goals exact ⟨rfl, rfl⟩
end Go.G8
namespace Go.Proofs.Ythihnangjghloaa
open Go.RowKit Go.G8

end Go.Proofs.Ythihnangjghloaa

-- A slice of bytes opened.
namespace Go.Proofs.Ythihnangjghloaa
open Go.ChangeShapes Go.WideShapes Go.ChangeAt Go.RowKit Go.G8
section
variable {H : Type} {enc : TypeId × Value → H} {W : World} {base : Nat} {sp : Nat → Bool} {held : Bool}
theorem c_uint8 : Try.prog.cellsOf 5 = 1 := by kernel_rfl
theorem rd_Bytes {fuel : Nat} {cs : List Value} {x : DataW H × List MemPlace} (h : DataW.trod enc Try.prog W base sp held fuel 22 cs = some x) : ∃ s : Value, cs = [s] ∧ Bytes W s := by
 rcases Deep.open_slice1 Try.underlying22 c_uint8 h with ⟨rfl, _⟩ | ⟨a, len, cap, m, n, V, D, Pl, rfl, hb, hl, hm, hmm, _, hx⟩
 ·
  exact ⟨_, rfl, [], Sl.nil 1 W, by simp⟩
 ·
  have hlm : len ≤ m := by rw [hmm]; split <;> omega
  obtain ⟨l, hlen, hp⟩ := choose_list (p := fun i (y : Int) => (0 ≤ y ∧ y ≤ 255) ∧ W.cell? (a.add i) = some (.int .u8 y)) len (fun i hi => by
   obtain ⟨h1, h2⟩ := hx i (by omega)
   obtain ⟨y, e, _, hw⟩ := DataW.trod_int Try.underlying5 h2
   injection e with e _
   subst_vars
   simp only [Lit.wf, Bool.and_eq_true, decide_eq_true_eq] at hw
   refine ⟨y, ⟨?_, ?_⟩, by rw [h1, e]⟩
   ·
    have := hw.1; simpa [IntKind.min, IntKind.signed] using this
   ·
    have := hw.2; simpa [IntKind.max, IntKind.signed, IntKind.bits] using this)
  obtain ⟨b, off, s⟩ := a
  refine ⟨_, rfl, l, ⟨some ⟨b, off, s⟩, len, cap, rfl, by simpa using hlen, hl, hm, (fun h => by cases h), fun b' off' sp' ha hpos => ?_⟩, fun y hy => ?_⟩
  ·
   injection ha with ha
   injection ha with e1 e2 e3
   subst e1; subst e2; subst e3
   have h0 := (hp 0 _ (List.getElem?_eq_getElem (by omega))).2
   have hs : s = none := by
    have e0 : (⟨b, off, s⟩ : Addr).add 0 = ⟨b, off, s⟩ := by unfold Addr.add; simp
    rw [e0] at h0
    cases s with
    | none => rfl
    | some s => unfold World.cell? at h0; split at h0 <;> simp at h0
   subst hs
   have hcell : ∀ i u, (l.map (Value.int .u8))[i]? = some u → W.cell? ⟨b, off + i, none⟩ = some u := by
    intro i u hu
    rw [List.getElem?_map] at hu
    obtain ⟨y, hy, rfl⟩ := Option.map_eq_some_iff.1 hu
    have := (hp i y hy).2
    rw [add_lit0] at this
    exact this
   have hc0 := hcell 0 _ (by rw [List.getElem?_map, List.getElem?_eq_getElem (by omega)]; rfl)
   exact ⟨rfl, World.block_lt_of_cell? W _ hc0, hcell⟩
  ·
   obtain ⟨i, hi⟩ := List.mem_iff_getElem?.1 hy
   exact (hp i y hi).1
end
end Go.Proofs.Ythihnangjghloaa

-- Of great laws: big.
set_option linter.unusedSimpArgs false
set_option linter.unusedVariables false
namespace Go.Proofs.Ythihnangjghloaa
open Go.RowKit Go.G8

set_option maxHeartbeats 4000000 in
set_option maxRecDepth 100000 in
theorem big_c (w : World) (a : Option Addr) (n k : Nat) : Calls Try.prog 7 #[.slice a n k] w (fun e w' => e = .returned (.bool (decide ((4096 : Int) < (n : Int)))) ∧ w = w') := by
 go_enter Try.func7, Try.ntmps7
 go_wp2_with fail
 go_ret
 exact ⟨by first | rfl | simp, rfl⟩

end Go.Proofs.Ythihnangjghloaa
