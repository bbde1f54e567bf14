/- Disks that are synced or fall: the data, and moves of rows. -/
import Derived.Test.YtankkbjlneeolaaQ4
import Derived.Test.YtankkbjlneeolaaQ3
set_option linter.unusedSimpArgs false
set_option linter.unusedVariables false
namespace Go.Proofs.Ytankkbjlneeolaa
open Go.RowKit Go.G8

end Go.Proofs.Ytankkbjlneeolaa
namespace Go.G8
open Go.RowKit
def fallStep (all : Bool) (f : Int) (kept : List (List Int)) (x : DWrite) : List (List Int) :=
  if (all || decide (f = 1)) = true then kept.set x.At.toNat x.Row else if f = 2 then kept.set x.At.toNat (tornRow x.Row ((kept[x.At.toNat]?).getD [])) else kept
def fate (fates : List Int) (i : Nat) : Int := (fates[i]?).getD 0
def fallK (all : Bool) (fates : List Int) (d : DDisk) : Nat → List (List Int)
  | 0 => d.Kept
  | k + 1 => match d.Wait[k]? with
    | some x => fallStep all (fate fates k) (fallK all fates d k) x
    | none => fallK all fates d k
def fallenDisk (all : Bool) (fates : List Int) (d : DDisk) : DDisk := if diskOk d then ⟨fallK all fates d d.Wait.length, []⟩ else ⟨[], []⟩
theorem fallK_succ {all : Bool} {fates : List Int} {d : DDisk} {k : Nat} {x : DWrite} (h : d.Wait[k]? = some x) : fallK all fates d (k + 1) = fallStep all (fate fates k) (fallK all fates d k) x := by simp [fallK, h]
theorem fallStep_len (all : Bool) (f : Int) (kept : List (List Int)) (x : DWrite) : (fallStep all f kept x).length = kept.length := by
  unfold fallStep
  split
  · simp
  · split <;> simp
theorem fallK_len (all : Bool) (fates : List Int) (d : DDisk) (k : Nat) : (fallK all fates d k).length = d.Kept.length := by
  induction k with
  | zero => rfl
  | succ k ih =>
    unfold fallK
    split
    · rw [fallStep_len]; exact ih
    · exact ih
theorem diskOk_rows {d : DDisk} (h : diskOk d = true) : (∀ r, r ∈ d.Kept → r.length ≤ 48) ∧ (∀ x, x ∈ d.Wait → x.Row.length ≤ 48 ∧ 0 ≤ x.At ∧ x.At < d.Kept.length) ∧ 1 ≤ d.Kept.length ∧ d.Kept.length ≤ 40 ∧ d.Wait.length ≤ 60 := by
  simp only [diskOk, Bool.and_eq_true, decide_eq_true_eq, List.all_eq_true] at h
  obtain ⟨⟨h0, h1, h2⟩, h3, h4⟩ := h
  refine ⟨fun r hr => ?_, fun x hx => ?_, h0, h1, h2⟩
  · have := h3 r hr; simp only [rowOk, Bool.and_eq_true, decide_eq_true_eq] at this; omega
  · have := h4 x hx; simp only [writeOk, rowOk, Bool.and_eq_true, decide_eq_true_eq, inb_true] at this; omega
theorem fallStep_ok {all : Bool} {f : Int} {kept : List (List Int)} {x : DWrite} (h : ∀ r, r ∈ kept → r.length ≤ 48) (hx : x.Row.length ≤ 48) : ∀ r, r ∈ fallStep all f kept x → r.length ≤ 48 := by
  intro r hr
  unfold fallStep at hr
  split at hr
  · rcases List.mem_or_eq_of_mem_set hr with h1 | rfl
    · exact h r h1
    · exact hx
  · split at hr
    · rcases List.mem_or_eq_of_mem_set hr with h1 | rfl
      · exact h r h1
      · refine tornRow_len hx ?_
        rcases Nat.lt_or_ge x.At.toNat kept.length with h2 | h2
        · rw [List.getElem?_eq_getElem h2]; exact h _ (List.getElem_mem h2)
        · rw [List.getElem?_eq_none h2]; simp
    · exact h r hr
theorem fallK_ok {all : Bool} {fates : List Int} {d : DDisk} (h : diskOk d = true) (k : Nat) : ∀ r, r ∈ fallK all fates d k → r.length ≤ 48 := by
  obtain ⟨h1, h2, _⟩ := diskOk_rows h
  induction k with
  | zero => exact h1
  | succ k ih =>
    intro r hr
    unfold fallK at hr
    split at hr
    · rename_i x hx
      exact fallStep_ok ih (h2 x (List.mem_of_getElem? hx)).1 r hr
    · exact ih r hr
theorem nestI_set (l : List (List Int)) (k : Nat) (r : List Int) : nestInt64S (l.set k r) = (nestInt64S l).set k ([], r) := by simp [nestInt64S, List.map_set]
theorem feet_set {v s : Value} {l : List Value} {i f : Nat} (h : f ∈ feet (v :: l.set i s)) : f ∈ feet (v :: l) ∨ f ∈ feet [s] := by
  simp only [feet, List.mem_filterMap] at h ⊢
  obtain ⟨x, hx, hf⟩ := h
  rcases List.mem_cons.1 hx with rfl | hx
  · exact .inl ⟨x, by simp, hf⟩
  · rcases List.mem_or_eq_of_mem_set hx with h1 | rfl
    · exact .inl ⟨x, by simp [h1], hf⟩
    · exact .inr ⟨x, by simp, hf⟩
/-- Rows are moved from the waiting writes (from number k on) into the kept ones. -/
def Mv (B : Nat) (e e1 e2 : TypeId) (w : World) (g n c : Nat) (kept : List (List Int)) (v1 : Value) (wait : List DWrite) (ss1 : List Value) (k : Nat) : Prop :=
  ∃ ss : List Value, OwnNs B e e1 0 w (.slice (some ⟨g, 0, none⟩) n c) (nestInt64S kept) ss ∧ OwnNs B e2 e1 1 w v1 (nestWrite wait) ss1 ∧ g ∉ feet (v1 :: ss1) ∧
    ∀ (j : Nat) (s : Value) (f : Nat), k ≤ j → ss1[j]? = some s → f ∈ feet [s] → f ∈ feet (.slice (some ⟨g, 0, none⟩) n c :: ss) → False
section
variable {B : Nat} {e e1 e2 : TypeId} {w w' : World} {g n c : Nat} {kept : List (List Int)} {v1 : Value} {wait : List DWrite} {ss1 : List Value} {k : Nat}
theorem Mv.ext (h : Mv B e e1 e2 w g n c kept v1 wait ss1 k) (x : Ext w w') : Mv B e e1 e2 w' g n c kept v1 wait ss1 k := by
  obtain ⟨ss, h0, h1, hg, hd⟩ := h
  exact ⟨ss, h0.ext x, h1.ext x, hg, hd⟩
theorem Mv.keep (h : Mv B e e1 e2 w g n c kept v1 wait ss1 k) (x : Chg B w w') : Mv B e e1 e2 w' g n c kept v1 wait ss1 k := by
  obtain ⟨ss, h0, h1, hg, hd⟩ := h
  exact ⟨ss, h0.keep x, h1.keep x, hg, hd⟩
theorem Mv.skip (h : Mv B e e1 e2 w g n c kept v1 wait ss1 k) : Mv B e e1 e2 w g n c kept v1 wait ss1 (k + 1) := by
  obtain ⟨ss, h0, h1, hg, hd⟩ := h
  exact ⟨ss, h0, h1, hg, fun j s f hj => hd j s f (by omega)⟩
theorem Mv.low (h : Mv B e e1 e2 w g n c kept v1 wait ss1 k) : B ≤ g ∧ g < w.heap.size := by
  obtain ⟨ss, h0, h1, hg, hd⟩ := h
  exact h0.foot g (by simp [feet, Value.ownBlock])
theorem Mv.move (h : Mv B e e1 e2 w g n c kept v1 wait ss1 k) {s : Value} (hk : ss1[k]? = some s) {d : DWrite} (hd : wait[k]? = some d) {p : Nat} (hp : p < kept.length) :
    Mv B e e1 e2 (w.setCell ⟨g, p, none⟩ s) g n c (kept.set p d.Row) v1 wait ss1 (k + 1) := by
  obtain ⟨ss, h0, h1, hg, hdd⟩ := h
  have hr : (nestInt64S kept)[p]? = some ([], kept[p]) := by simp [nestInt64S, hp]
  have hw : (nestWrite wait)[k]? = some ([d.At], d.Row) := by simp [nestWrite, hd]
  have ho : OwnI B e1 1 w s d.Row := h1.2.2.2.own k s _ hk hw
  have hset := h0.set_slice hr (t := s) (xs := d.Row) ho (fun i u f hi hu hf1 hf2 => hdd k s f (Nat.le_refl _) hk hf2 (feet_sub hu hf1)) (fun hgs => hg (feet_sub hk hgs))
  refine ⟨ss.set p s, by rw [nestI_set]; simpa using hset, h1.upd (fs := [g]) ((Upd.refl _ _).setCell (by simp) _) (fun f hf1 hf2 => hg (by simp at hf2; exact hf2 ▸ hf1)), hg, fun j u f hj hu hf1 hf2 => ?_⟩
  rcases feet_set hf2 with h3 | h3
  · exact hdd j u f (by omega) hu hf1 h3
  · exact h1.2.2.2.two k j s u f (by omega) hk hu h3 hf1
/-- A new row is laid in. -/
theorem Mv.fresh {w0 : World} (h : Mv B e e1 e2 w0 g n c kept v1 wait ss1 k) (x : Ext w0 w) {s : Value} {xs : List Int} (hs : OwnI w0.heap.size e1 1 w s xs) (hB : B ≤ w0.heap.size) {p : Nat} (hp : p < kept.length) :
    Mv B e e1 e2 (w.setCell ⟨g, p, none⟩ s) g n c (kept.set p xs) v1 wait ss1 (k + 1) := by
  obtain ⟨ss, h0, h1, hg, hdd⟩ := h
  have hr : (nestInt64S kept)[p]? = some ([], kept[p]) := by simp [nestInt64S, hp]
  have hfs : ∀ f, f ∈ feet [s] → w0.heap.size ≤ f := by
    intro f hf
    simp only [feet, List.mem_filterMap] at hf
    obtain ⟨u, hu, hf⟩ := hf
    simp at hu; subst hu
    exact (Own.lt hs hf).1
  have hset := (h0.ext x).set_slice hr (t := s) (xs := xs) (hs.mono hB) (fun i u f hi hu hf1 hf2 => by
    have := (h0.foot f (feet_sub hu hf1)).2; have := hfs f hf2; omega) (fun hgs => by
    have := (h0.foot g (by simp [feet, Value.ownBlock])).2; have := hfs g hgs; omega)
  refine ⟨ss.set p s, by rw [nestI_set]; simpa using hset, (h1.ext x).upd (fs := [g]) ((Upd.refl _ _).setCell (by simp) _) (fun f hf1 hf2 => hg (by simp at hf2; exact hf2 ▸ hf1)), hg, fun j u f hj hu hf1 hf2 => ?_⟩
  rcases feet_set hf2 with h3 | h3
  · exact hdd j u f (by omega) hu hf1 h3
  · have := (h1.foot f (feet_sub hu hf1)).2; have := hfs f h3; omega
/-- The kept rows' outer block, for a walk. -/
theorem Mv.blk (h : Mv B e e1 e2 w g n c kept v1 wait ss1 k) (hp : 0 < kept.length) : ∃ (cur : Array Value) (ss : List Value), n = kept.length ∧ Blk w g e cur ∧ ss.length = kept.length ∧ ∀ (i : Nat) (r : List Int) (s : Value), kept[i]? = some r → ss[i]? = some s → cur[i]? = some s ∧ OwnI B e1 1 w s r := by
  obtain ⟨ss, h0, h1, hg, hdd⟩ := h
  have hl : (nestInt64S kept).length = kept.length := by simp [nestInt64S]
  obtain ⟨g', cap, cur, hv, h3, h4, h5, hblk, hc⟩ := h0.open_ (by omega)
  injection hv with hv1 hv2 hv3
  injection hv1 with hv1
  injection hv1 with hv1
  subst hv1
  refine ⟨cur, ss, by omega, hblk, by rw [h0.2.1, hl], fun i r s hr hs => ?_⟩
  have hr' : (nestInt64S kept)[i]? = some ([], r) := by simp [nestInt64S, hr]
  exact ⟨by simpa using (hc i _ s hr' hs).2, h0.2.2.2.own i s _ hs hr'⟩
end
end Go.G8
namespace Go.Proofs.Ytankkbjlneeolaa
open Go.RowKit Go.G8

end Go.Proofs.Ytankkbjlneeolaa
