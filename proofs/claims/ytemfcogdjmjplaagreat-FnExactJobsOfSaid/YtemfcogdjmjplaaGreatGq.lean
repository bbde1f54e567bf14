/- Contracts and plain laws: OM OG Shf OF. -/
import Derived.Test.YtemfcogdjmjplaaGreatGo
import Derived.Shelf.SlSortCmp.SmallK
import Derived.Shelf.Small.Bits
import Derived.Test.YtemfcogdjmjplaaGreatProg
import Derived.Test.YtemfcogdjmjplaaGreatGj
-- The order of open jobs, without the program.
set_option linter.unusedSimpArgs false
set_option linter.unusedVariables false
namespace Go.Proofs.YtemfcogdjmjplaaGreat
open Go.RowKit Go.G8

end Go.Proofs.YtemfcogdjmjplaaGreat
namespace Go.G8
open Go.RowKit
open Go.Proofs.YtemfcogdjmjplaaGreat
open Go.Sort (SWO PermIn SortedIn)
theorem cmpD_lt (x y : DDue) : Go.Proofs.ltOf cmpD x y = dueLess x y := by
  unfold Go.Proofs.ltOf cmpD Lib.compareInt dueLess
  by_cases h1 : x.Due < y.Due
  · simp [h1]
  · by_cases h2 : y.Due < x.Due
    · have h3 : ¬ x.Due = y.Due := by omega
      simp [h1, h2, h3]
    · have h3 : x.Due = y.Due := by omega
      by_cases h4 : x.Id < y.Id
      · simp [h3, h4]
      · by_cases h5 : y.Id < x.Id <;> simp [h3, h4, h5]
theorem lt_due : Go.Proofs.ltOf cmpD = dueLess := by funext x y; exact cmpD_lt x y
theorem dueLess_iff {a b : DDue} : dueLess a b = true ↔ (a.Due < b.Due ∨ (a.Due = b.Due ∧ a.Id < b.Id)) := by simp [dueLess]
theorem dueLess_not {a b : DDue} : dueLess a b = false ↔ ¬ (a.Due < b.Due ∨ (a.Due = b.Due ∧ a.Id < b.Id)) := by simp [dueLess]
theorem swo_due : SWO dueLess where
  irrefl := fun x => dueLess_not.2 (by omega)
  trans := fun x y z h1 h2 => dueLess_iff.2 (by have := dueLess_iff.1 h1; have := dueLess_iff.1 h2; omega)
  ntrans := fun x y z h1 h2 => dueLess_not.2 (by have := dueLess_not.1 h1; have := dueLess_not.1 h2; omega)
theorem anti_due (x y : DDue) (h1 : dueLess x y = false) (h2 : dueLess y x = false) : x = y := by
  have a := dueLess_not.1 h1; have b := dueLess_not.1 h2
  cases x; cases y
  simp only [] at a b
  congr 1 <;> omega
theorem spos_gt (out : List DDue) (x : Int) : ∀ k, k ≤ out.length → ∀ i d, spos out x k ≤ i → i < k → out[i]? = some d → x < d.Due
  | 0, _, i, d, _, h, _ => by omega
  | k + 1, hk, i, d, h1, h2, hd => by
    have hlt : k < out.length := hk
    have hg : out[k]? = some out[k] := List.getElem?_eq_getElem hlt
    by_cases hx : x < (out[k]).Due
    · rw [spos_down hg hx] at h1
      by_cases hik : i = k
      · subst hik
        rw [hg] at hd
        injection hd with hd
        subst hd
        exact hx
      · exact spos_gt out x k (by omega) i d h1 (by omega) hd
    · rw [spos_stop hg hx] at h1
      omega
theorem spos_le_due (out : List DDue) (x : Int) : ∀ k, k ≤ out.length → ∀ d, 0 < spos out x k → out[spos out x k - 1]? = some d → d.Due ≤ x
  | 0, _, d, h, _ => by simp [spos] at h
  | k + 1, hk, d, h, hd => by
    have hlt : k < out.length := hk
    have hg : out[k]? = some out[k] := List.getElem?_eq_getElem hlt
    by_cases hx : x < (out[k]).Due
    · rw [spos_down hg hx] at h hd
      exact spos_le_due out x k (by omega) d h hd
    · rw [spos_stop hg hx] at h hd
      simp only [Nat.add_sub_cancel] at hd
      rw [hg] at hd
      injection hd with hd
      subst hd
      omega
def SortedD (l : List DDue) : Prop := l.Pairwise (fun a b => dueLess a b = true)
theorem SortedD.get {l : List DDue} (h : SortedD l) {i j : Nat} {a b : DDue} (hij : i < j) (ha : l[i]? = some a) (hb : l[j]? = some b) : dueLess a b = true := by
  obtain ⟨hi, rfl⟩ := List.getElem?_eq_some_iff.1 ha
  obtain ⟨hj, rfl⟩ := List.getElem?_eq_some_iff.1 hb
  exact List.pairwise_iff_getElem.1 h i j hi hj hij
theorem insD_sorted {out : List DDue} {d : DDue} (h : SortedD out) (hid : ∀ a, a ∈ out → a.Id < d.Id) : SortedD (insD out d) := by
  unfold insD
  obtain ⟨p, hp⟩ : ∃ p, p = spos out d.Due out.length := ⟨_, rfl⟩
  have hple : p ≤ out.length := by rw [hp]; exact spos_le _ _ _
  rw [← hp]
  have hta : ∀ a, a ∈ out.take p → dueLess a d = true := by
    intro a ha
    obtain ⟨i, hi, hai⟩ := List.getElem_of_mem ha
    have hi2 : i < p := by simp at hi; omega
    have hao : out[i]? = some a := by
      have := List.getElem?_eq_getElem hi
      rw [hai, List.getElem?_take, if_pos hi2] at this
      exact this
    have hid2 := hid a (List.mem_of_mem_take ha)
    have hq : out[p - 1]? = some (out[p - 1]'(by omega)) := List.getElem?_eq_getElem (by omega)
    have hle := spos_le_due out d.Due out.length (Nat.le_refl _) _ (by omega) (by rw [← hp]; exact hq)
    have hle2 : a.Due ≤ (out[p - 1]'(by omega)).Due := by
      by_cases he : i = p - 1
      · subst he
        rw [hq] at hao
        injection hao with hao
        rw [hao]; exact Int.le_refl _
      · have := dueLess_iff.1 (h.get (show i < p - 1 by omega) hao hq)
        omega
    exact dueLess_iff.2 (by omega)
  have hdb : ∀ b, b ∈ out.drop p → dueLess d b = true := by
    intro b hb
    obtain ⟨i, hi, hbi⟩ := List.getElem_of_mem hb
    have hbo : out[p + i]? = some b := by
      have := List.getElem?_eq_getElem hi
      rw [hbi, List.getElem?_drop] at this
      exact this
    have hi2 : p + i < out.length := (List.getElem?_eq_some_iff.1 hbo).1
    have := spos_gt out d.Due out.length (Nat.le_refl _) (p + i) b (by omega) hi2 hbo
    exact dueLess_iff.2 (by omega)
  have hs : SortedD (out.take p ++ out.drop p) := by rw [List.take_append_drop]; exact h
  obtain ⟨h1, h2, h3⟩ := List.pairwise_append.1 hs
  refine List.pairwise_append.2 ⟨h1, List.pairwise_cons.2 ⟨hdb, h2⟩, fun a ha b hb => ?_⟩
  rcases List.mem_cons.1 hb with rfl | hb
  · exact hta a ha
  · exact h3 a ha b hb
theorem insD_perm (out : List DDue) (d : DDue) : (insD out d).Perm (d :: out) := by
  unfold insD
  have := (List.perm_middle (a := d) (l₁ := out.take (spos out d.Due out.length)) (l₂ := out.drop (spos out d.Due out.length)))
  rwa [List.take_append_drop] at this
theorem fold_sorted : ∀ (L out : List DDue), SortedD out → L.Pairwise (fun a b => a.Id < b.Id) → (∀ a, a ∈ out → ∀ b, b ∈ L → a.Id < b.Id) → SortedD (L.foldl insD out) ∧ (L.foldl insD out).Perm (out ++ L)
  | [], out, h, _, _ => ⟨h, by simp⟩
  | d :: t, out, h, hl, ho => by
    obtain ⟨h1, h2⟩ := List.pairwise_cons.1 hl
    have hs := insD_sorted h (fun a ha => ho a ha d (by simp))
    have hp := insD_perm out d
    obtain ⟨r1, r2⟩ := fold_sorted t (insD out d) hs h2 (fun a ha b hb => by
      rcases List.mem_cons.1 (hp.mem_iff.1 ha) with rfl | ha
      · exact h1 b hb
      · exact ho a ha b (by simp [hb]))
    refine ⟨r1, r2.trans ?_⟩
    exact ((hp.append_right t).trans (by simpa using (List.perm_middle (a := d) (l₁ := out) (l₂ := t)).symm))
theorem opens_srt {l : List DJob} (h : jobsOk l = true) : (opens l).Pairwise (fun a b => a.Id < b.Id) := by
  have hs := (jobsOk_srt h).2.1
  unfold opens
  exact List.pairwise_map.2 ((List.Pairwise.filter _ hs))
theorem openD_sorted {l : List DJob} (h : jobsOk l = true) : SortedD (openD l) ∧ (openD l).Perm (opens l) := by
  have := fold_sorted (opens l) [] List.Pairwise.nil (opens_srt h) (fun a ha => by simp at ha)
  unfold openD
  rw [if_pos h]
  simpa using this
theorem sort_open {l : List DJob} (h : jobsOk l = true) : (Go.Sort.insertionSort (Go.Proofs.ltOf cmpD) (opens l).toArray 0 (opens l).toArray.size).toList = openD l := by
  rw [lt_due]
  obtain ⟨p1, s1⟩ := Go.Sort.insertionSort_holds (lt := dueLess) swo_due (opens l).toArray 0 (opens l).toArray.size (Nat.zero_le _) (Nat.le_refl _)
  have e1 := Go.Sort.sorted_unique_holds (lt := dueLess) swo_due anti_due _ _ p1 s1
  obtain ⟨hs, hp⟩ := openD_sorted h
  have hsz : (openD l).toArray.size = (opens l).toArray.size := by simpa using hp.length_eq
  have e2 := Go.Sort.sorted_unique_holds (lt := dueLess) swo_due anti_due (opens l).toArray (openD l).toArray
    ⟨hsz, fun i hi => by
      have hi : (opens l).toArray.size ≤ i := by omega
      rw [getElem!_neg _ _ (by omega), getElem!_neg _ _ (by omega)], by
      rw [show (openD l).toArray.extract 0 (opens l).toArray.size = (openD l).toArray from by rw [← hsz]; exact Array.extract_size, show (opens l).toArray.extract 0 (opens l).toArray.size = (opens l).toArray from Array.extract_size]
      simpa using hp⟩
    (fun i j _ hij hj => by
      have hj2 : j < (openD l).length := by simp at hsz hj; omega
      rw [getElem!_pos _ j (by simpa using hj2), getElem!_pos _ i (by simp; omega)]
      have := hs.get hij (List.getElem?_eq_getElem (by omega)) (List.getElem?_eq_getElem hj2)
      simp only [List.getElem_toArray]
      exact dueLess_not.2 (by have := dueLess_iff.1 this; omega))
  rw [e1, ← e2]
end Go.G8
namespace Go.Proofs.YtemfcogdjmjplaaGreat
open Go.RowKit Go.G8

end Go.Proofs.YtemfcogdjmjplaaGreat

-- The row that a sort leaves.
set_option linter.unusedSimpArgs false
set_option linter.unusedVariables false
namespace Go.Proofs.YtemfcogdjmjplaaGreat
open Go.RowKit Go.G8

end Go.Proofs.YtemfcogdjmjplaaGreat
namespace Go.G8
open Go.RowKit
open Go.Proofs.YtemfcogdjmjplaaGreat
open Go.Sort
theorem flat_due (q : List DDue) (t : Nat) (h : t < q.length * 2) : (Go.Sort.flatK encD 2 q.toArray)[t]? = ((dues q).map (Value.int .i64))[t]? := by
  have hsz : (Go.Sort.flatK encD 2 q.toArray).size = q.length * 2 := by rw [Go.Sort.size_flatK]; simp
  have hd : t / 2 < q.length := Nat.div_lt_of_lt_mul (by omega)
  have hg := flat_get DDue.ints (n := 2) (fun _ => rfl) q (t / 2) (t % 2) q[t / 2] (List.getElem?_eq_getElem hd) (Nat.mod_lt _ (by decide))
  have he : t / 2 * 2 + t % 2 = t := by omega
  rw [he] at hg
  rw [List.getElem?_map, show (dues q)[t]? = _ from hg]
  have h1 : (Go.Sort.flatK encD 2 q.toArray)[t]? = some ((Go.Sort.flatK encD 2 q.toArray)[t]!) := by
    rw [getElem!_pos _ t (by omega)]; exact Array.getElem?_eq_getElem (by omega)
  rw [h1, Go.Sort.get_flatK encD 2 q.toArray t (by simpa using h)]
  have h2 : q.toArray[t / 2]! = q[t / 2] := by rw [getElem!_pos _ _ (by simpa using hd)]; simp
  rw [h2]
  have hm : t % 2 = 0 ∨ t % 2 = 1 := by omega
  rcases hm with hm | hm <;> rw [hm] <;> rfl
theorem blk_sorted {w : World} {X : Nat} {t : TypeId} {cur : Array Value} (h : Blk w X t cur) (F : Array Value) (m : Nat) (os : Array Obj) : Blk (grow (putRow id (Go.Sort.ahead w m) X 0 F) os) X t (putCells id 0 F cur) := by
  have hl := h.lt
  unfold Blk at h ⊢
  show ((w.heap.modify X (onCells (putCells id 0 F))) ++ os)[X]? = _
  rw [Array.getElem?_append_left (by simpa using hl), Array.getElem?_modify, if_pos rfl, h]
  rfl
theorem upd_sorted {w : World} {X : Nat} (F : Array Value) (m : Nat) (os : Array Obj) : Upd w (grow (putRow id (Go.Sort.ahead w m) X 0 F) os) [X] := by
  refine ⟨rfl, rfl, rfl, ?_, fun k hk hn => ?_⟩
  · show w.heap.size ≤ ((w.heap.modify X (onCells (putCells id 0 F))) ++ os).size
    simp
  · show ((w.heap.modify X (onCells (putCells id 0 F))) ++ os)[k]? = _
    have hne : ¬ X = k := fun e => hn (by simp [e])
    rw [Array.getElem?_append_left (by simpa using hk), Array.getElem?_modify, if_neg hne]
theorem holds_due {w : World} {X : Nat} {t : TypeId} {cur : Array Value} {q : List DDue} (h : Blk w X t cur) (hp : Pre cur (q.length * 2) ((dues q).map (Value.int .i64))) : Go.Sort.HoldsK encD 2 w X 0 q.toArray := by
  intro j hj
  have hj2 : j < q.length * 2 := by rw [Go.Sort.size_flatK] at hj; simpa using hj
  refine ⟨?_, h.frozen _⟩
  rw [h.cell, Nat.zero_add, hp j hj2, ← flat_due q j hj2]
  rw [getElem!_pos _ j hj]
  exact Array.getElem?_eq_getElem hj
theorem own_sorted {w : World} {B X cap : Nat} {t : TypeId} {cur : Array Value} {q q' : List DDue} (h : Blk w X t cur) (hB : B ≤ X) (hs : cur.size = cap * 2) (hc : q.length ≤ cap) (hm : cap ≤ maxLen) (hl : q'.length = q.length) (m : Nat) (os : Array Obj) :
    OwnI B t 2 (Go.Proofs.sortWorldK encD 2 w X 0 m q'.toArray os) (.slice (some ⟨X, 0, none⟩) q.length cap) (dues q') := by
  refine Own.of_blk (cur := putCells id 0 (Go.Sort.flatK encD 2 q'.toArray) cur) (blk_sorted h _ _ _) hB (by simp [putCells, hs]) (by simp [length_dues, hl]) hc hm (fun j hj => ?_)
  have hj2 : j < q'.length * 2 := by omega
  have hF : (Go.Sort.flatK encD 2 q'.toArray).size = q'.length * 2 := by rw [Go.Sort.size_flatK]; simp
  have hjc : j < cur.size := by rw [hs]; have := Nat.mul_le_mul_right 2 hc; omega
  rw [← flat_due q' j hj2]
  unfold putCells
  rw [Array.getElem?_mapIdx, Array.getElem?_eq_getElem hjc]
  simp only [Option.map_some, Nat.zero_le, true_and, Nat.zero_add, Nat.sub_zero, hF, hj2, if_true, id_eq]
  rw [getElem!_pos _ j (by omega)]
  exact (Array.getElem?_eq_getElem (by omega)).symm
end Go.G8
namespace Go.Proofs.YtemfcogdjmjplaaGreat
open Go.RowKit Go.G8

end Go.Proofs.YtemfcogdjmjplaaGreat

-- The contract of slices.SortFunc and bits.Len laid at this seat (printed by the kit).
namespace Go.Proofs
open Go.Shelf
def Tryz.sortDue_ren : Go.Shelf.Ren := ⟨fun | 6 => 146 | 15 => 202 | 14 => 201 | 28 => 251 | 29 => 252 | 20 => 243 | 21 => 244 | 22 => 245 | 23 => 246 | 24 => 247 | 25 => 248 | 26 => 249 | 27 => 250 | 46 => 272 | 47 => 273 | 48 => 274 | 49 => 275 | 50 => 276 | 57 => 289 | n => n, fun | 22 => 77 | 24 => 182 | 25 => 189 | 3 => 3 | 39 => 225 | 0 => 0 | 53 => 258 | 55 => 260 | 4 => 4 | 46 => 251 | 45 => 250 | 50 => 255 | 5 => 5 | 9 => 9 | 66 => 275 | 70 => 279 | 76 => 290 | 77 => 291 | n => n, fun | n => n⟩
theorem Tryz.sortDue : Go.Proofs.SlLaysF0.n6 Tryz.prog Tryz.sortDue_ren := {
  mixed := by kernel_rfl
  f6 := ⟨Tryz.f146.name, by decide, Tryz.func146.trans (congrArg some (by kernel_rfl))⟩
  f14 := ⟨Tryz.f201.name, by decide, Tryz.func201.trans (congrArg some (by kernel_rfl))⟩
  f15 := Tryz.func202.trans (congrArg some (by kernel_rfl))
  f20 := ⟨Tryz.f243.name, by decide, Tryz.func243.trans (congrArg some (by kernel_rfl))⟩
  f21 := ⟨Tryz.f244.name, by decide, Tryz.func244.trans (congrArg some (by kernel_rfl))⟩
  f22 := ⟨Tryz.f245.name, by decide, Tryz.func245.trans (congrArg some (by kernel_rfl))⟩
  f23 := ⟨Tryz.f246.name, by decide, Tryz.func246.trans (congrArg some (by kernel_rfl))⟩
  f24 := ⟨Tryz.f247.name, by decide, Tryz.func247.trans (congrArg some (by kernel_rfl))⟩
  f25 := ⟨Tryz.f248.name, by decide, Tryz.func248.trans (congrArg some (by kernel_rfl))⟩
  f26 := ⟨Tryz.f249.name, by decide, Tryz.func249.trans (congrArg some (by kernel_rfl))⟩
  f27 := ⟨Tryz.f250.name, by decide, Tryz.func250.trans (congrArg some (by kernel_rfl))⟩
  f28 := Tryz.func251.trans (congrArg some (by kernel_rfl))
  f29 := Tryz.func252.trans (congrArg some (by kernel_rfl))
  f46 := ⟨Tryz.f272.name, by decide, Tryz.func272.trans (congrArg some (by kernel_rfl))⟩
  f47 := Tryz.func273.trans (congrArg some (by kernel_rfl))
  f48 := Tryz.func274.trans (congrArg some (by kernel_rfl))
  f49 := ⟨Tryz.f275.name, by decide, Tryz.func275.trans (congrArg some (by kernel_rfl))⟩
  f50 := ⟨Tryz.f276.name, by decide, Tryz.func276.trans (congrArg some (by kernel_rfl))⟩
  f57 := ⟨Tryz.f289.name, by decide, Tryz.func289.trans (congrArg some (by kernel_rfl))⟩
  t0 := Tryz.underlying0
  a0 := Tryz.isAgg0
  z0 := Tryz.sizeOf0
  v0 := Tryz.zeroValue0
  t3 := Tryz.underlying3
  a3 := Tryz.isAgg3
  z3 := Tryz.sizeOf3
  v3 := Tryz.zeroValue3
  t4 := Tryz.underlying4
  a4 := Tryz.isAgg4
  z4 := Tryz.sizeOf4
  v4 := Tryz.zeroValue4
  t5 := Tryz.underlying5
  a5 := Tryz.isAgg5
  z5 := Tryz.sizeOf5
  v5 := Tryz.zeroValue5
  t9 := Tryz.underlying9
  a9 := Tryz.isAgg9
  z9 := Tryz.sizeOf9
  v9 := Tryz.zeroValue9
  t22 := Tryz.underlying77
  a22 := Tryz.isAgg77
  z22 := Tryz.sizeOf77
  v22 := Tryz.zeroValue77
  t25 := Tryz.underlying189
  a25 := Tryz.isAgg189
  z25 := Tryz.sizeOf189
  v25 := Tryz.zeroValue189
  t39 := Tryz.underlying225
  a39 := Tryz.isAgg225
  z39 := Tryz.sizeOf225
  v39 := Tryz.zeroValue225
  t45 := Tryz.underlying250
  a45 := Tryz.isAgg250
  z45 := Tryz.sizeOf250
  v45 := Tryz.zeroValue250
  t46 := Tryz.underlying251
  a46 := Tryz.isAgg251
  z46 := Tryz.sizeOf251
  v46 := Tryz.zeroValue251
  t50 := Tryz.underlying255
  a50 := Tryz.isAgg255
  z50 := Tryz.sizeOf255
  v50 := Tryz.zeroValue255
  t53 := Tryz.underlying258
  a53 := Tryz.isAgg258
  z53 := Tryz.sizeOf258
  v53 := Tryz.zeroValue258
  t55 := Tryz.underlying260
  a55 := Tryz.isAgg260
  z55 := Tryz.sizeOf260
  v55 := Tryz.zeroValue260
  t66 := Tryz.underlying275
  a66 := Tryz.isAgg275
  z66 := Tryz.sizeOf275
  v66 := Tryz.zeroValue275
  t70 := Tryz.underlying279
  a70 := Tryz.isAgg279
  z70 := Tryz.sizeOf279
  v70 := Tryz.zeroValue279
  t76 := Tryz.underlying290
  a76 := Tryz.isAgg290
  z76 := Tryz.sizeOf290
  v76 := Tryz.zeroValue290
  t77 := Tryz.underlying291
  a77 := Tryz.isAgg291
  z77 := Tryz.sizeOf291
  v77 := Tryz.zeroValue291 }
def Tryz.bitsLen_ren : Go.Shelf.Ren := ⟨fun | 125 => 202 | 128 => 251 | 129 => 252 | n => n, fun | 46 => 225 | 3 => 3 | 51 => 258 | 53 => 260 | 4 => 4 | 5 => 5 | 9 => 9 | n => n, fun | n => n⟩
theorem Tryz.bitsLen : Go.Proofs.Lays.n125 Tryz.prog Tryz.bitsLen_ren := {
  mixed := by kernel_rfl
  f125 := Tryz.func202.trans (congrArg some (by kernel_rfl))
  f128 := Tryz.func251.trans (congrArg some (by kernel_rfl))
  f129 := Tryz.func252.trans (congrArg some (by kernel_rfl))
  t3 := Tryz.underlying3
  a3 := Tryz.isAgg3
  z3 := Tryz.sizeOf3
  v3 := Tryz.zeroValue3
  t4 := Tryz.underlying4
  a4 := Tryz.isAgg4
  z4 := Tryz.sizeOf4
  v4 := Tryz.zeroValue4
  t5 := Tryz.underlying5
  a5 := Tryz.isAgg5
  z5 := Tryz.sizeOf5
  v5 := Tryz.zeroValue5
  t9 := Tryz.underlying9
  a9 := Tryz.isAgg9
  z9 := Tryz.sizeOf9
  v9 := Tryz.zeroValue9
  t46 := Tryz.underlying225
  a46 := Tryz.isAgg225
  z46 := Tryz.sizeOf225
  v46 := Tryz.zeroValue225
  t51 := Tryz.underlying258
  a51 := Tryz.isAgg258
  z51 := Tryz.sizeOf258
  v51 := Tryz.zeroValue258
  t53 := Tryz.underlying260
  a53 := Tryz.isAgg260
  z53 := Tryz.sizeOf260
  v53 := Tryz.zeroValue260 }
end Go.Proofs

-- OpenJobs of the program.
set_option linter.unusedSimpArgs false
set_option linter.unusedVariables false
namespace Go.Proofs.YtemfcogdjmjplaaGreat
open Go.RowKit Go.G8 Go.Shelf Go.Lib Go.Sort

end Go.Proofs.YtemfcogdjmjplaaGreat
namespace Go.G8
open Go.RowKit
open Go.Proofs.YtemfcogdjmjplaaGreat
theorem own_blk {B : Nat} {t : TypeId} {w : World} {X n cap : Nat} {q : List DDue} (h : OwnI B t 2 w (.slice (some ⟨X, 0, none⟩) n cap) (dues q)) :
    ∃ cur, n = q.length ∧ B ≤ X ∧ Blk w X t cur ∧ q.length ≤ cap ∧ cap ≤ maxLen ∧ cur.size = cap * 2 ∧ Pre cur (q.length * 2) ((dues q).map (Value.int .i64)) := by
  obtain ⟨len, h0, ⟨h1, _⟩ | ⟨g, cap', cur, hv, hb, hg, h1, h2, h3, h4⟩⟩ := h
  · cases h1
  · injection hv with e1 e2 e3
    injection e1 with e1
    injection e1 with e1
    subst e1; subst e2; subst e3
    have hl : n = q.length := by simp only [List.length_map, length_dues] at h0; omega
    subst hl
    refine ⟨cur, rfl, hb, hg, h1, h2, h3, fun j hj => ?_⟩
    rw [← h4, List.getElem?_take, if_pos hj, Array.getElem?_toList]
theorem filt_snoc {l : List DJob} {k : Nat} {d : DJob} (hd : l[k]? = some d) (h : d.Fired = 0) : (l.take (k + 1)).filter (fun j => decide (j.Fired = 0)) = (l.take k).filter (fun j => decide (j.Fired = 0)) ++ [d] := by
  rw [take_snoc hd, List.filter_append]; simp [h]
theorem filt_skip {l : List DJob} {k : Nat} {d : DJob} (hd : l[k]? = some d) (h : ¬ d.Fired = 0) : (l.take (k + 1)).filter (fun j => decide (j.Fired = 0)) = (l.take k).filter (fun j => decide (j.Fired = 0)) := by
  rw [take_snoc hd, List.filter_append]; simp [h]
theorem Ext.grownOwn2 {a w w' : World} {B : Nat} {e : TypeId} {n : Nat} {v : Value} {xs : List Int} (h : Ext a w) (ho : OwnI B e n w v xs) (hg : w.grownBy w' v.ownBlock) (hB : a.heap.size ≤ B) : Ext a w' :=
  (Upd.app (h.upd []) ho (.inr hB) hg).below (by simp) (Nat.le_refl _)
def dueOf (j : DJob) : DDue := ⟨j.Id, j.Due⟩
theorem map_snoc {l : List DJob} {k : Nat} {d : DJob} (hd : l[k]? = some d) : (l.take (k + 1)).map dueOf = (l.take k).map dueOf ++ [⟨d.Id, d.Due⟩] := by
  rw [take_snoc hd, List.map_append]; rfl
theorem dues_one (l : List DDue) (d : DDue) : dues (l ++ [d]) = dues l ++ [d.Id, d.Due] := by simp [dues, DDue.ints]
end Go.G8
namespace Go.Proofs.YtemfcogdjmjplaaGreat
open Go.RowKit Go.G8
set_option maxHeartbeats 4000000 in
set_option maxRecDepth 100000 in
theorem chosen_c {w : World} {v : Value} {l : List DJob} (h : Ints 5 w v (flJob l)) (hl : l.length ≤ 8) : Calls Tryz.prog 144 #[v, .func (.func 145) #[] #[]] w (Ret w fun r w' => OwnI w.heap.size 138 5 w' r (flJob (l.filter (fun j => decide (j.Fired = 0))))) := by
  obtain ⟨i0, hi, hy0, hy1, hy2⟩ := info_parts info_Job
  obtain ⟨a, cap, rfl, hcap, hm, ha⟩ := h.recs (f := DJob.ints) (fun _ => rfl) (by decide)
  have HA := Lib.hid ha
  clear ha h
  unfold maxLen at hm
  go_enter Tryz.func144, Tryz.ntmps144
  go_wp2_with fail
  go_loopw [5, 11] (fun out i wr => ∃ (k : Nat) (q : List DJob), k ≤ l.length ∧ i = .int .i64 k ∧ Ext w wr ∧ OwnI w.heap.size 138 5 wr out (flJob q) ∧ q.length ≤ k ∧ Hid (q = (l.take k).filter (fun j => decide (j.Fired = 0)))) (fun _ i _ => l.length - (intOf i).toNat)
  case atStart => exact ⟨0, [], Nat.zero_le _, rfl, (Ext.refl _).alloc _, OwnI.lit0 w _ _, Nat.le_refl _, Lib.hid (by simp)⟩
  case round =>
    obtain ⟨k, q, hk, rfl, he, hown, hq, HQ⟩ := hrel
    obtain ⟨a0, n0, c0, rfl⟩ := hown.shape
    obtain ⟨w0, hw⟩ : ∃ w0, w0 = wr := ⟨_, rfl⟩
    subst hw
    have hsz := he.size
    by_cases hlt : k < l.length
    · obtain ⟨d, b1, o1, hd, rfl, hb1, hc⟩ := HA.out k hlt
      have x0 := he.cell (hc 0 _ (by decide) rfl); have x1 := he.cell (hc 1 _ (by decide) rfl); have x2 := he.cell (hc 2 _ (by decide) rfl); have x3 := he.cell (hc 3 _ (by decide) rfl); have x4 := he.cell (hc 4 _ (by decide) rfl)
      simp only [Nat.add_zero] at x0
      have HD := Lib.hid hd
      clear hc hd
      have hltI : (k : Int) < (l.length : Int) := by omega
      by_cases hf : d.Fired = 0
      · have HF := Lib.hid hf
        have hdd : decide ((⟨d.Id, d.Due, d.Key, d.Value, d.Fired⟩ : DJob).Fired = 0) = true := by simp [hf]
        clear hf
        go_wp2_with fail
        refine (open_e _ _ _ _ _ _).mono ?_
        rintro e w1 ⟨rfl, hx1⟩
        rw [hdd]
        have KB1 : Blk w1 w0.heap.size 138 #[.int .i64 d.Id, .int .i64 d.Due, .int .i64 d.Key, .int .i64 d.Value, .int .i64 d.Fired] := (Blk.new _ _ _).ext hx1
        have E1 : Ext w0 w1 := ((Ext.refl _).alloc _).trans hx1
        have CB1 := KB1.cell; have FB1 := KB1.frozen; have LB1 := KB1.lt
        have hz1 := E1.size
        clear hx1 x0 x1 x2 x3 x4
        have OO : OwnI w.heap.size 138 5 (w1.alloc (.cells #[.int .i64 d.Id, .int .i64 d.Due, .int .i64 d.Key, .int .i64 d.Value, .int .i64 d.Fired] 138)) (.slice a0 n0 c0) (flJob q) := OwnI.ext1 (OwnI.ext1 hown E1) ((Ext.refl _).alloc _)
        go_wp2_with (first | (at_builtin; go_loud (refine wp_appendU rfl _ _ 43 rfl 138 i0 _ 5 40 Tryz.underlying43 hi hy0 hy1 hy2 rfl (by decide) w.heap.size _ _ rfl OO _ [d.Id, d.Due, d.Key, d.Value, d.Fired] rfl (Sl.oneAt _ #[.int .i64 d.Id, .int .i64 d.Due, .int .i64 d.Key, .int .i64 d.Value, .int .i64 d.Fired] _ 5 _ (by first | rfl | simp) rfl) 1000 (by simp only [length_flJob, List.length_cons, List.length_nil]; omega) (by omega) (by omega) (by simp only [World.size_alloc]; omega) ?_; rotate_right; intro vv w2 On h3)))
        go_roundw
        case rel => exact ⟨k + 1, q ++ [d], by omega, by go_num, Ext.grownOwn2 ((he.trans E1).alloc _) OO h3 (Nat.le_refl _), by (rw [flJob_one]; exact On), by simp; omega, Lib.hid (by rw [filt_snoc HD.out HF.out, ← HQ.out])⟩
        case measure => simp [intOf]; omega
      · have HF := Lib.hid hf
        have hdd : decide ((⟨d.Id, d.Due, d.Key, d.Value, d.Fired⟩ : DJob).Fired = 0) = false := by simp [hf]
        clear hf
        go_wp2_with fail
        refine (open_e _ _ _ _ _ _).mono ?_
        rintro e w1 ⟨rfl, hx1⟩
        rw [hdd]
        have E1 : Ext w0 w1 := ((Ext.refl _).alloc _).trans hx1
        clear hx1 x0 x1 x2 x3 x4
        go_wp2_with fail
        go_roundw
        case rel => exact ⟨k + 1, q, by omega, by go_num, he.trans E1, OwnI.ext1 hown E1, by omega, Lib.hid (by rw [filt_skip HD.out HF.out, ← HQ.out])⟩
        case measure => simp [intOf]; omega
    · obtain rfl : k = l.length := by omega
      go_wp2_with fail
      go_ret
      have e := HQ.out
      rw [List.take_length] at e
      exact ⟨_, rfl, he, by rw [← e]; exact hown⟩
theorem due_lays (X n : Nat) (w : World) : CmpLays Tryz.prog 147 #[] encD 2 cmpD X 0 n w := fun _ _ _ _ x y => dueCmp_c _ x y
theorem due_len (n : Nat) (W : World) (h : n ≤ 12) : Calls Tryz.prog 202 #[.int .u64 n] W fun e w' => (∃ l : Int, e = .returned (.int .i64 l)) ∧ w' = W :=
  (Any.bits_Len Tryz.bitsLen n W (by omega) (by omega)).mono fun _ _ ⟨he, hw⟩ => ⟨⟨_, he⟩, hw⟩
theorem sortDue_c {w : World} {B X n cap : Nat} {l : List DJob} (hj : jobsOk l = true) (hO : OwnI B 182 2 w (.slice (some ⟨X, 0, none⟩) n cap) (dues (opens l))) :
    Calls Tryz.prog 146 #[.slice (some ⟨X, 0, none⟩) n cap, .func (.func 147) #[] #[]] w (fun e w' => e = .returned (.tuple #[]) ∧ Upd w w' [X] ∧ OwnI B 182 2 w' (.slice (some ⟨X, 0, none⟩) n cap) (dues (openD l))) := by
  obtain ⟨cur, rfl, hB, hb, h1, h2, h3, h4⟩ := own_blk hO
  have h8 : (opens l).length ≤ 8 := Nat.le_trans (opens_len l) (jobsOk_len hj)
  have eg : ∀ args w, (callFunc 147 args).run Tryz.prog w = .ok (.enter 147 args) w := enters_of Tryz.func147 (by kernel_rfl) rfl
  have hcon := AnyQ.slices_SortFunc_small Tryz.sortDue 2 Tryz.isAgg182 Tryz.sizeOf182 encD (fun _ => rfl) (fun x v hv => by simp [encD] at hv; rcases hv with rfl | rfl <;> rfl) cmpD 147 #[] X 0 cap (opens l).toArray w eg (due_lays X _ w) (holds_due hb h4) hb.lt (by simp; omega) due_len
  change Calls Tryz.prog 146 _ _ _ at hcon
  have hs : (opens l).toArray.size = (opens l).length := by simp
  rw [hs] at hcon
  refine hcon.mono ?_
  rintro e w' ⟨rfl, m, os, rfl⟩
  have e1 : Go.Sort.insertionSort (ltOf cmpD) (opens l).toArray 0 (opens l).length = (openD l).toArray := by
    have := sort_open hj
    rw [hs] at this
    rw [← this]
  rw [e1]
  exact ⟨rfl, upd_sorted _ _ _, own_sorted hb hB h3 h1 h2 (openD_sorted hj).2.length_eq _ _⟩
set_option maxHeartbeats 4000000 in
set_option maxRecDepth 100000 in
theorem openJobs_c {w : World} {v : Value} {l : List DJob} (h : Ints 5 w v (flJob l)) : Calls Tryz.prog 74 #[v] w (Ret w fun r w' => OwnI w.heap.size 182 2 w' r (dues (openD l))) := by
  obtain ⟨i0, hi, hy0, hy1, hy2⟩ := info_parts info_Due
  have HV := Lib.hid h
  clear h
  cases hj : jobsOk l
  · have HM := Lib.hid (show openD l = [] from by simp [openD, hj])
    go_enter Tryz.func74, Tryz.ntmps74
    go_wp2_with fail
    refine (jobsOk_c _ _ _ HV.out).mono ?_
    rintro e w1 ⟨rfl, hx1⟩
    rw [hj]
    go_wp2_with fail
    go_ret
    exact ⟨_, rfl, hx1, by rw [HM.out]; exact OwnI.nil _ _ _ _⟩
  have h8 := jobsOk_len hj
  have HJ := Lib.hid hj
  go_enter Tryz.func74, Tryz.ntmps74
  go_wp2_with fail
  refine (jobsOk_c _ _ _ HV.out).mono ?_
  rintro e w1 ⟨rfl, hx1⟩
  rw [hj]
  clear hj
  have hz1 := hx1.size
  go_wp2_with fail
  refine (chosen_c (HV.out.ext (hx1.trans ((Ext.refl _).alloc _))) h8).mono ?_
  rintro e w2 ⟨_, rfl, hx2, hf⟩
  obtain ⟨f, hff⟩ : ∃ f, f = l.filter (fun j => decide (j.Fired = 0)) := ⟨_, rfl⟩
  have hfl : f.length ≤ 8 := by rw [hff]; exact Nat.le_trans (List.length_filter_le _ _) h8
  rw [← hff] at hf
  have HFF := Lib.hid hff
  clear hff
  have hz2 := hx2.size; (try simp only [World.size_alloc] at hz2)
  have E2 : Ext w w2 := hx1.trans (((Ext.refl _).alloc _).trans hx2)
  have O2 : OwnI w.heap.size 182 2 w2 (.slice (some ⟨w1.heap.size, 0, none⟩) 0 0) (dues []) := (OwnI.ext1 (OwnI.lit0 w1 182 2) hx2).mono hz1
  clear hx1 hx2
  obtain ⟨a, cap, rfl, hcap, hm, ha⟩ := hf.ints.recs (f := DJob.ints) (fun _ => rfl) (by decide)
  clear ha
  unfold maxLen at hm
  go_wp2_with fail
  go_loopw [3, 13] (fun out i wr => ∃ (k : Nat) (q : List DDue) (X n c : Nat), k ≤ f.length ∧ i = .int .i64 k ∧ Ext w wr ∧ OwnI w.heap.size 138 5 wr (.slice a f.length cap) (flJob f) ∧ out = .slice (some ⟨X, 0, none⟩) n c ∧ OwnI w.heap.size 182 2 wr (.slice (some ⟨X, 0, none⟩) n c) (dues q) ∧ q.length = k ∧ Hid (q = (f.take k).map dueOf)) (fun _ i _ => f.length - (intOf i).toNat)
  case atStart => exact ⟨0, [], _, _, _, Nat.zero_le _, rfl, E2, hf.mono (by simp only [World.size_alloc]; omega), rfl, O2, rfl, Lib.hid (by simp)⟩
  case round =>
    clear hf
    obtain ⟨k, q, X, n, c, hk, rfl, he, hfo, rfl, hown, hq, HQ⟩ := hrel
    obtain ⟨w0, hw⟩ : ∃ w0, w0 = wr := ⟨_, rfl⟩
    subst hw
    have hsz := he.size
    by_cases hlt : k < f.length
    · obtain ⟨_, _, hev, _, _, ha⟩ := hfo.ints.recs (f := DJob.ints) (fun _ => rfl) (by decide)
      injection hev with he1 he2 he3
      subst he1; subst he3
      obtain ⟨d, b1, o1, hd, rfl, hb1, hc⟩ := ha k hlt
      have x0 := hc 0 _ (by decide) rfl; have x1 := hc 1 _ (by decide) rfl; have x2 := hc 2 _ (by decide) rfl; have x3 := hc 3 _ (by decide) rfl; have x4 := hc 4 _ (by decide) rfl
      simp only [Nat.add_zero] at x0
      have HD := Lib.hid hd
      clear hc hd ha he2
      have hltI : (k : Int) < (f.length : Int) := by omega
      have OO : OwnI w.heap.size 182 2 ((w0.alloc (.cells #[.int .i64 d.Id, .int .i64 d.Due, .int .i64 d.Key, .int .i64 d.Value, .int .i64 d.Fired] 138)).alloc (.cells #[.int .i64 d.Id, .int .i64 d.Due] 182)) (.slice (some ⟨X, 0, none⟩) n c) (dues q) := OwnI.ext1 hown (((Ext.refl _).alloc _).alloc _)
      go_wp2_with (first | (at_builtin; go_loud (refine wp_appendU rfl _ _ 77 rfl 182 i0 _ 2 16 Tryz.underlying77 hi hy0 hy1 hy2 rfl (by decide) w.heap.size _ _ rfl OO _ [d.Id, d.Due] rfl (Sl.oneAt _ #[.int .i64 d.Id, .int .i64 d.Due] _ 2 _ (by first | rfl | simp) rfl) 1000 (by simp only [length_dues, List.length_cons, List.length_nil]; omega) (by omega) (by omega) (by simp only [World.size_alloc]; omega) ?_; rotate_right; intro vv w4 On h3)))
      have On2 : OwnI w.heap.size 182 2 w4 vv (dues (q ++ [⟨d.Id, d.Due⟩])) := by rw [dues_one]; exact On
      obtain ⟨ta, tn, tc, rfl, htl, _, _, hor⟩ := Own.open_ On2
      have htn : tn ≠ 0 := by simp [length_dues] at htl; omega
      rcases hor with h0 | ⟨X2, cur, rfl, _⟩
      · exact absurd h0 htn
      go_roundw
      case rel => exact ⟨k + 1, q ++ [⟨d.Id, d.Due⟩], _, _, _, by omega, by go_num, Ext.grownOwn2 (Ext.trans he (((Ext.refl _).alloc _).alloc _)) OO h3 (Nat.le_refl _), OwnI.app (OwnI.ext1 hfo (((Ext.refl _).alloc _).alloc _)) OO (by decide) h3, rfl, On2, by simp; omega, Lib.hid (by rw [map_snoc HD.out, ← HQ.out])⟩
      case measure => simp [intOf]; omega
    · obtain rfl : k = f.length := by omega
      have hqo : q = opens l := by
        have e := HQ.out
        rw [List.take_length, HFF.out] at e
        exact e
      subst hqo
      go_wp2_with fail
      refine (sortDue_c HJ.out hown).mono ?_
      rintro e w5 ⟨rfl, U5, O5⟩
      go_wp2_with fail
      go_ret
      exact ⟨_, rfl, he.upd_below U5 (fun x hx => by have := hown.foot X (by simp [feet, Value.ownBlock]); simp at hx; omega), O5⟩

end Go.Proofs.YtemfcogdjmjplaaGreat
