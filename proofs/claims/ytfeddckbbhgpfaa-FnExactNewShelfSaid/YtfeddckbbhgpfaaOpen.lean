/- Arguments opened: from the reading as data to cells and lists. -/
import Derived.Test.YtfeddckbbhgpfaaRows
import Derived.Test.YtfeddckbbhgpfaaBase
import Derived.Test.YtfeddckbbhgpfaaModel
import Derived.ProofKit
import Derived.OpenShut
import Derived.ChangeOld
import Derived.Deep.Slices
namespace Go.Proofs.Ytfeddckbbhgpfaa
open Go.ChangeShapes Go.WideShapes Go.ChangeAt Go.RowKit Go.G8

theorem own : ownKnob Try.prog.godebug = none := by kernel_rfl
theorem laidOut : laidOutB Try.prog = true := by kernel_rfl

section
variable {H : Type} {enc : TypeId × Value → H} {W : World} {base : Nat} {sp : Nat → Bool} {held : Bool}

/-- One field of a struct that reads. -/
theorem rd_field {t : TypeId} {fs : Array Field} {fuel : Nat} {cs : List Value} {x : DataW H × List MemPlace} (ht : Try.prog.underlying t = some (.struct fs)) (h : DataW.trod enc Try.prog W base sp held fuel t cs = some x)
    (i : Nat) (f : Field) (hf : fs[i]? = some f) : ∃ n y, DataW.trod enc Try.prog W base sp held n f.type ((cs.drop f.offset).take (Try.prog.cellsOf f.type)) = some y := by
  obtain ⟨xs, n, _, _, _, hl, hr⟩ := DataW.trod_struct ht h
  have h1 := hr i f hf
  have hi : i < xs.length := by
    rw [hl]
    rcases Nat.lt_or_ge i fs.size with h' | h'
    · exact h'
    · rw [Array.getElem?_eq_none h'] at hf; cases hf
  rw [List.getElem?_eq_getElem hi] at h1
  exact ⟨n, _, h1⟩
theorem rd_len {t : TypeId} {fs : Array Field} {fuel : Nat} {cs : List Value} {x : DataW H × List MemPlace} (ht : Try.prog.underlying t = some (.struct fs)) (h : DataW.trod enc Try.prog W base sp held fuel t cs = some x) : cs.length = Try.prog.cellsOf t := by
  obtain ⟨xs, n, _, _, hl, _, _⟩ := DataW.trod_struct ht h
  exact hl
theorem c_int64 : Try.prog.cellsOf 2 = 1 := by kernel_rfl
theorem c_Due : Try.prog.cellsOf 85 = 2 := by kernel_rfl
theorem c_DueS : Try.prog.cellsOf 30 = 1 := by kernel_rfl
theorem c_Jobs : Try.prog.cellsOf 32 = 6 := by kernel_rfl
theorem c_View : Try.prog.cellsOf 34 = 6 := by kernel_rfl

theorem rd_Due {fuel : Nat} {cs : List Value} {x : DataW H × List MemPlace} (h : DataW.trod enc Try.prog W base sp held fuel 85 cs = some x) : ∃ d : DDue, cs = d.ints.map (.int .i64) := by
  have hl := rd_len Try.underlying85 h
  rw [c_Due] at hl
  obtain ⟨c0, c1, rfl⟩ : ∃ c0 c1, cs = [c0, c1] := by match cs, hl with | [c0, c1], _ => exact ⟨c0, c1, rfl⟩
  obtain ⟨n0, y0, h0⟩ := rd_field Try.underlying85 h 0 _ rfl
  obtain ⟨n1, y1, h1⟩ := rd_field Try.underlying85 h 1 _ rfl
  simp [c_int64] at h0 h1
  obtain ⟨a0, e0, _⟩ := DataW.trod_int Try.underlying2 h0
  obtain ⟨a1, e1, _⟩ := DataW.trod_int Try.underlying2 h1
  simp at e0 e1
  subst e0; subst e1
  exact ⟨⟨a0, a1⟩, rfl⟩
theorem rd_DueS {fuel : Nat} {cs : List Value} {x : DataW H × List MemPlace} (h : DataW.trod enc Try.prog W base sp held fuel 30 cs = some x) : ∃ (s : Value) (l : List DDue), cs = [s] ∧ Ints 2 W s (dues l) := by
  rcases Deep.open_slice Try.underlying30 h with ⟨rfl, _⟩ | ⟨a, len, cap, m, n, D, Pl, rfl, hb, hl, hm, hmm, _, hx⟩
  · exact ⟨_, [], rfl, Ints.nil 2 W⟩
  · have hlm : len ≤ m := by rw [hmm]; split <;> omega
    obtain ⟨l, _, hi⟩ := Ints.of_each (f := DDue.ints) (n := 2) (fun _ => rfl) (by decide) (w := W) (a := a) hl hm (fun i hi => by
      obtain ⟨cs', hc, ht⟩ := hx i (by omega)
      rw [c_Due] at hc
      obtain ⟨d, rfl⟩ := rd_Due ht
      obtain ⟨_, _, hcell⟩ := World.cells?_some hc
      refine ⟨d, fun j u hu => ?_⟩
      have hj : j < 2 := by
        rcases Nat.lt_or_ge j 2 with h' | h'
        · exact h'
        · rw [List.getElem?_eq_none (by simpa [DDue.ints] using h')] at hu; cases hu
      rw [hcell j hj, List.getElem?_map, hu]; rfl)
    exact ⟨_, l, rfl, hi⟩
theorem rd_Jobs {fuel : Nat} {cs : List Value} {x : DataW H × List MemPlace} (h : DataW.trod enc Try.prog W base sp held fuel 32 cs = some x) :
    ∃ (j : DJobs) (s : Value), cs = [.int .i64 j.Index, .int .i64 j.Time, .int .i64 j.Holder, .int .i64 j.Epoch, .int .i64 j.Until, s] ∧ Ints 2 W s (dues j.Open) := by
  have hl := rd_len Try.underlying32 h
  rw [c_Jobs] at hl
  obtain ⟨c0, c1, c2, c3, c4, c5, rfl⟩ : ∃ c0 c1 c2 c3 c4 c5, cs = [c0, c1, c2, c3, c4, c5] := by match cs, hl with | [c0, c1, c2, c3, c4, c5], _ => exact ⟨c0, c1, c2, c3, c4, c5, rfl⟩
  obtain ⟨n0, y0, h0⟩ := rd_field Try.underlying32 h 0 _ rfl
  obtain ⟨n1, y1, h1⟩ := rd_field Try.underlying32 h 1 _ rfl
  obtain ⟨n2, y2, h2⟩ := rd_field Try.underlying32 h 2 _ rfl
  obtain ⟨n3, y3, h3⟩ := rd_field Try.underlying32 h 3 _ rfl
  obtain ⟨n4, y4, h4⟩ := rd_field Try.underlying32 h 4 _ rfl
  obtain ⟨n5, y5, h5⟩ := rd_field Try.underlying32 h 5 _ rfl
  simp [c_int64, c_DueS] at h0 h1 h2 h3 h4 h5
  obtain ⟨a0, e0, _⟩ := DataW.trod_int Try.underlying2 h0
  obtain ⟨a1, e1, _⟩ := DataW.trod_int Try.underlying2 h1
  obtain ⟨a2, e2, _⟩ := DataW.trod_int Try.underlying2 h2
  obtain ⟨a3, e3, _⟩ := DataW.trod_int Try.underlying2 h3
  obtain ⟨a4, e4, _⟩ := DataW.trod_int Try.underlying2 h4
  obtain ⟨s, l, e5, hs⟩ := rd_DueS h5
  simp at e0 e1 e2 e3 e4 e5
  subst e0; subst e1; subst e2; subst e3; subst e4; subst e5
  exact ⟨⟨a0, a1, a2, a3, a4, l⟩, _, rfl, hs⟩
theorem rd_View {fuel : Nat} {cs : List Value} {x : DataW H × List MemPlace} (h : DataW.trod enc Try.prog W base sp held fuel 34 cs = some x) :
    ∃ (j : DJobs) (s : Value), cs = [.int .i64 j.Index, .int .i64 j.Time, .int .i64 j.Holder, .int .i64 j.Epoch, .int .i64 j.Until, s] ∧ Ints 2 W s (dues j.Open) := by
  have hl := rd_len Try.underlying34 h
  rw [c_View] at hl
  obtain ⟨c0, c1, c2, c3, c4, c5, rfl⟩ : ∃ c0 c1 c2 c3 c4 c5, cs = [c0, c1, c2, c3, c4, c5] := by match cs, hl with | [c0, c1, c2, c3, c4, c5], _ => exact ⟨c0, c1, c2, c3, c4, c5, rfl⟩
  obtain ⟨n0, y0, h0⟩ := rd_field Try.underlying34 h 0 _ rfl
  simp [c_Jobs] at h0
  exact rd_Jobs h0
end
end Go.Proofs.Ytfeddckbbhgpfaa
