/- Contracts and plain laws: Nest2 KA KT Q1 Q4. -/
import Derived.Test.YtfhaooaajpopmaaGreatMa
import Derived.Deep.AppendLies
import Derived.Deep.RegionLaw
import Derived.Test.YtfhaooaajpopmaaGreatMb
set_option linter.unusedSimpArgs false
set_option linter.unusedVariables false
set_option maxHeartbeats 8000000
set_option maxRecDepth 100000
namespace Go.G8
open Go.RowKit
theorem Upd.grown {w w' : World} {row : Option Nat} {fs : List Nat} (h : w.grownBy w' row) (hr : ∀ k, row = some k → k ∈ fs) : Upd w w' fs :=
 ⟨h.os, h.tape, h.output, h.size, fun i hi hn => h.block i hi (fun e => hn (hr i e.symm))⟩
theorem Upd.own {a w w' : World} {B : Nat} {e : TypeId} {n : Nat} {v : Value} {cs : List Value} {fs : List Nat} (h : Upd a w fs) (hown : Own B e n w v cs) (hB : a.heap.size ≤ B) (hg : w.grownBy w' v.ownBlock) : Upd a w' fs :=
 ⟨hg.os.trans h.os, hg.tape.trans h.tape, hg.output.trans h.output, Nat.le_trans h.size hg.size, fun i hi hn => (hg.block i (Nat.lt_of_lt_of_le hi h.size) (fun e => by have := (hown.lt e.symm).1; omega)).trans (h.block i hi hn)⟩
section
variable {P : Program} {w : World} {B B2 : Nat} {e e1 : TypeId} {n : Nat} {v : Value} {rows : List NRow} {ss : List Value} {r : NRow} {t : Value}
theorem OwnNs.len (h : OwnNs B e e1 n w v rows ss) : ∃ a cap, v = .slice a rows.length cap ∧ rows.length ≤ cap ∧ cap ≤ maxLen := by
 obtain ⟨a, len, cap, h2, h3, h4, h5, _⟩ := Own.open_ h.2.2.1
 rw [ncells_len h.1 h.2.1] at h3
 have := Nat.eq_of_mul_eq_mul_right oM h3
 subst this
 exact ⟨a, cap, h2, h4, h5⟩
theorem OwnNs.open_ (h : OwnNs B e e1 n w v rows ss) (hp : 0 < rows.length) : ∃ g cap cur, v = .slice (some ⟨g, 0, none⟩) rows.length cap ∧ rows.length ≤ cap ∧ cap ≤ maxLen ∧ B ≤ g ∧ Blk w g e cur ∧
  ∀ i q u, rows[i]? = some q → ss[i]? = some u → (∀ j y, q.1[j]? = some y → cur[i * (n + 1) + j]? = some (.int .i64 y)) ∧ cur[i * (n + 1) + n]? = some u := by
 obtain ⟨a, len, cap, h2, h3, h4, h5, hcase⟩ := Own.open_ h.2.2.1
 have hnl := ncells_len h.1 h.2.1
 have h3' := h3
 rw [hnl] at h3
 have := Nat.eq_of_mul_eq_mul_right oM h3
 subst this
 rcases hcase with hz | ⟨g, cur, rfl, hBg, hblk, hcsz, hpre⟩
 ·
  omega
 refine ⟨g, cap, cur, h2, h4, h5, hBg, hblk, fun i q u hq hu => ⟨fun j y hy => ?_, ?_⟩⟩
 ·
  have hj : j < q.1.length := (List.getElem?_eq_some_iff.1 hy).1
  have hqn := h.1 q (List.mem_of_getElem? hq)
  have h7 := mul_lt_of (List.getElem?_eq_some_iff.1 hq).1 (n + 1)
  rw [hpre _ oM]
  exact ncells_int h.1 hq hu hy
 have h7 := mul_lt_of (List.getElem?_eq_some_iff.1 hq).1 (n + 1)
 rw [hpre _ oM]
 exact ncells_sl h.1 hq hu
end
theorem Own.typed {B : Nat} {e : TypeId} {n : Nat} {w : World} {v : Value} {cs : List Value} (h : Own B e n w v cs) {X : Nat} (hX : v.ownBlock = some X) : ∃ cur, Blk w X e cur := by
 obtain ⟨len, h⟩ := h
 rcases h.2 with ⟨h0, _⟩ | ⟨g, cap, cur, hv, hb, hg, _⟩
 ·
  rw [h0] at hX; simp [Value.ownBlock] at hX
 rw [hv] at hX
 simp [Value.ownBlock] at hX
 subst hX
 exact ⟨cur, hg⟩
theorem Blk.same {w : World} {X : Nat} {t t' : TypeId} {a b : Array Value} (h : Blk w X t a) (k : Blk w X t' b) : t = t' := by
 unfold Blk at h k
 rw [h] at k
 injection k with k; injection k with _ k
theorem OwnNs.typed {B : Nat} {e e1 : TypeId} {n : Nat} {w : World} {v : Value} {rows : List NRow} {ss : List Value} (h : OwnNs B e e1 n w v rows ss) {k : Nat} (hk : k ∈ feet (v :: ss)) : ∃ t cur, Blk w k t cur ∧ (t = e ∨ t = e1) := by
 simp only [feet, List.mem_filterMap] at hk
 obtain ⟨u, hu, hf⟩ := hk
 rcases List.mem_cons.1 hu with rfl | hu
 ·
  obtain ⟨cur, hb⟩ := Own.typed h.2.2.1 hf
  exact ⟨e, cur, hb, .inl rfl⟩
 obtain ⟨i, hi⟩ := List.mem_iff_getElem?.1 hu
 have hlt : i < rows.length := by have := (List.getElem?_eq_some_iff.1 hi).1; have := h.2.1; omega
 obtain ⟨cur, hb⟩ := Own.typed (h.2.2.2.own i u rows[i] hi (List.getElem?_eq_getElem hlt)) hf
 exact ⟨e1, cur, hb, .inr rfl⟩
theorem OwnI.typed {B : Nat} {e : TypeId} {n : Nat} {w : World} {v : Value} {xs : List Int} (h : OwnI B e n w v xs) {k : Nat} (hk : k ∈ feet [v]) : ∃ cur, Blk w k e cur := by
 simp only [feet, List.mem_filterMap] at hk
 obtain ⟨u, hu, hf⟩ := hk
 simp at hu; subst hu
 exact Own.typed h hf
end Go.G8
namespace Go.Proofs.YtfhaooaajpopmaaGreat
open Go.RowKit Go.G8
def RdState (w : World) (v : Value) (s : DState) : Prop := ∃ t2 t3 : Value, v = .agg #[.int .i64 s.Index, .int .i64 s.Time, t2, t3, .int .i64 s.Lease.Holder, .int .i64 s.Lease.Epoch, .int .i64 s.Lease.Until] ∧ Ints 2 w t2 (flPair s.Pairs) ∧ Ints 5 w t3 (flJob s.Jobs)
def OwState (B : Nat) (w : World) (v : Value) (s : DState) (F : List Nat) : Prop := ∃ t2 t3 : Value, v = .agg #[.int .i64 s.Index, .int .i64 s.Time, t2, t3, .int .i64 s.Lease.Holder, .int .i64 s.Lease.Epoch, .int .i64 s.Lease.Until] ∧ OwnI B 122 2 w t2 (flPair s.Pairs) ∧ OwnI B 86 5 w t3 (flJob s.Jobs) ∧ F = feet [t2] ++ feet [t3]
def MkState (B : Nat) (w : World) (v : Value) (s : DState) (F : List Nat) (q : Int) : Prop := ∃ t2 t3 : Value, v = .agg #[.int .i64 s.Index, .int .i64 s.Time, t2, t3, .int .i64 s.Lease.Holder, .int .i64 s.Lease.Epoch, .int .i64 s.Lease.Until] ∧ OwnI B 122 2 w t2 (run q (s.Pairs.length * 2)) ∧ OwnI B 86 5 w t3 (run (q + (s.Pairs.length * 2 : Nat)) (s.Jobs.length * 5)) ∧ F = feet [t2] ++ feet [t3]
section
variable {B B' : Nat} {w w' : World} {v : Value} {s s' : DState} {F : List Nat} {q : Int}
theorem IsState.keep (h : IsState B w v s) (x : Chg B w w') : IsState B w' v s := let ⟨t2, t3, e, h2, h3⟩ := h; ⟨t2, t3, e, h2.keep x, h3.keep x⟩
theorem IsState.mono (h : IsState B w v s) (x : B' ≤ B) : IsState B' w v s := let ⟨t2, t3, e, h2, h3⟩ := h; ⟨t2, t3, e, h2.mono x, h3.mono x⟩
theorem IsState.ext (h : IsState B w v s) (x : Ext w w') : IsState B w' v s := let ⟨t2, t3, e, h2, h3⟩ := h; ⟨t2, t3, e, Own.ext h2 x, Own.ext h3 x⟩
theorem IsState.rd (h : IsState B w v s) : RdState w v s := let ⟨t2, t3, e, h2, h3⟩ := h; ⟨t2, t3, e, h2.ints, h3.ints⟩
theorem RdState.shape (h : RdState w v s) : ∃ a2 n2 k2 a3 n3 k3, v = .agg #[.int .i64 s.Index, .int .i64 s.Time, .slice a2 n2 k2, .slice a3 n3 k3, .int .i64 s.Lease.Holder, .int .i64 s.Lease.Epoch, .int .i64 s.Lease.Until] := by
 obtain ⟨t2, t3, rfl, h2, h3⟩ := h
 obtain ⟨a2, n2, k2, rfl⟩ := h2.shape
 obtain ⟨a3, n3, k3, rfl⟩ := h3.shape
 exact ⟨a2, n2, k2, a3, n3, k3, rfl⟩
theorem RdState.ext (h : RdState w v s) (x : Ext w w') : RdState w' v s := let ⟨t2, t3, e, h2, h3⟩ := h; ⟨t2, t3, e, h2.ext x, h3.ext x⟩
theorem OwState.rd (h : OwState B w v s F) : RdState w v s := let ⟨t2, t3, e, h2, h3, _⟩ := h; ⟨t2, t3, e, h2.ints, h3.ints⟩
theorem OwState.is (h : OwState B w v s F) : IsState B w v s := let ⟨t2, t3, e, h2, h3, _⟩ := h; ⟨t2, t3, e, h2, h3⟩
theorem OwState.ext (h : OwState B w v s F) (x : Ext w w') : OwState B w' v s F := let ⟨t2, t3, e, h2, h3, hF⟩ := h; ⟨t2, t3, e, Own.ext h2 x, Own.ext h3 x, hF⟩
theorem OwState.keep (h : OwState B w v s F) (x : Chg B w w') : OwState B w' v s F := let ⟨t2, t3, e, h2, h3, hF⟩ := h; ⟨t2, t3, e, h2.keep x, h3.keep x, hF⟩
theorem OwState.mono (h : OwState B w v s F) (x : B' ≤ B) : OwState B' w v s F := let ⟨t2, t3, e, h2, h3, hF⟩ := h; ⟨t2, t3, e, h2.mono x, h3.mono x, hF⟩
theorem OwState.upd (h : OwState B w v s F) {fs : List Nat} (x : Upd w w' fs) (hn : ∀ k, k ∈ F → k ∈ fs → False) : OwState B w' v s F := by
 obtain ⟨t2, t3, e, h2, h3, rfl⟩ := h
 exact ⟨t2, t3, e, OwnI.upd' h2 x (fun k h => hn k (List.mem_append_left _ h)), OwnI.upd' h3 x (fun k h => hn k (List.mem_append_right _ h)), rfl⟩
theorem OwState.low (h : OwState B w v s F) : ∀ k, k ∈ F → B ≤ k ∧ k < w.heap.size := by
 obtain ⟨t2, t3, e, h2, h3, rfl⟩ := h
 intro k hk
 rcases List.mem_append.1 hk with h | h
 ·
  exact h2.foot k h
 exact h3.foot k h
theorem MkState.ext (h : MkState B w v s F q) (x : Ext w w') : MkState B w' v s F q := let ⟨t2, t3, e, h2, h3, hF⟩ := h; ⟨t2, t3, e, Own.ext h2 x, Own.ext h3 x, hF⟩
end
def RdShot (w : World) (v : Value) (s : DShot) : Prop := ∃ t2 t3 : Value, v = .agg #[.int .i64 s.Num, .int .i64 s.State.Index, .int .i64 s.State.Time, t2, t3, .int .i64 s.State.Lease.Holder, .int .i64 s.State.Lease.Epoch, .int .i64 s.State.Lease.Until] ∧ Ints 2 w t2 (flPair s.State.Pairs) ∧ Ints 5 w t3 (flJob s.State.Jobs)
def OwShot (B : Nat) (w : World) (v : Value) (s : DShot) (F : List Nat) : Prop := ∃ t2 t3 : Value, v = .agg #[.int .i64 s.Num, .int .i64 s.State.Index, .int .i64 s.State.Time, t2, t3, .int .i64 s.State.Lease.Holder, .int .i64 s.State.Lease.Epoch, .int .i64 s.State.Lease.Until] ∧ OwnI B 122 2 w t2 (flPair s.State.Pairs) ∧ OwnI B 86 5 w t3 (flJob s.State.Jobs) ∧ F = feet [t2] ++ feet [t3]
def MkShot (B : Nat) (w : World) (v : Value) (s : DShot) (F : List Nat) (q : Int) : Prop := ∃ t2 t3 : Value, v = .agg #[.int .i64 s.Num, .int .i64 s.State.Index, .int .i64 s.State.Time, t2, t3, .int .i64 s.State.Lease.Holder, .int .i64 s.State.Lease.Epoch, .int .i64 s.State.Lease.Until] ∧ OwnI B 122 2 w t2 (run q (s.State.Pairs.length * 2)) ∧ OwnI B 86 5 w t3 (run (q + (s.State.Pairs.length * 2 : Nat)) (s.State.Jobs.length * 5)) ∧ F = feet [t2] ++ feet [t3]
section
variable {B B' : Nat} {w w' : World} {v : Value} {s s' : DShot} {F : List Nat} {q : Int}
theorem IsShot.keep (h : IsShot B w v s) (x : Chg B w w') : IsShot B w' v s := let ⟨t2, t3, e, h2, h3⟩ := h; ⟨t2, t3, e, h2.keep x, h3.keep x⟩
theorem IsShot.mono (h : IsShot B w v s) (x : B' ≤ B) : IsShot B' w v s := let ⟨t2, t3, e, h2, h3⟩ := h; ⟨t2, t3, e, h2.mono x, h3.mono x⟩
theorem IsShot.ext (h : IsShot B w v s) (x : Ext w w') : IsShot B w' v s := let ⟨t2, t3, e, h2, h3⟩ := h; ⟨t2, t3, e, Own.ext h2 x, Own.ext h3 x⟩
theorem IsShot.rd (h : IsShot B w v s) : RdShot w v s := let ⟨t2, t3, e, h2, h3⟩ := h; ⟨t2, t3, e, h2.ints, h3.ints⟩
theorem RdShot.shape (h : RdShot w v s) : ∃ a2 n2 k2 a3 n3 k3, v = .agg #[.int .i64 s.Num, .int .i64 s.State.Index, .int .i64 s.State.Time, .slice a2 n2 k2, .slice a3 n3 k3, .int .i64 s.State.Lease.Holder, .int .i64 s.State.Lease.Epoch, .int .i64 s.State.Lease.Until] := by
 obtain ⟨t2, t3, rfl, h2, h3⟩ := h
 obtain ⟨a2, n2, k2, rfl⟩ := h2.shape
 obtain ⟨a3, n3, k3, rfl⟩ := h3.shape
 exact ⟨a2, n2, k2, a3, n3, k3, rfl⟩
theorem RdShot.ext (h : RdShot w v s) (x : Ext w w') : RdShot w' v s := let ⟨t2, t3, e, h2, h3⟩ := h; ⟨t2, t3, e, h2.ext x, h3.ext x⟩
theorem OwShot.rd (h : OwShot B w v s F) : RdShot w v s := let ⟨t2, t3, e, h2, h3, _⟩ := h; ⟨t2, t3, e, h2.ints, h3.ints⟩
theorem OwShot.is (h : OwShot B w v s F) : IsShot B w v s := let ⟨t2, t3, e, h2, h3, _⟩ := h; ⟨t2, t3, e, h2, h3⟩
theorem OwShot.ext (h : OwShot B w v s F) (x : Ext w w') : OwShot B w' v s F := let ⟨t2, t3, e, h2, h3, hF⟩ := h; ⟨t2, t3, e, Own.ext h2 x, Own.ext h3 x, hF⟩
theorem OwShot.keep (h : OwShot B w v s F) (x : Chg B w w') : OwShot B w' v s F := let ⟨t2, t3, e, h2, h3, hF⟩ := h; ⟨t2, t3, e, h2.keep x, h3.keep x, hF⟩
theorem OwShot.mono (h : OwShot B w v s F) (x : B' ≤ B) : OwShot B' w v s F := let ⟨t2, t3, e, h2, h3, hF⟩ := h; ⟨t2, t3, e, h2.mono x, h3.mono x, hF⟩
theorem OwShot.upd (h : OwShot B w v s F) {fs : List Nat} (x : Upd w w' fs) (hn : ∀ k, k ∈ F → k ∈ fs → False) : OwShot B w' v s F := by
 obtain ⟨t2, t3, e, h2, h3, rfl⟩ := h
 exact ⟨t2, t3, e, OwnI.upd' h2 x (fun k h => hn k (List.mem_append_left _ h)), OwnI.upd' h3 x (fun k h => hn k (List.mem_append_right _ h)), rfl⟩
theorem OwShot.low (h : OwShot B w v s F) : ∀ k, k ∈ F → B ≤ k ∧ k < w.heap.size := by
 obtain ⟨t2, t3, e, h2, h3, rfl⟩ := h
 intro k hk
 rcases List.mem_append.1 hk with h | h
 ·
  exact h2.foot k h
 exact h3.foot k h
theorem MkShot.ext (h : MkShot B w v s F q) (x : Ext w w') : MkShot B w' v s F q := let ⟨t2, t3, e, h2, h3, hF⟩ := h; ⟨t2, t3, e, Own.ext h2 x, Own.ext h3 x, hF⟩
end
end Go.Proofs.YtfhaooaajpopmaaGreat
namespace Go.G8
open Go.RowKit
theorem Ext.row {W0 w w' : World} {B n : Nat} {e e1 : TypeId} {v : Value} {rows : List NRow} {ss : List Value} (h : Ext W0 w) (hown : OwnNs B e e1 n w v rows ss) (hB : W0.heap.size ≤ B) (hg : w.grownBy w' v.ownBlock) : Ext W0 w' := Ext.own h hown.2.2.1 hB hg
theorem Sl.sliced {n : Nat} {w : World} {a : Option Addr} {len cap : Nat} {cs : List Value} (h : Sl n w (.slice a len cap) cs) {l m : Nat} (h1 : l ≤ m) (h2 : m ≤ len) : Sl n w (Go.sliced a l m cap n) ((cs.take (m * n)).drop (l * n)) := by
 obtain ⟨a', len', cap', e, hl, hlc, hcm, hnil, hc⟩ := h
 injection e with e1 e2 e3
 subst e1; subst e2; subst e3
 unfold Go.sliced
 refine ⟨_, _, _, rfl, ?_, by omega, by omega, ?_, ?_⟩
 ·
  have h5 := Nat.mul_le_mul_right n h2
  simp only [List.length_drop, List.length_take, Nat.sub_mul]
  omega
 ·
  intro h
  split at h
  ·
   omega
  rw [Option.map_eq_none_iff] at h
  have := hnil h
  omega
 intro b off sp h h0
 rw [if_neg oM, Option.map_eq_some_iff] at h
 obtain ⟨⟨b', off', sp'⟩, rfl, h4⟩ := h
 obtain ⟨rfl, hb, hcell⟩ := hc b' off' sp' rfl oM
 rw [add_lit0] at h4
 injection h4 with h5 h6 h7
 subst h5; subst h6; subst h7
 refine ⟨rfl, hb, fun i u hu => ?_⟩
 rw [Nat.add_assoc]
 apply hcell
 rw [List.getElem?_drop] at hu
 rw [List.getElem?_take] at hu
 split at hu
 ·
  exact hu
 cases hu
theorem Ints.take {w : World} {a : Option Addr} {len cap : Nat} {xs : List Int} (h : Ints 1 w (.slice a len cap) xs) {m : Nat} (h2 : m ≤ len) : Ints 1 w (.slice a m cap) (xs.take m) := by
 obtain ⟨a', len', cap', e, hl, hlc, hcm, hnil, hc⟩ := h
 injection e with e1 e2 e3
 subst e1; subst e2; subst e3
 refine ⟨_, _, _, rfl, by simp at hl ⊢; omega, by omega, hcm, hnil, fun b off sp h h0 => ?_⟩
 obtain ⟨h3, h4, h5⟩ := hc b off sp h oM
 refine ⟨h3, h4, fun i u hu => h5 i u ?_⟩
 rw [List.map_take, List.getElem?_take] at hu
 split at hu
 ·
  exact hu
 cases hu
theorem Ints.sliced {w : World} {a : Option Addr} {len cap : Nat} {xs : List Int} (h : Ints 1 w (.slice a len cap) xs) {l m : Nat} (h1 : l ≤ m) (h2 : m ≤ len) : Ints 1 w (Go.sliced a l m cap 1) ((xs.take m).drop l) := by
 have := Sl.sliced h h1 h2
 simp only [Nat.mul_one, ← List.map_take, ← List.map_drop] at this
 exact this
theorem Ints.drop {w : World} {a : Option Addr} {cap : Nat} {xs : List Int} (h : Ints 1 w (.slice a xs.length cap) xs) {m : Nat} (h1 : m < xs.length) (h2 : xs.length ≤ cap) : Ints 1 w (.slice (a.map (fun x => x.add m)) (xs.length - m) (cap - m)) (xs.drop m) := by
 have := h.sliced (l := m) (Nat.le_of_lt h1) (Nat.le_refl _)
 rw [List.take_length] at this
 unfold Go.sliced at this
 rw [if_neg oM, Nat.mul_one] at this
 exact this
end Go.G8
