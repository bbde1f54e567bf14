/- Contracts and plain laws: DL. -/
import Derived.Test.YtlnkggpemdpemaaGreatYa
import Derived.Deep.DeepCutAuto
import Derived.Test.YtlnkggpemdpemaaGreatXa
import Derived.Test.YtlnkggpemdpemaaGreatYl
import Derived.Test.YtlnkggpemdpemaaGreatXg
import Derived.Test.YtlnkggpemdpemaaGreatYn
import Derived.Test.YtlnkggpemdpemaaGreatXf
import Derived.Test.YtlnkggpemdpemaaGreatXx
set_option linter.unusedSimpArgs false
set_option linter.unusedVariables false
set_option maxHeartbeats 8000000
set_option maxRecDepth 100000
namespace Go.G8
open Go.RowKit
open Go.Proofs.YtlnkggpemdpemaaGreat
theorem fl_take9 : ∀ (l : List DEntry) (k : Nat), (flEntry l).take (k * 9) = flEntry (l.take k)
 | [], k => by simp [flEntry]
 | x :: l, 0 => by simp [flEntry]
 | x :: l, k + 1 => by
  have hx : (DEntry.ints x).length = 9 := rfl
  have e : (k + 1) * 9 = (DEntry.ints x).length + k * 9 := by rw [hx]; omega
  show ((DEntry.ints x) ++ flEntry l).take _ = (DEntry.ints x) ++ flEntry (l.take k)
  rw [e, List.take_length_add_append, fl_take9 l k]
theorem fl_drop9 : ∀ (l : List DEntry) (k : Nat), (flEntry l).drop (k * 9) = flEntry (l.drop k)
 | [], k => by simp [flEntry]
 | x :: l, 0 => by simp [flEntry]
 | x :: l, k + 1 => by
  have hx : (DEntry.ints x).length = 9 := rfl
  have e : (k + 1) * 9 = (DEntry.ints x).length + k * 9 := by rw [hx]; omega
  show ((DEntry.ints x) ++ flEntry l).drop _ = flEntry (l.drop k)
  rw [e, List.drop_length_add_append, fl_drop9 l k]
end Go.G8
namespace Go.Proofs.YtlnkggpemdpemaaGreat
open Go.RowKit Go.G8
section
variable {B B' : Nat} {w w' : World} {v : Value} {s : DStore}
def AnyStore (B : Nat) (w : World) (v : Value) (s : DStore) : Prop := ∃ t0 t1 t4 t5 : Value, v = .agg #[t0, t1, .int .i64 s.State.Index, .int .i64 s.State.Time, t4, t5, .int .i64 s.State.Lease.Holder, .int .i64 s.State.Lease.Epoch, .int .i64 s.State.Lease.Until, .int .i64 s.Num, .int .i64 s.Last, .int .i64 s.Busy] ∧ KrDisk B w (.agg #[t0, t1]) s.Disk ∧ OwnI B 113 2 w t4 (flPair s.State.Pairs) ∧ OwnI B 95 5 w t5 (flJob s.State.Jobs)
theorem AnyStore.kp (h : AnyStore B w v s) (x : Kp B boxTs w w') : AnyStore B w' v s := let ⟨t0, t1, t4, t5, e, h0, h4, h5⟩ := h; ⟨t0, t1, t4, t5, e, h0.kp x, h4.kp x dC, h5.kp x dC⟩
theorem AnyStore.rd (h : AnyStore B w v s) : RdStore w v s := by
 obtain ⟨t0, t1, t4, t5, rfl, h0, h4, h5⟩ := h
 obtain ⟨u0, u1, e, g0, g1⟩ := h0.rd
 injection e with e; injection e with e; injection e with e1 e; injection e with e2 _
 subst e1; subst e2
 exact ⟨_, _, _, _, rfl, g0, g1, h4.ints, h5.ints⟩
theorem IsStore.any (h : IsStore B w v s) : AnyStore B w v s := by
 obtain ⟨F, t0, t1, t4, t5, s0, s1, rfl, h0, h1, h4, h5, hd, hF⟩ := h
 exact ⟨t0, t1, t4, t5, rfl, IsDisk.kr ⟨t0, t1, s0, s1, rfl, h0, h1, hd⟩, h4, h5⟩
theorem OwStore.isS {F : List Nat} (h : OwStore B w v s F) : IsStore B w v s := ⟨F, h⟩
theorem OwState.isS {F : List Nat} {s : DState} (h : OwState B w v s F) : IsState B w v s := let ⟨t0, t1, e, h0, h1, _⟩ := h; ⟨t0, t1, e, h0, h1⟩
theorem RdStore.st {t0 t1 x2 x3 t4 t5 x6 x7 x8 x9 x10 x11 : Value} (h : RdStore w (.agg #[t0, t1, x2, x3, t4, t5, x6, x7, x8, x9, x10, x11]) s) : RdState w (.agg #[x2, x3, t4, t5, x6, x7, x8]) s.State := by
 obtain ⟨u0, u1, u4, u5, e, h0, h1, h4, h5⟩ := h
 injection e with e
 simp only [Array.mk.injEq, List.cons.injEq, and_true] at e
 obtain ⟨rfl, rfl, rfl, rfl, rfl, rfl, rfl, rfl, rfl, rfl, rfl, rfl⟩ := e
 exact ⟨_, _, rfl, h4, h5⟩
end
def newSt9 : DStore := ⟨newDisk 8, ⟨0, 0, [], [], ⟨0, 0, 0⟩⟩, 0, 0, 0⟩
theorem entries_cut {B : Nat} {w : World} {a : Option Addr} {n k : Nat} {l : List DEntry} (h : OwnI B 54 9 w (.slice a n k) (flEntry l)) : n = l.length ∧ n ≤ k ∧ k ≤ maxLen := by
 obtain ⟨_, _, e, h1, h2, _⟩ := h.ints.recs (f := DEntry.ints) (fun _ => rfl) dC
 injection e with _ e2 e3
 subst e2; subst e3
 exact ⟨rfl, h1, h2⟩
end Go.Proofs.YtlnkggpemdpemaaGreat
