/- Contracts and plain laws: DSH DR KP DM DK. -/
import Derived.Test.YtlnkggpemdpemaaGreatYa
import Derived.Test.YtlnkggpemdpemaaGreatYp
import Derived.Test.YtlnkggpemdpemaaGreatYb
import Derived.Test.YtlnkggpemdpemaaGreatYl
import Derived.Test.YtlnkggpemdpemaaGreatYe
import Derived.Test.YtlnkggpemdpemaaGreatYo
import Derived.Test.YtlnkggpemdpemaaGreatYm
import Derived.Deep.DeepCutAuto
set_option linter.unusedSimpArgs false
set_option linter.unusedVariables false
set_option maxHeartbeats 8000000
set_option maxRecDepth 100000
namespace Go.G8
open Go.RowKit
structure Kp (B : Nat) (ts : List TypeId) (w w' : World) : Prop where
 size : w.heap.size ≤ w'.heap.size
 block : ∀ k cs t, B ≤ k → w.heap[k]? = some (.cells cs t) → t ∉ ts → w'.heap[k]? = w.heap[k]?
section
variable {B : Nat} {ts : List TypeId} {a b c : World}
theorem Kp.refl (B : Nat) (ts : List TypeId) (w : World) : Kp B ts w w := ⟨Nat.le_refl _, fun _ _ _ _ _ _ => rfl⟩
theorem Kp.trans (h : Kp B ts a b) (k : Kp B ts b c) : Kp B ts a c := ⟨Nat.le_trans h.size k.size, fun i cs t hB hi ht => (k.block i cs t hB ((h.block i cs t hB hi ht).trans hi) ht).trans (h.block i cs t hB hi ht)⟩
theorem Kp.ext (h : Kp B ts a b) (x : Ext b c) : Kp B ts a c := h.trans ⟨x.size, fun i cs t _ hi _ => Below.block x i (Array.getElem?_eq_some_iff.1 hi).1⟩
theorem Kp.upd {g : Nat} (h : Kp B ts a b) (x : Upd b c [g]) (hg : g < B) : Kp B ts a c := h.trans ⟨x.size, fun i cs t hB hi _ => x.block i (Array.getElem?_eq_some_iff.1 hi).1 (by simp; omega)⟩
theorem Kp.alloc (h : Kp B ts a b) (o : Obj) : Kp B ts a (b.alloc o) := h.ext ((Ext.refl _).alloc _)
theorem Kp.drew (h : Kp B ts a b) : Kp B ts a b.drew := h.ext (Ext.drew (Ext.refl _))
theorem Kp.drewN (h : Kp B ts a b) (n : Nat) : Kp B ts a (b.drewN n) := h.ext ((Ext.refl _).drewN n)
theorem Kp.setB (h : Kp B ts a b) {X : Nat} {t : TypeId} {cs : Array Value} (hX : Blk b X t cs) (ht : t ∈ ts) (i : Nat) (u : Value) : Kp B ts a (b.setCell ⟨X, i, none⟩ u) :=
 h.trans ⟨by simp [World.setCell], fun k cs' t' _ hi hn => Below.heap_setCell _ _ _ _ (fun e => by
  subst e
  unfold Blk at hX
  rw [hX] at hi
  injection hi with hi
  injection hi with _ hi
  exact hn (hi ▸ ht))⟩
theorem Kp.rowB (h : Kp B ts a b) {X : Nat} {t : TypeId} {cs : Array Value} (hX : Blk b X t cs) (ht : t ∈ ts) (cells : Array Value) : Kp B ts a (b.setRow X cells) :=
 h.trans ⟨by rw [size_setRow]; exact Nat.le_refl _, fun k cs' t' _ hi hn => heap_setRow_ne b cells (fun e => by
  subst e
  unfold Blk at hX
  rw [hX] at hi
  injection hi with hi
  injection hi with _ hi
  exact hn (hi ▸ ht))⟩
theorem Own.kp {e : TypeId} {n : Nat} {v : Value} {cs : List Value} (h : Own B e n a v cs) (x : Kp B ts a b) (he : e ∉ ts) : Own B e n b v cs := by
 obtain ⟨len, h0, h | ⟨g, cap, cur, rfl, hb, hgg, rest⟩⟩ := h
 ·
  exact ⟨len, h0, .inl h⟩
 refine ⟨len, h0, .inr ⟨g, cap, cur, rfl, hb, ?_, rest⟩⟩
 rw [x.block g cur e hb hgg he]
 exact hgg
theorem OwnI.kp {e : TypeId} {n : Nat} {v : Value} {xs : List Int} (h : OwnI B e n a v xs) (x : Kp B ts a b) (he : e ∉ ts) : OwnI B e n b v xs := Own.kp h x he
theorem OwnNs.kp {e e1 : TypeId} {n : Nat} {v : Value} {rows : List NRow} {ss : List Value} (h : OwnNs B e e1 n a v rows ss) (x : Kp B ts a b) (he : e ∉ ts) (he1 : e1 ∉ ts) : OwnNs B e e1 n b v rows ss :=
 ⟨h.1, h.2.1, Own.kp h.2.2.1 x he, ⟨fun i s r h1 h2 => OwnI.kp (h.2.2.2.own i s r h1 h2) x he1, h.2.2.2.two, h.2.2.2.out⟩⟩
end
end Go.G8
namespace Go.Proofs.YtlnkggpemdpemaaGreat
open Go.RowKit Go.G8
abbrev boxTs : List TypeId := [
 41,
 39,
 78,
 33,
 64,
 54,
 52,
 37]
section
variable {B B' : Nat} {w w' a b : World} {v : Value}
theorem IsDisk.kp {s : DDisk} (h : IsDisk B w v s) (x : Kp B boxTs w w') : IsDisk B w' v s := let ⟨t0, t1, s0, s1, e, h0, h1, hd⟩ := h; ⟨t0, t1, s0, s1, e, h0.kp x dC dC, h1.kp x dC dC, hd⟩
theorem OwState.kp {s : DState} {F : List Nat} (h : OwState B w v s F) (x : Kp B boxTs w w') : OwState B w' v s F := let ⟨t0, t1, e, h0, h1, hF⟩ := h; ⟨t0, t1, e, h0.kp x dC, h1.kp x dC, hF⟩
theorem IsState.kp {s : DState} (h : IsState B w v s) (x : Kp B boxTs w w') : IsState B w' v s := let ⟨t0, t1, e, h0, h1⟩ := h; ⟨t0, t1, e, h0.kp x dC, h1.kp x dC⟩
theorem IsShot.kp {s : DShot} (h : IsShot B w v s) (x : Kp B boxTs w w') : IsShot B w' v s := let ⟨t0, t1, e, h0, h1⟩ := h; ⟨t0, t1, e, h0.kp x dC, h1.kp x dC⟩
theorem OwStore.kp {s : DStore} {F : List Nat} (h : OwStore B w v s F) (x : Kp B boxTs w w') : OwStore B w' v s F := let ⟨t0, t1, t4, t5, s0, s1, e, h0, h1, h4, h5, hd, hF⟩ := h; ⟨t0, t1, t4, t5, s0, s1, e, h0.kp x dC dC, h1.kp x dC dC, h4.kp x dC, h5.kp x dC, hd, hF⟩
def IsStore (B : Nat) (w : World) (v : Value) (s : DStore) : Prop := ∃ F, OwStore B w v s F
theorem IsStore.kp {s : DStore} (h : IsStore B w v s) (x : Kp B boxTs w w') : IsStore B w' v s := let ⟨F, h⟩ := h; ⟨F, h.kp x⟩
theorem IsStore.rd {s : DStore} (h : IsStore B w v s) : RdStore w v s := let ⟨_, h⟩ := h; h.rd
theorem IsStore.mono {s : DStore} (h : IsStore B w v s) (x : B' ≤ B) : IsStore B' w v s := let ⟨F, h⟩ := h; ⟨F, h.mono x⟩
theorem kpT (h : Kp B boxTs a b := by ((repeat' (first | (with_reducible exact Kp.refl _ _ _) | (with_reducible assumption) | (with_reducible refine Kp.drewN ?_ _) | (with_reducible refine Kp.drew ?_) | (with_reducible refine Kp.alloc ?_ _) | (with_reducible refine Kp.setB ?_ blkT dC _ _) | (with_reducible refine Kp.rowB ?_ blkT dC _))); first | done | fail)) : Kp B boxTs a b := h
end
def KrDisk (B : Nat) (w : World) (v : Value) (d : DDisk) : Prop := ∀ w', Kp B boxTs w w' → RdDisk w' v d
section
variable {B B' : Nat} {w w' : World} {v : Value} {d : DDisk}
theorem IsDisk.kr (h : IsDisk B w v d) : KrDisk B w v d := fun _ x => (h.kp x).rd
theorem KrDisk.kp (h : KrDisk B w v d) (x : Kp B boxTs w w') : KrDisk B w' v d := fun _ y => h _ (x.trans y)
theorem KrDisk.rd (h : KrDisk B w v d) : RdDisk w v d := h _ (Kp.refl _ _ _)
end
end Go.Proofs.YtlnkggpemdpemaaGreat
