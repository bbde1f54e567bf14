/- Data of the records, and how values read as them. -/
import Derived.Test.YtemhbbpbmgpcaaaRows
import Derived.Test.YtemhbbpbmgpcaaaBase
import Derived.Test.YtemhbbpbmgpcaaaApp
import Derived.Test.YtemhbbpbmgpcaaaModel
namespace Go.Proofs.Ytemhbbpbmgpcaaa
open Go.RowKit Go.G8

end Go.Proofs.Ytemhbbpbmgpcaaa
namespace Go.G8
open Go.RowKit
structure DPair where
  Key : Int
  Value : Int
def DPair.ints (d : DPair) : List Int := [d.Key, d.Value]
def flPair (l : List DPair) : List Int := l.flatMap DPair.ints
theorem length_flPair (l : List DPair) : (flPair l).length = l.length * 2 := flat_len DPair.ints (fun _ => rfl) l
structure DJob where
  Id : Int
  Due : Int
  Key : Int
  Value : Int
  Fired : Int
def DJob.ints (d : DJob) : List Int := [d.Id, d.Due, d.Key, d.Value, d.Fired]
def flJob (l : List DJob) : List Int := l.flatMap DJob.ints
theorem length_flJob (l : List DJob) : (flJob l).length = l.length * 5 := flat_len DJob.ints (fun _ => rfl) l
structure DOp where
  Kind : Int
  A : Int
  B : Int
  C : Int
  D : Int
def DOp.ints (d : DOp) : List Int := [d.Kind, d.A, d.B, d.C, d.D]
def flOp (l : List DOp) : List Int := l.flatMap DOp.ints
theorem length_flOp (l : List DOp) : (flOp l).length = l.length * 5 := flat_len DOp.ints (fun _ => rfl) l
structure DEntry where
  Index : Int
  Time : Int
  Client : Int
  Seq : Int
  Op : DOp
def DEntry.ints (d : DEntry) : List Int := [d.Index, d.Time, d.Client, d.Seq, d.Op.Kind, d.Op.A, d.Op.B, d.Op.C, d.Op.D]
def flEntry (l : List DEntry) : List Int := l.flatMap DEntry.ints
theorem length_flEntry (l : List DEntry) : (flEntry l).length = l.length * 9 := flat_len DEntry.ints (fun _ => rfl) l
structure DMark where
  Client : Int
  Seq : Int
  Index : Int
def DMark.ints (d : DMark) : List Int := [d.Client, d.Seq, d.Index]
def flMark (l : List DMark) : List Int := l.flatMap DMark.ints
theorem length_flMark (l : List DMark) : (flMark l).length = l.length * 3 := flat_len DMark.ints (fun _ => rfl) l
structure DAck where
  Client : Int
  Seq : Int
  Index : Int
  Last : Int
def DAck.ints (d : DAck) : List Int := [d.Client, d.Seq, d.Index, d.Last]
def flAck (l : List DAck) : List Int := l.flatMap DAck.ints
theorem length_flAck (l : List DAck) : (flAck l).length = l.length * 4 := flat_len DAck.ints (fun _ => rfl) l
structure DAsk where
  Client : Int
  Seq : Int
  Op : DOp
def DAsk.ints (d : DAsk) : List Int := [d.Client, d.Seq, d.Op.Kind, d.Op.A, d.Op.B, d.Op.C, d.Op.D]
def flAsk (l : List DAsk) : List Int := l.flatMap DAsk.ints
theorem length_flAsk (l : List DAsk) : (flAsk l).length = l.length * 7 := flat_len DAsk.ints (fun _ => rfl) l
structure DRead where
  Client : Int
  Seq : Int
  Key : Int
  Least : Int
def DRead.ints (d : DRead) : List Int := [d.Client, d.Seq, d.Key, d.Least]
def flRead (l : List DRead) : List Int := l.flatMap DRead.ints
theorem length_flRead (l : List DRead) : (flRead l).length = l.length * 4 := flat_len DRead.ints (fun _ => rfl) l
structure DValue where
  Client : Int
  Seq : Int
  Index : Int
  Has : Int
  Value : Int
def DValue.ints (d : DValue) : List Int := [d.Client, d.Seq, d.Index, d.Has, d.Value]
def flValue (l : List DValue) : List Int := l.flatMap DValue.ints
theorem length_flValue (l : List DValue) : (flValue l).length = l.length * 5 := flat_len DValue.ints (fun _ => rfl) l
structure DWant where
  Kind : Int
  Op : DOp
  Key : Int
def DWant.ints (d : DWant) : List Int := [d.Kind, d.Op.Kind, d.Op.A, d.Op.B, d.Op.C, d.Op.D, d.Key]
def flWant (l : List DWant) : List Int := l.flatMap DWant.ints
theorem length_flWant (l : List DWant) : (flWant l).length = l.length * 7 := flat_len DWant.ints (fun _ => rfl) l
structure DGot where
  Seq : Int
  Index : Int
  Has : Int
  Value : Int
def DGot.ints (d : DGot) : List Int := [d.Seq, d.Index, d.Has, d.Value]
def flGot (l : List DGot) : List Int := l.flatMap DGot.ints
theorem length_flGot (l : List DGot) : (flGot l).length = l.length * 4 := flat_len DGot.ints (fun _ => rfl) l
structure DLink where
  A : Int
  B : Int
def DLink.ints (d : DLink) : List Int := [d.A, d.B]
def flLink (l : List DLink) : List Int := l.flatMap DLink.ints
theorem length_flLink (l : List DLink) : (flLink l).length = l.length * 2 := flat_len DLink.ints (fun _ => rfl) l
structure DLease where
  Holder : Int
  Epoch : Int
  Until : Int
def DLease.ints (d : DLease) : List Int := [d.Holder, d.Epoch, d.Until]
def flLease (l : List DLease) : List Int := l.flatMap DLease.ints
theorem length_flLease (l : List DLease) : (flLease l).length = l.length * 3 := flat_len DLease.ints (fun _ => rfl) l
structure DWrite where
  At : Int
  Row : List Int
structure DMsg where
  From : Int
  To : Int
  Row : List Int
structure DDisk where
  Kept : List (List Int)
  Wait : List DWrite
structure DFeed where
  Base : Int
  Last : Int
  Entries : List DEntry
structure DState where
  Index : Int
  Time : Int
  Pairs : List DPair
  Jobs : List DJob
  Lease : DLease
structure DShot where
  Num : Int
  State : DState
structure DStore where
  Disk : DDisk
  State : DState
  Num : Int
  Last : Int
  Busy : Int
structure DSched where
  Id : Int
  Seq : Int
  View : DView
  Busy : Bool
  Op : DOp
  Index : Int
theorem Blk.new2 (w : World) (o : Obj) (t : TypeId) (cs : Array Value) : Blk ((w.alloc o).alloc (.cells cs t)) (w.heap.size + 1) t cs := by
  have := Blk.new (w.alloc o) t cs
  rwa [World.size_alloc] at this
theorem Blk.new3 (w : World) (o o' : Obj) (t : TypeId) (cs : Array Value) : Blk (((w.alloc o).alloc o').alloc (.cells cs t)) (w.heap.size + 1 + 1) t cs := by
  have := Blk.new ((w.alloc o).alloc o') t cs
  rwa [World.size_alloc, World.size_alloc] at this
theorem ret_of_same {w w' : World} {v : Value} {e : Ending} (h : e = .returned v ∧ w = w') : RetV w v e w' := ⟨h.1, h.2 ▸ Ext.refl _⟩
theorem Own.foot {B : Nat} {e : TypeId} {n : Nat} {w : World} {v : Value} {cs : List Value} (h : Own B e n w v cs) : ∀ k, k ∈ feet [v] → B ≤ k ∧ k < w.heap.size := by
  intro k hk
  cases hv : v.ownBlock with
  | none => simp [feet, hv] at hk
  | some g => simp [feet, hv] at hk; subst hk; exact h.lt hv
theorem OwnI.foot {B : Nat} {e : TypeId} {n : Nat} {w : World} {v : Value} {xs : List Int} (h : OwnI B e n w v xs) : ∀ k, k ∈ feet [v] → B ≤ k ∧ k < w.heap.size := Own.foot h
theorem OwnI.ext {B : Nat} {e : TypeId} {n : Nat} {w w' : World} {v : Value} {xs : List Int} (h : OwnI B e n w v xs) (x : Ext w w') : OwnI B e n w' v xs := Own.ext h x
theorem Ext.upd_below {w a b : World} {fs : List Nat} (h : Ext w a) (k : Upd a b fs) (hf : ∀ x, x ∈ fs → w.heap.size ≤ x) : Ext w b := Below.trans h (k.below hf h.size)
theorem OwnI.upd' {B : Nat} {e : TypeId} {n : Nat} {w w' : World} {v : Value} {xs : List Int} {fs : List Nat} (h : OwnI B e n w v xs) (hg : Upd w w' fs) (hne : ∀ k, k ∈ feet [v] → k ∈ fs → False) : OwnI B e n w' v xs :=
  Own.upd h hg (fun k hk hf => hne k (by simp [feet, hk]) hf)
theorem OwnI.small {B : Nat} {e : TypeId} {n : Nat} {w : World} {v : Value} {xs : List Int} (h : OwnI B e n w v xs) : xs.length ≤ maxLen * n := by
  obtain ⟨a, len, cap, _, hl, h1, h2, _⟩ := Own.open_ h
  rw [List.length_map] at hl
  rw [hl]
  exact Nat.mul_le_mul_right _ (Nat.le_trans h1 h2)
theorem bq (a b : Int) : (a == b) = decide (a = b) := by by_cases h : a = b <;> simp [h]
theorem bn (a b : Int) : (a != b) = !decide (a = b) := by by_cases h : a = b <;> simp [h]
theorem OwnI.nil (B : Nat) (e : TypeId) (n : Nat) (w : World) : OwnI B e n w (.slice none 0 0) [] := ⟨0, by simp, .inl ⟨rfl, rfl⟩⟩
theorem own_cast {B : Nat} {e : TypeId} {n : Nat} {w : World} {v : Value} {l l' : List Int} (h : OwnI B e n w v l) (q : l = l') : OwnI B e n w v l' := q ▸ h
theorem nil_int (B : Nat) (e : TypeId) (n : Nat) (w : World) : OwnI B e n w (.slice none 0 0) [] := OwnI.nil B e n w
theorem rnil_int (n : Nat) (w : World) : Ints n w (.slice none 0 0) [] := Ints.nil n w
theorem nil_dues (B : Nat) (e : TypeId) (n : Nat) (w : World) : OwnI B e n w (.slice none 0 0) (dues []) := OwnI.nil B e n w
theorem rnil_dues (n : Nat) (w : World) : Ints n w (.slice none 0 0) (dues []) := Ints.nil n w
theorem nil_flPair (B : Nat) (e : TypeId) (n : Nat) (w : World) : OwnI B e n w (.slice none 0 0) (flPair []) := OwnI.nil B e n w
theorem rnil_flPair (n : Nat) (w : World) : Ints n w (.slice none 0 0) (flPair []) := Ints.nil n w
theorem nil_flJob (B : Nat) (e : TypeId) (n : Nat) (w : World) : OwnI B e n w (.slice none 0 0) (flJob []) := OwnI.nil B e n w
theorem rnil_flJob (n : Nat) (w : World) : Ints n w (.slice none 0 0) (flJob []) := Ints.nil n w
theorem nil_flOp (B : Nat) (e : TypeId) (n : Nat) (w : World) : OwnI B e n w (.slice none 0 0) (flOp []) := OwnI.nil B e n w
theorem rnil_flOp (n : Nat) (w : World) : Ints n w (.slice none 0 0) (flOp []) := Ints.nil n w
theorem nil_flEntry (B : Nat) (e : TypeId) (n : Nat) (w : World) : OwnI B e n w (.slice none 0 0) (flEntry []) := OwnI.nil B e n w
theorem rnil_flEntry (n : Nat) (w : World) : Ints n w (.slice none 0 0) (flEntry []) := Ints.nil n w
theorem nil_flMark (B : Nat) (e : TypeId) (n : Nat) (w : World) : OwnI B e n w (.slice none 0 0) (flMark []) := OwnI.nil B e n w
theorem rnil_flMark (n : Nat) (w : World) : Ints n w (.slice none 0 0) (flMark []) := Ints.nil n w
theorem nil_flAck (B : Nat) (e : TypeId) (n : Nat) (w : World) : OwnI B e n w (.slice none 0 0) (flAck []) := OwnI.nil B e n w
theorem rnil_flAck (n : Nat) (w : World) : Ints n w (.slice none 0 0) (flAck []) := Ints.nil n w
theorem nil_flAsk (B : Nat) (e : TypeId) (n : Nat) (w : World) : OwnI B e n w (.slice none 0 0) (flAsk []) := OwnI.nil B e n w
theorem rnil_flAsk (n : Nat) (w : World) : Ints n w (.slice none 0 0) (flAsk []) := Ints.nil n w
theorem nil_flRead (B : Nat) (e : TypeId) (n : Nat) (w : World) : OwnI B e n w (.slice none 0 0) (flRead []) := OwnI.nil B e n w
theorem rnil_flRead (n : Nat) (w : World) : Ints n w (.slice none 0 0) (flRead []) := Ints.nil n w
theorem nil_flValue (B : Nat) (e : TypeId) (n : Nat) (w : World) : OwnI B e n w (.slice none 0 0) (flValue []) := OwnI.nil B e n w
theorem rnil_flValue (n : Nat) (w : World) : Ints n w (.slice none 0 0) (flValue []) := Ints.nil n w
theorem nil_flWant (B : Nat) (e : TypeId) (n : Nat) (w : World) : OwnI B e n w (.slice none 0 0) (flWant []) := OwnI.nil B e n w
theorem rnil_flWant (n : Nat) (w : World) : Ints n w (.slice none 0 0) (flWant []) := Ints.nil n w
theorem nil_flGot (B : Nat) (e : TypeId) (n : Nat) (w : World) : OwnI B e n w (.slice none 0 0) (flGot []) := OwnI.nil B e n w
theorem rnil_flGot (n : Nat) (w : World) : Ints n w (.slice none 0 0) (flGot []) := Ints.nil n w
theorem nil_flLink (B : Nat) (e : TypeId) (n : Nat) (w : World) : OwnI B e n w (.slice none 0 0) (flLink []) := OwnI.nil B e n w
theorem rnil_flLink (n : Nat) (w : World) : Ints n w (.slice none 0 0) (flLink []) := Ints.nil n w
theorem nil_flLease (B : Nat) (e : TypeId) (n : Nat) (w : World) : OwnI B e n w (.slice none 0 0) (flLease []) := OwnI.nil B e n w
theorem rnil_flLease (n : Nat) (w : World) : Ints n w (.slice none 0 0) (flLease []) := Ints.nil n w
end Go.G8
namespace Go.Proofs.Ytemhbbpbmgpcaaa
open Go.RowKit Go.G8
def IsDue (B : Nat) (w : World) (v : Value) (d : DDue) : Prop := v = .agg #[.int .i64 d.Id, .int .i64 d.Due]
theorem IsDue.mk {B : Nat} {w : World} {x0 x1 : Int} : IsDue B w (.agg #[.int .i64 x0, .int .i64 x1]) ⟨x0, x1⟩ := rfl
theorem IsDue.cast {B : Nat} {w : World} {v : Value} {d d' : DDue} (h : IsDue B w v d) (e : d = d') : IsDue B w v d' := e ▸ h
def IsPair (B : Nat) (w : World) (v : Value) (d : DPair) : Prop := v = .agg #[.int .i64 d.Key, .int .i64 d.Value]
theorem IsPair.mk {B : Nat} {w : World} {x0 x1 : Int} : IsPair B w (.agg #[.int .i64 x0, .int .i64 x1]) ⟨x0, x1⟩ := rfl
theorem IsPair.cast {B : Nat} {w : World} {v : Value} {d d' : DPair} (h : IsPair B w v d) (e : d = d') : IsPair B w v d' := e ▸ h
def IsJob (B : Nat) (w : World) (v : Value) (d : DJob) : Prop := v = .agg #[.int .i64 d.Id, .int .i64 d.Due, .int .i64 d.Key, .int .i64 d.Value, .int .i64 d.Fired]
theorem IsJob.mk {B : Nat} {w : World} {x0 x1 x2 x3 x4 : Int} : IsJob B w (.agg #[.int .i64 x0, .int .i64 x1, .int .i64 x2, .int .i64 x3, .int .i64 x4]) ⟨x0, x1, x2, x3, x4⟩ := rfl
theorem IsJob.cast {B : Nat} {w : World} {v : Value} {d d' : DJob} (h : IsJob B w v d) (e : d = d') : IsJob B w v d' := e ▸ h
def IsOp (B : Nat) (w : World) (v : Value) (d : DOp) : Prop := v = .agg #[.int .i64 d.Kind, .int .i64 d.A, .int .i64 d.B, .int .i64 d.C, .int .i64 d.D]
theorem IsOp.mk {B : Nat} {w : World} {x0 x1 x2 x3 x4 : Int} : IsOp B w (.agg #[.int .i64 x0, .int .i64 x1, .int .i64 x2, .int .i64 x3, .int .i64 x4]) ⟨x0, x1, x2, x3, x4⟩ := rfl
theorem IsOp.cast {B : Nat} {w : World} {v : Value} {d d' : DOp} (h : IsOp B w v d) (e : d = d') : IsOp B w v d' := e ▸ h
def IsEntry (B : Nat) (w : World) (v : Value) (d : DEntry) : Prop := v = .agg #[.int .i64 d.Index, .int .i64 d.Time, .int .i64 d.Client, .int .i64 d.Seq, .int .i64 d.Op.Kind, .int .i64 d.Op.A, .int .i64 d.Op.B, .int .i64 d.Op.C, .int .i64 d.Op.D]
theorem IsEntry.mk {B : Nat} {w : World} {x0 x1 x2 x3 x4 x5 x6 x7 x8 : Int} : IsEntry B w (.agg #[.int .i64 x0, .int .i64 x1, .int .i64 x2, .int .i64 x3, .int .i64 x4, .int .i64 x5, .int .i64 x6, .int .i64 x7, .int .i64 x8]) ⟨x0, x1, x2, x3, ⟨x4, x5, x6, x7, x8⟩⟩ := rfl
theorem IsEntry.cast {B : Nat} {w : World} {v : Value} {d d' : DEntry} (h : IsEntry B w v d) (e : d = d') : IsEntry B w v d' := e ▸ h
def IsAck (B : Nat) (w : World) (v : Value) (d : DAck) : Prop := v = .agg #[.int .i64 d.Client, .int .i64 d.Seq, .int .i64 d.Index, .int .i64 d.Last]
theorem IsAck.mk {B : Nat} {w : World} {x0 x1 x2 x3 : Int} : IsAck B w (.agg #[.int .i64 x0, .int .i64 x1, .int .i64 x2, .int .i64 x3]) ⟨x0, x1, x2, x3⟩ := rfl
theorem IsAck.cast {B : Nat} {w : World} {v : Value} {d d' : DAck} (h : IsAck B w v d) (e : d = d') : IsAck B w v d' := e ▸ h
def IsAsk (B : Nat) (w : World) (v : Value) (d : DAsk) : Prop := v = .agg #[.int .i64 d.Client, .int .i64 d.Seq, .int .i64 d.Op.Kind, .int .i64 d.Op.A, .int .i64 d.Op.B, .int .i64 d.Op.C, .int .i64 d.Op.D]
theorem IsAsk.mk {B : Nat} {w : World} {x0 x1 x2 x3 x4 x5 x6 : Int} : IsAsk B w (.agg #[.int .i64 x0, .int .i64 x1, .int .i64 x2, .int .i64 x3, .int .i64 x4, .int .i64 x5, .int .i64 x6]) ⟨x0, x1, ⟨x2, x3, x4, x5, x6⟩⟩ := rfl
theorem IsAsk.cast {B : Nat} {w : World} {v : Value} {d d' : DAsk} (h : IsAsk B w v d) (e : d = d') : IsAsk B w v d' := e ▸ h
def IsRead (B : Nat) (w : World) (v : Value) (d : DRead) : Prop := v = .agg #[.int .i64 d.Client, .int .i64 d.Seq, .int .i64 d.Key, .int .i64 d.Least]
theorem IsRead.mk {B : Nat} {w : World} {x0 x1 x2 x3 : Int} : IsRead B w (.agg #[.int .i64 x0, .int .i64 x1, .int .i64 x2, .int .i64 x3]) ⟨x0, x1, x2, x3⟩ := rfl
theorem IsRead.cast {B : Nat} {w : World} {v : Value} {d d' : DRead} (h : IsRead B w v d) (e : d = d') : IsRead B w v d' := e ▸ h
def IsValue (B : Nat) (w : World) (v : Value) (d : DValue) : Prop := v = .agg #[.int .i64 d.Client, .int .i64 d.Seq, .int .i64 d.Index, .int .i64 d.Has, .int .i64 d.Value]
theorem IsValue.mk {B : Nat} {w : World} {x0 x1 x2 x3 x4 : Int} : IsValue B w (.agg #[.int .i64 x0, .int .i64 x1, .int .i64 x2, .int .i64 x3, .int .i64 x4]) ⟨x0, x1, x2, x3, x4⟩ := rfl
theorem IsValue.cast {B : Nat} {w : World} {v : Value} {d d' : DValue} (h : IsValue B w v d) (e : d = d') : IsValue B w v d' := e ▸ h
def IsLease (B : Nat) (w : World) (v : Value) (d : DLease) : Prop := v = .agg #[.int .i64 d.Holder, .int .i64 d.Epoch, .int .i64 d.Until]
theorem IsLease.mk {B : Nat} {w : World} {x0 x1 x2 : Int} : IsLease B w (.agg #[.int .i64 x0, .int .i64 x1, .int .i64 x2]) ⟨x0, x1, x2⟩ := rfl
theorem IsLease.cast {B : Nat} {w : World} {v : Value} {d d' : DLease} (h : IsLease B w v d) (e : d = d') : IsLease B w v d' := e ▸ h
def IsState (B : Nat) (w : World) (v : Value) (d : DState) : Prop := ∃ t2 : Value, ∃ t3 : Value, v = .agg #[.int .i64 d.Index, .int .i64 d.Time, t2, t3, .int .i64 d.Lease.Holder, .int .i64 d.Lease.Epoch, .int .i64 d.Lease.Until] ∧ OwnI B 106 2 w t2 (flPair d.Pairs) ∧ OwnI B 104 5 w t3 (flJob d.Jobs)
theorem IsState.mk {B : Nat} {w : World} {x0 x1 x4 x5 x6 : Int} {t2 : Value} {x2 : List DPair} (h2 : OwnI B 106 2 w t2 (flPair x2)) {t3 : Value} {x3 : List DJob} (h3 : OwnI B 104 5 w t3 (flJob x3)) : IsState B w (.agg #[.int .i64 x0, .int .i64 x1, t2, t3, .int .i64 x4, .int .i64 x5, .int .i64 x6]) ⟨x0, x1, x2, x3, ⟨x4, x5, x6⟩⟩ := ⟨t2, t3, rfl, h2, h3⟩
theorem IsState.cast {B : Nat} {w : World} {v : Value} {d d' : DState} (h : IsState B w v d) (e : d = d') : IsState B w v d' := e ▸ h
def IsShot (B : Nat) (w : World) (v : Value) (d : DShot) : Prop := ∃ t3 : Value, ∃ t4 : Value, v = .agg #[.int .i64 d.Num, .int .i64 d.State.Index, .int .i64 d.State.Time, t3, t4, .int .i64 d.State.Lease.Holder, .int .i64 d.State.Lease.Epoch, .int .i64 d.State.Lease.Until] ∧ OwnI B 106 2 w t3 (flPair d.State.Pairs) ∧ OwnI B 104 5 w t4 (flJob d.State.Jobs)
theorem IsShot.mk {B : Nat} {w : World} {x0 x1 x2 x5 x6 x7 : Int} {t3 : Value} {x3 : List DPair} (h3 : OwnI B 106 2 w t3 (flPair x3)) {t4 : Value} {x4 : List DJob} (h4 : OwnI B 104 5 w t4 (flJob x4)) : IsShot B w (.agg #[.int .i64 x0, .int .i64 x1, .int .i64 x2, t3, t4, .int .i64 x5, .int .i64 x6, .int .i64 x7]) ⟨x0, ⟨x1, x2, x3, x4, ⟨x5, x6, x7⟩⟩⟩ := ⟨t3, t4, rfl, h3, h4⟩
theorem IsShot.cast {B : Nat} {w : World} {v : Value} {d d' : DShot} (h : IsShot B w v d) (e : d = d') : IsShot B w v d' := e ▸ h

end Go.Proofs.Ytemhbbpbmgpcaaa
