/- Contracts and plain laws: DC HelpI DD DD2 DD3 OD OE. -/
import Derived.Test.YthihnangjghloaaLa
import Derived.Test.YthihnangjghloaaLj
import Derived.Test.YthihnangjghloaaLb
import Derived.Test.YthihnangjghloaaLf
import Derived.Test.YthihnangjghloaaLe
import Derived.Shelf.SlSortCmp.SmallK
set_option linter.unusedSimpArgs false
set_option linter.unusedVariables false
-- The cursor of the reference's draws.
set_option linter.unusedSimpArgs false
set_option linter.unusedVariables false
namespace Go.Proofs.Ythihnangjghloaa
open Go.RowKit Go.G8

end Go.Proofs.Ythihnangjghloaa
namespace Go.G8
open Go.RowKit
theorem Upd.setOne {a b : World} {g : Nat} (h : Upd a b [g]) (o : Nat) (u : Value) : Upd a (b.setCell ⟨g, o, none⟩ u) [g] := h.setCell (List.mem_singleton.2 rfl) u
theorem Upd.cell {a b : World} {fs : List Nat} (h : Upd a b fs) {k o : Nat} (hk : k < a.heap.size) (hn : k ∉ fs) : b.cell? ⟨k, o, none⟩ = a.cell? ⟨k, o, none⟩ := World.cell?_of_block (w := a) (h.block k hk hn)
theorem Own.footB {B : Nat} {e : TypeId} {n : Nat} {w : World} {v : Value} {cs : List Value} (h : Own B e n w v cs) {k : Nat} (hk : k ∈ feet [v]) : B ≤ k := by
 simp only [feet, List.mem_filterMap] at hk
 obtain ⟨u, hu, hf⟩ := hk
 simp at hu; subst hu
 exact (h.lt hf).1
theorem Upd.app {a w w' : World} {B : Nat} {e : TypeId} {n : Nat} {v : Value} {cs : List Value} {fs : List Nat} (h : Upd a w fs) (ho : Own B e n w v cs) (hB : (∀ k, k ∈ feet [v] → k ∈ fs) ∨ a.heap.size ≤ B) (hg : w.grownBy w' v.ownBlock) : Upd a w' fs :=
 ⟨hg.os.trans h.os, hg.tape.trans h.tape, hg.output.trans h.output, Nat.le_trans h.size hg.size, fun k hk hn => by
  refine (hg.block k (Nat.lt_of_lt_of_le hk h.size) (fun e => ?_)).trans (h.block k hk hn)
  rcases hB with hB | hB
  ·
   exact hn (hB k (by simp [feet, e.symm]))
  ·
   have := (ho.lt e.symm).1; omega⟩
theorem Own.typed' {B : Nat} {e : TypeId} {n : Nat} {w : World} {v : Value} {cs : List Value} (h : Own B e n w v cs) {X : Nat} (hX : v.ownBlock = some X) : ∃ cur, Blk w X e cur := by
 obtain ⟨len, h⟩ := h
 rcases h.2 with ⟨h0, _⟩ | ⟨g, cap, cur, hv, hb, hg, _⟩
 ·
  rw [h0] at hX; simp [Value.ownBlock] at hX
 ·
  rw [hv] at hX
  simp [Value.ownBlock] at hX
  subst hX
  exact ⟨cur, hg⟩
theorem Blk.app {w w' : World} {g B : Nat} {t e : TypeId} {n : Nat} {v : Value} {cs : Array Value} {xs : List Value} (h : Blk w g t cs) (ho : Own B e n w v xs) (ht : t ≠ e) (hg : w.grownBy w' v.ownBlock) : Blk w' g t cs := by
 refine (hg.block g h.lt (fun hh => ?_)).trans h
 obtain ⟨cur, hb⟩ := ho.typed' hh.symm
 unfold Blk at h hb
 rw [h] at hb
 injection hb with hb
 injection hb with _ hb
 exact ht hb
theorem Own.app {w w' : World} {B B' : Nat} {t e : TypeId} {n m : Nat} {v u : Value} {cs xs : List Value} (h : Own B' t m w u cs) (ho : Own B e n w v xs) (ht : t ≠ e) (hg : w.grownBy w' v.ownBlock) : Own B' t m w' u cs := by
 refine h.kept hg ?_
 cases hu : u.ownBlock with
 | none => exact .inl rfl
 | some X =>
  refine .inr (fun hh => ?_)
  obtain ⟨c1, h1⟩ := h.typed' hu
  obtain ⟨c2, h2⟩ := ho.typed' hh.symm
  unfold Blk at h1 h2
  rw [h1] at h2
  injection h2 with h2
  injection h2 with _ h2
  exact ht h2
theorem OwnI.app {w w' : World} {B B' : Nat} {t e : TypeId} {n m : Nat} {v u : Value} {cs : List Int} {xs : List Value} (h : OwnI B' t m w u cs) (ho : Own B e n w v xs) (ht : t ≠ e) (hg : w.grownBy w' v.ownBlock) : OwnI B' t m w' u cs := Own.app h ho ht hg
theorem OwnI.ext1 {B : Nat} {e : TypeId} {n : Nat} {w w' : World} {v : Value} {xs : List Int} (h : OwnI B e n w v xs) (x : Ext w w') : OwnI B e n w' v xs := Own.ext h x
/-- 'append(s, x)' on a slice of the call's own, in whatever world. -/
theorem wp_appendU {P : Program} {w : World} {ops : Array Oper} {rest : List Oper} {o : Oper} {a : Act} {Q : Exit → Act → World → Prop} (hgd : o.guard = none) (s x : Operand) (t : TypeId)
  (ho : o.op = .call { callee := .builtin .append, args := #[s, x], argTypes := #[t, t] })
  (e : TypeId) (i : TypeInfo) (z : Value) (size bytes : Nat) (ht : P.underlying t = some (.slice e)) (hi : P.info? e = some i) (hz : i.zero = some z)
  (hsize : i.size = size) (hby : i.bytes = bytes) (hzs : z.cells.size = size) (hsz : 0 < size)
  (B : Nat) (v : Value) (cs : List Int) (hs : a.eval s = v) (hown : OwnI B e size w v cs) (u : Value) (news : List Int) (hx : a.eval x = u) (hsl : Sl size w u (news.map (.int .i64)))
  (n : Nat) (hlen : cs.length + news.length ≤ n * size) (hn : n ≤ 4611686018427387904) (hbytes : n * bytes ≤ 140737488355328) (hbase : B ≤ w.heap.size)
  (h : ∀ v' w', OwnI B e size w' v' (cs ++ news) → w.grownBy w' v.ownBlock → wpList P ops Q rest (a.put o.dst v') w') : wpList P ops Q (o :: rest) a w := by
 have hE : Ext { w with heap := #[] } w := ⟨rfl, rfl, rfl, Nat.zero_le _, fun k hk => by simp at hk⟩
 refine wp_append hgd s x t ho e i z size bytes ht hi hz hsize hby hzs hsz B v _ hs hown u _ hx hsl (ints_oneCell _ _) n (by simpa using hlen) (by unfold maxLen; omega) hbytes hbase { w with heap := #[] } hE (Nat.zero_le _) (fun v' w' h1 _ h3 => h v' w' (by simpa [OwnI] using h1) h3)
/-- The bytes of a slice. -/
def Bytes (w : World) (v : Value) : Prop := ∃ bs : List Int, Sl 1 w v (bs.map (.int .u8)) ∧ ∀ x, x ∈ bs → 0 ≤ x ∧ x ≤ 255
theorem Bytes.ext {w w' : World} {v : Value} (h : Bytes w v) (x : Ext w w') : Bytes w' v := let ⟨bs, h, hb⟩ := h; ⟨bs, h.ext x, hb⟩
end Go.G8
namespace Go.Proofs.Ythihnangjghloaa
open Go.RowKit Go.G8
/-- The cursor of a draw lies at block g; its bytes below block B. -/
def Cur (B : Nat) (w : World) (g : Nat) : Prop := ∃ (a : Option Addr) (n k i : Nat) (h : Int), Blk w g 169 #[.slice a n k, .int .i64 i, .int .i64 h] ∧ B ≤ g ∧ i ≤ n ∧ n ≤ k ∧ k ≤ maxLen ∧
 ∀ j, j < n → ∃ b off x, a = some ⟨b, off, none⟩ ∧ b < B ∧ 0 ≤ x ∧ x ≤ 255 ∧ w.cell? ⟨b, off + j, none⟩ = some (.int .u8 x)
theorem Cur.lt {B : Nat} {w : World} {g : Nat} (h : Cur B w g) : B ≤ g ∧ g < w.heap.size := let ⟨_, _, _, _, _, hk, hB, _⟩ := h; ⟨hB, hk.lt⟩
theorem Cur.upd {B : Nat} {w w' : World} {g : Nat} {fs : List Nat} (h : Cur B w g) (x : Upd w w' fs) (hg : g ∉ fs) (hB : ∀ k, k ∈ fs → B ≤ k) : Cur B w' g := by
 obtain ⟨a, n, k, i, e, hk, h0, h1, h2, h3, h4⟩ := h
 refine ⟨a, n, k, i, e, hk.upd x hg, h0, h1, h2, h3, fun j hj => ?_⟩
 obtain ⟨b, off, y, h5, h6, h7, h8, h9⟩ := h4 j hj
 have := hk.lt
 exact ⟨b, off, y, h5, h6, h7, h8, (x.cell (by omega) (fun hm => by have := hB b hm; omega)).trans h9⟩
theorem Cur.ext {B : Nat} {w w' : World} {g : Nat} (h : Cur B w g) (x : Ext w w') : Cur B w' g := h.upd (x.upd []) (by simp) (by simp)
theorem Cur.set_ {B : Nat} {w : World} {g : Nat} (h : Cur B w g) {X : Nat} (hX : g < X) (o : Nat) (u : Value) : Cur B (w.setCell ⟨X, o, none⟩ u) g :=
 h.upd ((Upd.refl w [X]).setOne o u) (by simp; omega) (fun k hk => by have := h.lt; simp at hk; omega)
theorem Cur.row {B : Nat} {w : World} {g : Nat} (h : Cur B w g) {X : Nat} (hX : g < X) (cs : Array Value) : Cur B (w.setRow X cs) g :=
 h.upd (fs := [X]) ⟨rfl, rfl, rfl, by rw [size_setRow]; exact Nat.le_refl _, fun k _ hn => heap_setRow_ne w cs (fun e => hn (by simp [e]))⟩ (by simp; omega) (fun k hk => by have := h.lt; simp at hk; omega)
theorem Cur.of {B : Nat} {w w' : World} {g n k i' : Nat} {a : Option Addr} {h' : Int} (X : Upd w w' [g]) (hg : g < w.heap.size) (K : Blk w' g 169 #[.slice a n k, .int .i64 i', .int .i64 h']) (h0 : B ≤ g) (h1 : i' ≤ n) (h2 : n ≤ k) (h3 : k ≤ 9223372036854775807)
  (h4 : ∀ j, j < n → ∃ b off x, a = some ⟨b, off, none⟩ ∧ b < B ∧ 0 ≤ x ∧ x ≤ 255 ∧ w.cell? ⟨b, off + j, none⟩ = some (.int .u8 x)) : Cur B w' g := by
 refine ⟨a, n, k, i', h', K, h0, h1, h2, by unfold maxLen; omega, fun j hj => ?_⟩
 obtain ⟨b, off, y, h5, h6, h7, h8, h9⟩ := h4 j hj
 exact ⟨b, off, y, h5, h6, h7, h8, (X.cell (by omega) (by simp; omega)).trans h9⟩
section
variable {B : Nat} {w : World} {g : Nat}
theorem Cur.app {B0 B g n : Nat} {e : TypeId} {w w' : World} {v : Value} {cs : List Value} (h : Cur B0 w g) (ho : Own B e n w v cs) (hB : g < B) (hg : w.grownBy w' v.ownBlock) : Cur B0 w' g :=
 h.upd (Upd.app (Upd.refl w _) ho (fs := feet [v]) (.inl fun _ h => h) hg) (fun hm => by have := ho.footB hm; omega) (fun k hk => by have := ho.footB hk; have := h.lt; omega)
end

end Go.Proofs.Ythihnangjghloaa

-- HelpI: contracts of the statements' helper functions.
set_option linter.unusedSimpArgs false
set_option linter.unusedVariables false
namespace Go.Proofs.Ythihnangjghloaa
open Go.RowKit Go.G8

end Go.Proofs.Ythihnangjghloaa

-- Draws of leases, pairs and jobs.
set_option linter.unusedSimpArgs false
set_option linter.unusedVariables false
namespace Go.Proofs.Ythihnangjghloaa
open Go.RowKit Go.G8

end Go.Proofs.Ythihnangjghloaa

-- Draws of jobs' lists.
set_option linter.unusedSimpArgs false
set_option linter.unusedVariables false
namespace Go.Proofs.Ythihnangjghloaa
open Go.RowKit Go.G8

end Go.Proofs.Ythihnangjghloaa

-- Draws of any lists of jobs.
set_option linter.unusedSimpArgs false
set_option linter.unusedVariables false
namespace Go.Proofs.Ythihnangjghloaa
open Go.RowKit Go.G8

end Go.Proofs.Ythihnangjghloaa

-- OpenJobs of the reference.
set_option linter.unusedSimpArgs false
set_option linter.unusedVariables false
namespace Go.Proofs.Ythihnangjghloaa
open Go.RowKit Go.G8

end Go.Proofs.Ythihnangjghloaa
namespace Go.G8
open Go.RowKit
open Go.Proofs.Ythihnangjghloaa
theorem Ints.sl {n : Nat} {w : World} {v : Value} {xs : List Int} (h : Ints n w v xs) : Sl n w v (xs.map (.int .i64)) := h
end Go.G8
namespace Go.Proofs.Ythihnangjghloaa
open Go.RowKit Go.G8
end Go.Proofs.Ythihnangjghloaa

-- The program's order of open jobs.
set_option linter.unusedSimpArgs false
set_option linter.unusedVariables false
namespace Go.Proofs.Ythihnangjghloaa
open Go.RowKit Go.G8

end Go.Proofs.Ythihnangjghloaa
namespace Go.G8
open Go.RowKit
open Go.Proofs.Ythihnangjghloaa
instance : Inhabited DDue := ⟨⟨0, 0⟩⟩
end Go.G8
namespace Go.Proofs.Ythihnangjghloaa
open Go.RowKit Go.G8

end Go.Proofs.Ythihnangjghloaa
