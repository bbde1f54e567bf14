/- Contracts and plain laws: DS DS3 DS2 DS4 DS5 DS6. -/
import Derived.Test.YthihnangjghloaaSa
import Derived.Deep.DeepCutAuto
import Derived.Test.YthihnangjghloaaSo
import Derived.Test.YthihnangjghloaaSk
set_option linter.unusedSimpArgs false
set_option linter.unusedVariables false
-- Draws of operations.
set_option linter.unusedSimpArgs false
set_option linter.unusedVariables false
namespace Go.Proofs.Ythihnangjghloaa
open Go.RowKit Go.G8

theorem OwnI.updX {B : Nat} {e t : TypeId} {n : Nat} {w w' : World} {v : Value} {xs : List Int} {X : Nat} {a : Array Value} (h : OwnI B e n w v xs) (hX : Blk w X t a) (h1 : t ≠ e) (x : Upd w w' [X]) : OwnI B e n w' v xs :=
 Own.upd h x (fun k hk hm => by
  have hm : k = X := by simpa using hm
  subst hm
  obtain ⟨c, hc⟩ := Own.typed' h hk
  unfold Blk at hc hX
  rw [hX] at hc
  injection hc with hc
  injection hc with _ hc
  exact h1 hc)
theorem OwnI.boxD {B : Nat} {e t : TypeId} {n : Nat} {w : World} {v : Value} {xs : List Int} {X : Nat} {a : Array Value} (h : OwnI B e n w v xs) (hX : Blk w X t a) (h1 : t ≠ e) (i : Nat) (u : Value) : OwnI B e n (w.setCell ⟨X, i, none⟩ u) v xs :=
 OwnI.updX h hX h1 ((Upd.refl _ _).setOne i u)
theorem IsState.drawn {M : Nat} {w w' : World} {v : Value} {s : DState} {g : Nat} (h : IsState M w v s) (x : Upd w w' [g]) (hg : g < M) : IsState M w' v s := let ⟨t2, t3, e, h2, h3⟩ := h; ⟨t2, t3, e, h2.drawn x hg, h3.drawn x hg⟩
theorem IsState.nil (M : Nat) (w : World) : IsState M w (.agg #[.int .i64 0, .int .i64 0, .slice none 0 0, .slice none 0 0, .int .i64 0, .int .i64 0, .int .i64 0]) ⟨0, 0, [], [], ⟨0, 0, 0⟩⟩ := ⟨_, _, rfl, OwnI.nil _ _ _ _, OwnI.nil _ _ _ _⟩
end Go.Proofs.Ythihnangjghloaa

-- Draws of entries.
set_option linter.unusedSimpArgs false
set_option linter.unusedVariables false
namespace Go.Proofs.Ythihnangjghloaa
open Go.RowKit Go.G8

end Go.Proofs.Ythihnangjghloaa

-- Draws of entries, bent.
set_option linter.unusedSimpArgs false
set_option linter.unusedVariables false
namespace Go.Proofs.Ythihnangjghloaa
open Go.RowKit Go.G8


end Go.Proofs.Ythihnangjghloaa

-- Draws of lists of entries.
set_option linter.unusedSimpArgs false
set_option linter.unusedVariables false
namespace Go.Proofs.Ythihnangjghloaa
open Go.RowKit Go.G8

theorem sNewState_c (w : World) : Calls Try.prog 38 #[] w (RetV w (.agg #[.int .i64 0, .int .i64 0, .slice none 0 0, .slice none 0 0, .int .i64 0, .int .i64 0, .int .i64 0])) := by
 go_enter Try.func38, Try.ntmps38
 go_wp2_with fail
 refine bodyPost_ret (by simp [results, Try.results38, go_sem]; try rfl) rfl ?_
 exact ⟨rfl, by (first | exact extT | omega)⟩
end Go.Proofs.Ythihnangjghloaa

-- Draws of states.
set_option linter.unusedSimpArgs false
set_option linter.unusedVariables false
namespace Go.Proofs.Ythihnangjghloaa
open Go.RowKit Go.G8

theorem OwnI.updX2 {B : Nat} {e t u : TypeId} {n : Nat} {w w' : World} {v : Value} {xs : List Int} {X Y : Nat} {a b : Array Value} (h : OwnI B e n w v xs) (hX : Blk w X t a) (hY : Blk w Y u b) (h1 : t ≠ e) (h2 : u ≠ e) (x : Upd w w' [X, Y]) : OwnI B e n w' v xs :=
 Own.upd h x (fun k hk hm => by
  have hm : k = X ∨ k = Y := by simpa using hm
  obtain ⟨c, hc⟩ := Own.typed' h hk
  rcases hm with hm | hm
  ·
   subst hm
   unfold Blk at hc hX
   rw [hX] at hc
   injection hc with hc
   injection hc with _ hc
   exact h1 hc
  ·
   subst hm
   unfold Blk at hc hY
   rw [hY] at hc
   injection hc with hc
   injection hc with _ hc
   exact h2 hc)
theorem Upd.setA {a b : World} {g k : Nat} (h : Upd a b [g, k]) (o : Nat) (u : Value) : Upd a (b.setCell ⟨g, o, none⟩ u) [g, k] := h.setCell (by simp) u
theorem Upd.setB {a b : World} {g k : Nat} (h : Upd a b [g, k]) (o : Nat) (u : Value) : Upd a (b.setCell ⟨k, o, none⟩ u) [g, k] := h.setCell (by simp) u
theorem Upd.rowIn {a b : World} {fs : List Nat} (h : Upd a b fs) {g : Nat} (hg : g ∈ fs) (cs : Array Value) : Upd a (b.setRow g cs) fs :=
 ⟨h.os, h.tape, h.output, by rw [size_setRow]; exact h.size, fun k hk hn => (heap_setRow_ne b cs (fun e => hn (by rw [e]; exact hg))).trans (h.block k hk hn)⟩
theorem Upd.rowA {a b : World} {g k : Nat} (h : Upd a b [g, k]) (cs : Array Value) : Upd a (b.setRow g cs) [g, k] := Upd.rowIn h (by simp) cs
theorem Upd.rowB {a b : World} {g k : Nat} (h : Upd a b [g, k]) (cs : Array Value) : Upd a (b.setRow k cs) [g, k] := Upd.rowIn h (by simp) cs
theorem upd2T {a b : World} {g k : Nat} (h : Upd a b [g, k] := by ((repeat' (first | (with_reducible exact Upd.refl _ _) | (with_reducible refine Upd.drewNd ?_ _) | (with_reducible refine Upd.drewd1 ?_) | (with_reducible refine Upd.alloc ?_ _) | (with_reducible refine Upd.setA ?_ _ _) | (with_reducible refine Upd.setB ?_ _ _) | (with_reducible refine Upd.rowA ?_ _) | (with_reducible refine Upd.rowB ?_ _) | (with_reducible refine Upd.setAt ?_ ?_ _) | (with_reducible refine Upd.rowNew ?_ ?_ _) | omega)); first | done | fail)) : Upd a b [g, k] := h
end Go.Proofs.Ythihnangjghloaa

-- Draws of a state and an entry.
set_option linter.unusedSimpArgs false
set_option linter.unusedVariables false
namespace Go.Proofs.Ythihnangjghloaa
open Go.RowKit Go.G8

end Go.Proofs.Ythihnangjghloaa
