/- Contracts and plain laws: DS DS3 DS2 DS4 DS5 DS6. -/
import Derived.Test.YtlnkggpemdpemaaGreatYa
import Derived.Deep.DeepCutAuto
import Derived.Test.YtlnkggpemdpemaaGreatYo
import Derived.Test.YtlnkggpemdpemaaGreatYk
set_option linter.unusedSimpArgs false
set_option linter.unusedVariables false
set_option maxHeartbeats 8000000
set_option maxRecDepth 100000
namespace Go.Proofs.YtlnkggpemdpemaaGreat
open Go.RowKit Go.G8
theorem OwnI.updX {B : Nat} {e t : TypeId} {n : Nat} {w w' : World} {v : Value} {xs : List Int} {X : Nat} {a : Array Value} (h : OwnI B e n w v xs) (hX : Blk w X t a) (h1 : t ≠ e) (x : Upd w w' [X]) : OwnI B e n w' v xs :=
 Own.upd h x (fun k hk hm => by
  have hm : k = X := by simpa using hm
  subst hm
  obtain ⟨c, hc⟩ := Own.typed' h hk
  unfold Blk at hc hX
  rw [hX] at hc
  injection hc with hc
  injection hc with _ hc
  exact h1 hc)
theorem ow_edx0 {B : Nat} {e : TypeId} {n : Nat} {w w' : World} {v : Value} {xs : List Int} {t0 : TypeId} {k0 : Nat} {c0 : Array Value} (O : OwnI B e n w v xs) (K0 : Blk w k0 t0 c0) (h : OwnI B e n w v xs → Blk w k0 t0 c0 → OwnI B e n w' v xs := by intro O1 K0; first | (with_reducible exact O1) | (refine OwnI.drawn O1 ?_ (by omega); (exact updT); done) | (refine OwnI.updX O1 K0 (by decide) ?_; (exact updT); done)) : OwnI B e n w' v xs := h O K0
theorem ow_ex0n {B : Nat} {e : TypeId} {n : Nat} {w w' : World} {v : Value} {xs : List Int} {t0 : TypeId} {k0 : Nat} {c0 : Array Value} (O : OwnI B e n w v xs) (K0 : Blk w k0 t0 c0) (h : OwnI B e n w v xs → Blk w k0 t0 c0 → OwnI B e n w' v xs := by intro O1 K0; first | (with_reducible exact O1) | (refine OwnI.updX O1 K0 (by decide) ?_; (exact updT); done) | (exact ownT)) : OwnI B e n w' v xs := h O K0
theorem ow_ex0x1n {B : Nat} {e : TypeId} {n : Nat} {w w' : World} {v : Value} {xs : List Int} {t0 : TypeId} {k0 : Nat} {c0 : Array Value} {t1 : TypeId} {k1 : Nat} {c1 : Array Value} (O : OwnI B e n w v xs) (K0 : Blk w k0 t0 c0) (K1 : Blk w k1 t1 c1) (h : OwnI B e n w v xs → Blk w k0 t0 c0 → Blk w k1 t1 c1 → OwnI B e n w' v xs := by intro O1 K0 K1; first | (with_reducible exact O1) | (refine OwnI.updX O1 K0 (by decide) ?_; (exact updT); done) | (refine OwnI.updX O1 K1 (by decide) ?_; (exact updT); done) | (exact ownT)) : OwnI B e n w' v xs := h O K0 K1
theorem ow_ex0x1x2n {B : Nat} {e : TypeId} {n : Nat} {w w' : World} {v : Value} {xs : List Int} {t0 : TypeId} {k0 : Nat} {c0 : Array Value} {t1 : TypeId} {k1 : Nat} {c1 : Array Value} {t2 : TypeId} {k2 : Nat} {c2 : Array Value} (O : OwnI B e n w v xs) (K0 : Blk w k0 t0 c0) (K1 : Blk w k1 t1 c1) (K2 : Blk w k2 t2 c2) (h : OwnI B e n w v xs → Blk w k0 t0 c0 → Blk w k1 t1 c1 → Blk w k2 t2 c2 → OwnI B e n w' v xs := by intro O1 K0 K1 K2; first | (with_reducible exact O1) | (refine OwnI.updX O1 K0 (by decide) ?_; (exact updT); done) | (refine OwnI.updX O1 K1 (by decide) ?_; (exact updT); done) | (refine OwnI.updX O1 K2 (by decide) ?_; (exact updT); done) | (exact ownT)) : OwnI B e n w' v xs := h O K0 K1 K2
theorem OwnI.boxD {B : Nat} {e t : TypeId} {n : Nat} {w : World} {v : Value} {xs : List Int} {X : Nat} {a : Array Value} (h : OwnI B e n w v xs) (hX : Blk w X t a) (h1 : t ≠ e) (i : Nat) (u : Value) : OwnI B e n (w.setCell ⟨X, i, none⟩ u) v xs :=
 OwnI.updX h hX h1 ((Upd.refl _ _).setOne i u)
theorem IsState.drawn {M : Nat} {w w' : World} {v : Value} {s : DState} {g : Nat} (h : IsState M w v s) (x : Upd w w' [g]) (hg : g < M) : IsState M w' v s := let ⟨t2, t3, e, h2, h3⟩ := h; ⟨t2, t3, e, h2.drawn x hg, h3.drawn x hg⟩
theorem IsState.nil (M : Nat) (w : World) : IsState M w (.agg #[.int .i64 0, .int .i64 0, .slice none 0 0, .slice none 0 0, .int .i64 0, .int .i64 0, .int .i64 0]) ⟨0, 0, [], [], ⟨0, 0, 0⟩⟩ := ⟨_, _, rfl, OwnI.nil _ _ _ _, OwnI.nil _ _ _ _⟩
theorem sNewState_c (w : World) : Calls Tryz.prog 15 #[] w (RetV w (.agg #[.int .i64 0, .int .i64 0, .slice none 0 0, .slice none 0 0, .int .i64 0, .int .i64 0, .int .i64 0])) := by
 go_enter Tryz.func15, Tryz.ntmps15
 go_wp2_with fail
 refine bodyPost_ret (by simp [results, Tryz.results15, go_sem]; try rfl) rfl ?_
 exact ⟨rfl, xT⟩
theorem OwnI.updX2 {B : Nat} {e t u : TypeId} {n : Nat} {w w' : World} {v : Value} {xs : List Int} {X Y : Nat} {a b : Array Value} (h : OwnI B e n w v xs) (hX : Blk w X t a) (hY : Blk w Y u b) (h1 : t ≠ e) (h2 : u ≠ e) (x : Upd w w' [X, Y]) : OwnI B e n w' v xs :=
 Own.upd h x (fun k hk hm => by
  have hm : k = X ∨ k = Y := by simpa using hm
  obtain ⟨c, hc⟩ := Own.typed' h hk
  rcases hm with hm | hm
  ·
   subst hm
   unfold Blk at hc hX
   rw [hX] at hc
   injection hc with hc
   injection hc with _ hc
   exact h1 hc
  subst hm
  unfold Blk at hc hY
  rw [hY] at hc
  injection hc with hc
  injection hc with _ hc
  exact h2 hc)
theorem Upd.setA {a b : World} {g k : Nat} (h : Upd a b [g, k]) (o : Nat) (u : Value) : Upd a (b.setCell ⟨g, o, none⟩ u) [g, k] := h.setCell (by simp) u
theorem Upd.setB {a b : World} {g k : Nat} (h : Upd a b [g, k]) (o : Nat) (u : Value) : Upd a (b.setCell ⟨k, o, none⟩ u) [g, k] := h.setCell (by simp) u
theorem Upd.rowIn {a b : World} {fs : List Nat} (h : Upd a b fs) {g : Nat} (hg : g ∈ fs) (cs : Array Value) : Upd a (b.setRow g cs) fs :=
 ⟨h.os, h.tape, h.output, by rw [size_setRow]; exact h.size, fun k hk hn => (heap_setRow_ne b cs (fun e => hn (by rw [e]; exact hg))).trans (h.block k hk hn)⟩
theorem Upd.rowA {a b : World} {g k : Nat} (h : Upd a b [g, k]) (cs : Array Value) : Upd a (b.setRow g cs) [g, k] := Upd.rowIn h (by simp) cs
theorem Upd.rowB {a b : World} {g k : Nat} (h : Upd a b [g, k]) (cs : Array Value) : Upd a (b.setRow k cs) [g, k] := Upd.rowIn h (by simp) cs
theorem upd2T {a b : World} {g k : Nat} (h : Upd a b [g, k] := by ((repeat' (first | (with_reducible exact Upd.refl _ _) | (with_reducible refine Upd.drewNd ?_ _) | (with_reducible refine Upd.drewd1 ?_) | (with_reducible refine Upd.alloc ?_ _) | (with_reducible refine Upd.setA ?_ _ _) | (with_reducible refine Upd.setB ?_ _ _) | (with_reducible refine Upd.rowA ?_ _) | (with_reducible refine Upd.rowB ?_ _) | (with_reducible refine Upd.setAt ?_ ?_ _) | (with_reducible refine Upd.rowNew ?_ ?_ _) | omega)); first | done | fail)) : Upd a b [g, k] := h
theorem ow_edx0x1y01 {B : Nat} {e : TypeId} {n : Nat} {w w' : World} {v : Value} {xs : List Int} {t0 : TypeId} {k0 : Nat} {c0 : Array Value} {t1 : TypeId} {k1 : Nat} {c1 : Array Value} (O : OwnI B e n w v xs) (K0 : Blk w k0 t0 c0) (K1 : Blk w k1 t1 c1) (h : OwnI B e n w v xs → Blk w k0 t0 c0 → Blk w k1 t1 c1 → OwnI B e n w' v xs := by intro O1 K0 K1; first | (with_reducible exact O1) | (refine OwnI.drawn O1 ?_ (by omega); (exact updT); done) | (refine OwnI.updX O1 K0 (by decide) ?_; (exact updT); done) | (refine OwnI.updX O1 K1 (by decide) ?_; (exact updT); done) | (refine OwnI.updX2 O1 K0 K1 (by decide) (by decide) ?_; (exact upd2T); done)) : OwnI B e n w' v xs := h O K0 K1
theorem ow_ex0x1y01n {B : Nat} {e : TypeId} {n : Nat} {w w' : World} {v : Value} {xs : List Int} {t0 : TypeId} {k0 : Nat} {c0 : Array Value} {t1 : TypeId} {k1 : Nat} {c1 : Array Value} (O : OwnI B e n w v xs) (K0 : Blk w k0 t0 c0) (K1 : Blk w k1 t1 c1) (h : OwnI B e n w v xs → Blk w k0 t0 c0 → Blk w k1 t1 c1 → OwnI B e n w' v xs := by intro O1 K0 K1; first | (with_reducible exact O1) | (refine OwnI.updX O1 K0 (by decide) ?_; (exact updT); done) | (refine OwnI.updX O1 K1 (by decide) ?_; (exact updT); done) | (refine OwnI.updX2 O1 K0 K1 (by decide) (by decide) ?_; (exact upd2T); done) | (exact ownT)) : OwnI B e n w' v xs := h O K0 K1
end Go.Proofs.YtlnkggpemdpemaaGreat
