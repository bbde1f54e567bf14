/- Contracts and plain laws: DC DD DD2 DD3 OD HelpI. -/
import Derived.Test.YtcnioiieiebodaaGreatYa
import Derived.Test.YtcnioiieiebodaaGreatYj
import Derived.Test.YtcnioiieiebodaaGreatYf
import Derived.Test.YtcnioiieiebodaaGreatYe
import Derived.Test.YtcnioiieiebodaaGreatYb
set_option linter.unusedSimpArgs false
set_option linter.unusedVariables false
set_option maxHeartbeats 8000000
set_option maxRecDepth 100000
namespace Go.G8
open Go.RowKit
theorem bits_le (x : Int) : 0 ≤ bits .and .i64 x 255 ∧ bits .and .i64 x 255 ≤ 255 := by
 have h : (BitVec.ofInt 64 x &&& BitVec.ofInt 64 255).toNat ≤ 255 := by
  rw [BitVec.toNat_and]
  exact Nat.and_le_right
 have e : bits .and .i64 x 255 = IntKind.i64.wrap ((BitVec.ofInt 64 x &&& BitVec.ofInt 64 255).toNat : Int) := rfl
 rw [e, IntKind.wrap_i64] <;> omega
theorem Upd.setOne {a b : World} {g : Nat} (h : Upd a b [g]) (o : Nat) (u : Value) : Upd a (b.setCell ⟨g, o, none⟩ u) [g] := h.setCell (List.mem_singleton.2 rfl) u
theorem Upd.cell {a b : World} {fs : List Nat} (h : Upd a b fs) {k o : Nat} (hk : k < a.heap.size) (hn : k ∉ fs) : b.cell? ⟨k, o, none⟩ = a.cell? ⟨k, o, none⟩ := World.cell?_of_block (w := a) (h.block k hk hn)
theorem Blk.upd1 {w w' : World} {b g : Nat} {t : TypeId} {cs : Array Value} (h : Blk w b t cs) (x : Upd w w' [g]) (hn : b ≠ g) : Blk w' b t cs := h.upd x (fun hm => hn (List.mem_singleton.1 hm))
theorem Upd.drewNd {a b : World} {fs : List Nat} (h : Upd a b fs) (n : Nat) : Upd a (b.drewN n) fs := h.ext ((Ext.refl _).drewN n)
theorem Upd.drewd1 {a b : World} {fs : List Nat} (h : Upd a b fs) : Upd a b.drew fs := h.ext (Ext.drew (Ext.refl _))
theorem Upd.setAt {a b : World} {fs : List Nat} (h : Upd a b fs) {k o : Nat} {sp : Option _} (hp : a.heap.size ≤ k) (u : Value) : Upd a (b.setCell ⟨k, o, sp⟩ u) fs := h.setNew (p := ⟨k, o, sp⟩) hp u
theorem Upd.rowNew {a b : World} {fs : List Nat} (h : Upd a b fs) {g : Nat} (hg : a.heap.size ≤ g) (cs : Array Value) : Upd a (b.setRow g cs) fs :=
 ⟨h.os, h.tape, h.output, by rw [size_setRow]; exact h.size, fun k hk hn => (heap_setRow_ne b cs oM).trans (h.block k hk hn)⟩
theorem pick_int (l : List Int) {n : Nat} (h : n < l.length) : ∃ u : Int, (l.map (Value.int .i64)).toArray[n]? = some (.int .i64 u) := ⟨l[n], by simp [h]⟩
theorem Own.footB {B : Nat} {e : TypeId} {n : Nat} {w : World} {v : Value} {cs : List Value} (h : Own B e n w v cs) {k : Nat} (hk : k ∈ feet [v]) : B ≤ k := by
 simp only [feet, List.mem_filterMap] at hk
 obtain ⟨u, hu, hf⟩ := hk
 simp at hu; subst hu
 exact (h.lt hf).1
theorem Upd.app {a w w' : World} {B : Nat} {e : TypeId} {n : Nat} {v : Value} {cs : List Value} {fs : List Nat} (h : Upd a w fs) (ho : Own B e n w v cs) (hB : (∀ k, k ∈ feet [v] → k ∈ fs) ∨ a.heap.size ≤ B) (hg : w.grownBy w' v.ownBlock) : Upd a w' fs :=
 ⟨hg.os.trans h.os, hg.tape.trans h.tape, hg.output.trans h.output, Nat.le_trans h.size hg.size, fun k hk hn => by
  refine (hg.block k (Nat.lt_of_lt_of_le hk h.size) (fun e => ?_)).trans (h.block k hk hn)
  rcases hB with hB | hB
  ·
   exact hn (hB k (by simp [feet, e.symm]))
  have := (ho.lt e.symm).1; omega⟩
theorem Own.typed' {B : Nat} {e : TypeId} {n : Nat} {w : World} {v : Value} {cs : List Value} (h : Own B e n w v cs) {X : Nat} (hX : v.ownBlock = some X) : ∃ cur, Blk w X e cur := by
 obtain ⟨len, h⟩ := h
 rcases h.2 with ⟨h0, _⟩ | ⟨g, cap, cur, hv, hb, hg, _⟩
 ·
  rw [h0] at hX; simp [Value.ownBlock] at hX
 rw [hv] at hX
 simp [Value.ownBlock] at hX
 subst hX
 exact ⟨cur, hg⟩
theorem Blk.app {w w' : World} {g B : Nat} {t e : TypeId} {n : Nat} {v : Value} {cs : Array Value} {xs : List Value} (h : Blk w g t cs) (ho : Own B e n w v xs) (ht : t ≠ e) (hg : w.grownBy w' v.ownBlock) : Blk w' g t cs := by
 refine (hg.block g h.lt (fun hh => ?_)).trans h
 obtain ⟨cur, hb⟩ := ho.typed' hh.symm
 unfold Blk at h hb
 rw [h] at hb
 injection hb with hb
 injection hb with _ hb
 exact ht hb
theorem Own.app {w w' : World} {B B' : Nat} {t e : TypeId} {n m : Nat} {v u : Value} {cs xs : List Value} (h : Own B' t m w u cs) (ho : Own B e n w v xs) (ht : t ≠ e) (hg : w.grownBy w' v.ownBlock) : Own B' t m w' u cs := by
 refine h.kept hg ?_
 cases hu : u.ownBlock with
 | none => exact .inl rfl
 | some X =>
  refine .inr (fun hh => ?_)
  obtain ⟨c1, h1⟩ := h.typed' hu
  obtain ⟨c2, h2⟩ := ho.typed' hh.symm
  unfold Blk at h1 h2
  rw [h1] at h2
  injection h2 with h2
  injection h2 with _ h2
  exact ht h2
theorem OwnI.app {w w' : World} {B B' : Nat} {t e : TypeId} {n m : Nat} {v u : Value} {cs : List Int} {xs : List Value} (h : OwnI B' t m w u cs) (ho : Own B e n w v xs) (ht : t ≠ e) (hg : w.grownBy w' v.ownBlock) : OwnI B' t m w' u cs := Own.app h ho ht hg
theorem OwnI.drawn {B : Nat} {e : TypeId} {n : Nat} {w w' : World} {v : Value} {xs : List Int} {g : Nat} (h : OwnI B e n w v xs) (x : Upd w w' [g]) (hg : g < B) : OwnI B e n w' v xs :=
 Own.upd h x (fun k hk hm => by have := (Own.lt h hk).1; simp at hm; omega)
theorem OwnI.ext1 {B : Nat} {e : TypeId} {n : Nat} {w w' : World} {v : Value} {xs : List Int} (h : OwnI B e n w v xs) (x : Ext w w') : OwnI B e n w' v xs := Own.ext h x
theorem wp_appendU {P : Program} {w : World} {ops : Array Oper} {rest : List Oper} {o : Oper} {a : Act} {Q : Exit → Act → World → Prop} (hgd : o.guard = none) (s x : Operand) (t : TypeId)
  (ho : o.op = .call { callee := .builtin .append, args := #[s, x], argTypes := #[t, t] })
  (e : TypeId) (i : TypeInfo) (z : Value) (size bytes : Nat) (ht : P.underlying t = some (.slice e)) (hi : P.info? e = some i) (hz : i.zero = some z)
  (hsize : i.size = size) (hby : i.bytes = bytes) (hzs : z.cells.size = size) (hsz : 0 < size)
  (B : Nat) (v : Value) (cs : List Int) (hs : a.eval s = v) (hown : OwnI B e size w v cs) (u : Value) (news : List Int) (hx : a.eval x = u) (hsl : Sl size w u (news.map (.int .i64)))
  (n : Nat) (hlen : cs.length + news.length ≤ n * size) (hn : n ≤ 4611686018427387904) (hbytes : n * bytes ≤ 140737488355328) (hbase : B ≤ w.heap.size)
  (h : ∀ v' w', OwnI B e size w' v' (cs ++ news) → w.grownBy w' v.ownBlock → wpList P ops Q rest (a.put o.dst v') w') : wpList P ops Q (o :: rest) a w := by
 have hE : Ext { w with heap := #[] } w := ⟨rfl, rfl, rfl, Nat.zero_le _, fun k hk => by simp at hk⟩
 refine wp_append hgd s x t ho e i z size bytes ht hi hz hsize hby hzs hsz B v _ hs hown u _ hx hsl (ints_oneCell _ _) n (by simpa using hlen) (by unfold maxLen; omega) hbytes hbase { w with heap := #[] } hE (Nat.zero_le _) (fun v' w' h1 _ h3 => h v' w' (by simpa [OwnI] using h1) h3)
theorem updT {a b : World} {fs : List Nat} (h : Upd a b fs := by ((repeat' (first | (with_reducible exact Upd.refl _ _) | (with_reducible assumption) | (with_reducible refine Upd.drewNd ?_ _) | (with_reducible refine Upd.drewd1 ?_) | (with_reducible refine Upd.alloc ?_ _) | (with_reducible refine Upd.setOne ?_ _ _) | (with_reducible refine Upd.setAt ?_ ?_ _) | (with_reducible refine Upd.rowNew ?_ ?_ _) | (with_reducible refine Upd.trans ?_ (by assumption)) | (with_reducible refine Upd.ext ?_ (by assumption)) | omega)); first | done | fail)) : Upd a b fs := h
theorem ownT {B : Nat} {e : TypeId} {n : Nat} {w : World} {v : Value} {xs : List Int} (h : OwnI B e n w v xs := by ((repeat' (first | (with_reducible assumption) | (with_reducible refine OwnI.ext1 ?_ (Ext.alloc (Ext.refl _) _)) | (with_reducible refine OwnI.ext1 ?_ (Ext.drewN (Ext.refl _) _)) | (with_reducible refine OwnI.ext1 ?_ (Ext.drew (Ext.refl _))))); first | done | fail)) : OwnI B e n w v xs := h
def Bytes (w : World) (v : Value) : Prop := ∃ bs : List Int, Sl 1 w v (bs.map (.int .u8)) ∧ ∀ x, x ∈ bs → 0 ≤ x ∧ x ≤ 255
theorem Bytes.ext {w w' : World} {v : Value} (h : Bytes w v) (x : Ext w w') : Bytes w' v := let ⟨bs, h, hb⟩ := h; ⟨bs, h.ext x, hb⟩
end Go.G8
namespace Go.Proofs.YtcnioiieiebodaaGreat
open Go.RowKit Go.G8
def Cur (B : Nat) (w : World) (g : Nat) : Prop := ∃ (a : Option Addr) (n k i : Nat) (h : Int), Blk w g 117 #[.slice a n k, .int .i64 i, .int .i64 h] ∧ B ≤ g ∧ i ≤ n ∧ n ≤ k ∧ k ≤ maxLen ∧
 ∀ j, j < n → ∃ b off x, a = some ⟨b, off, none⟩ ∧ b < B ∧ 0 ≤ x ∧ x ≤ 255 ∧ w.cell? ⟨b, off + j, none⟩ = some (.int .u8 x)
theorem Cur.lt {B : Nat} {w : World} {g : Nat} (h : Cur B w g) : B ≤ g ∧ g < w.heap.size := let ⟨_, _, _, _, _, hk, hB, _⟩ := h; ⟨hB, hk.lt⟩
theorem Cur.upd {B : Nat} {w w' : World} {g : Nat} {fs : List Nat} (h : Cur B w g) (x : Upd w w' fs) (hg : g ∉ fs) (hB : ∀ k, k ∈ fs → B ≤ k) : Cur B w' g := by
 obtain ⟨a, n, k, i, e, hk, h0, h1, h2, h3, h4⟩ := h
 refine ⟨a, n, k, i, e, hk.upd x hg, h0, h1, h2, h3, fun j hj => ?_⟩
 obtain ⟨b, off, y, h5, h6, h7, h8, h9⟩ := h4 j hj
 have := hk.lt
 exact ⟨b, off, y, h5, h6, h7, h8, (x.cell oM (fun hm => by have := hB b hm; omega)).trans h9⟩
theorem Cur.ext {B : Nat} {w w' : World} {g : Nat} (h : Cur B w g) (x : Ext w w') : Cur B w' g := h.upd (x.upd []) (by simp) (by simp)
theorem Cur.set_ {B : Nat} {w : World} {g : Nat} (h : Cur B w g) {X : Nat} (hX : g < X) (o : Nat) (u : Value) : Cur B (w.setCell ⟨X, o, none⟩ u) g :=
 h.upd ((Upd.refl w [X]).setOne o u) (by simp; omega) (fun k hk => by have := h.lt; simp at hk; omega)
theorem Cur.row {B : Nat} {w : World} {g : Nat} (h : Cur B w g) {X : Nat} (hX : g < X) (cs : Array Value) : Cur B (w.setRow X cs) g :=
 h.upd (fs := [X]) ⟨rfl, rfl, rfl, by rw [size_setRow]; exact Nat.le_refl _, fun k _ hn => heap_setRow_ne w cs (fun e => hn (by simp [e]))⟩ (by simp; omega) (fun k hk => by have := h.lt; simp at hk; omega)
theorem Cur.of {B : Nat} {w w' : World} {g n k i' : Nat} {a : Option Addr} {h' : Int} (X : Upd w w' [g]) (hg : g < w.heap.size) (K : Blk w' g 117 #[.slice a n k, .int .i64 i', .int .i64 h']) (h0 : B ≤ g) (h1 : i' ≤ n) (h2 : n ≤ k) (h3 : k ≤ 9223372036854775807)
  (h4 : ∀ j, j < n → ∃ b off x, a = some ⟨b, off, none⟩ ∧ b < B ∧ 0 ≤ x ∧ x ≤ 255 ∧ w.cell? ⟨b, off + j, none⟩ = some (.int .u8 x)) : Cur B w' g := by
 refine ⟨a, n, k, i', h', K, h0, h1, h2, by unfold maxLen; omega, fun j hj => ?_⟩
 obtain ⟨b, off, y, h5, h6, h7, h8, h9⟩ := h4 j hj
 exact ⟨b, off, y, h5, h6, h7, h8, (X.cell oM (by simp; omega)).trans h9⟩
theorem curT {B : Nat} {w : World} {g : Nat} (h : Cur B w g := by ((repeat' (first | (with_reducible assumption) | (with_reducible refine Cur.set_ ?_ ?_ _ _) | (with_reducible refine Cur.row ?_ ?_ _) | (with_reducible refine Cur.ext ?_ (Ext.drewN (Ext.refl _) _)) | (with_reducible refine Cur.ext ?_ (Ext.drew (Ext.refl _))) | (with_reducible refine Cur.ext ?_ (Ext.alloc (Ext.refl _) _)) | omega)); first | done | fail)) : Cur B w g := h
theorem _root_.Go.G8.Upd.up {w w1 w2 : World} {fs : List Nat} (X : Upd w1 w2 fs) (h : Upd w w1 fs := by exact updT) : Upd w w2 fs := Upd.trans h X
theorem _root_.Go.Shut.o2 {P : Program} {ops : Array Oper} {Q : Exit → Act → World → Prop} {md : Region.Mode} {S : World → Prop} {fuel : Nat} {listed : Array Bool} {a : Act} {w : World} {K' : Act → World → Prop} (h : Shut (∀ a w, S w → (S w → wpAnyH P md ops Q S fuel listed a w) → K' a w)) (k : S w → wpAnyH P md ops Q S fuel listed a w) (hS : S w := by (try dsimp only); exact ⟨(by exact updT), (by exact curT)⟩) : K' a w := h.out _ _ hS k
theorem _root_.Go.Shut.o3 {P : Program} {ops : Array Oper} {Q : Exit → Act → World → Prop} {md : Region.Mode} {S : World → Prop} {fuel : Nat} {listed : Array Bool} {a : Act} {w : World} {K' : Act → World → Prop} (h : Shut (∀ a w, S w → (S w → wpAnyH P md ops Q S fuel listed a w) → K' a w)) (k : S w → wpAnyH P md ops Q S fuel listed a w) (hS : S w := by (try dsimp only); exact ⟨(by exact updT), (by exact curT), (Blk.cast (by exact blkT) setsT)⟩) : K' a w := h.out _ _ hS k
theorem _root_.Go.Shut.o4 {P : Program} {ops : Array Oper} {Q : Exit → Act → World → Prop} {md : Region.Mode} {S : World → Prop} {fuel : Nat} {listed : Array Bool} {a : Act} {w : World} {K' : Act → World → Prop} (h : Shut (∀ a w, S w → (S w → wpAnyH P md ops Q S fuel listed a w) → K' a w)) (k : S w → wpAnyH P md ops Q S fuel listed a w) (hS : S w := by (try dsimp only); exact ⟨(by exact updT), (by exact curT), (Blk.cast (by exact blkT) setsT), (Blk.cast (by exact blkT) setsT)⟩) : K' a w := h.out _ _ hS k
theorem cU (B : Nat) {w : World} {g : Nat} (h : Cur B w g := by exact curT) : Cur B w g := h
theorem wh {P : Program} {ops : Array Oper} {Q : Exit → Act → World → Prop} {S : World → Prop} {id : Nat} {a : Act} {w : World} (h : S w.drew → wpAnyH P .any ops Q S ops.size (Array.replicate ops.size false) a w.drew) (hS : S w.drew := by (try dsimp only); exact ⟨(by exact updT), (by exact curT)⟩) (hm : P.follows .mixedOrders = true := by kernel_rfl) : (Code.region id ops true).wp P Q a w := wp_region_held_drew hm hS h
theorem ow_ed {B : Nat} {e : TypeId} {n : Nat} {w w' : World} {v : Value} {xs : List Int} (O : OwnI B e n w v xs) (h : OwnI B e n w v xs → OwnI B e n w' v xs := by intro O1 ; first | (with_reducible exact O1) | (refine OwnI.drawn O1 ?_ (by omega); (exact updT); done)) : OwnI B e n w' v xs := h O
theorem ow_en {B : Nat} {e : TypeId} {n : Nat} {w w' : World} {v : Value} {xs : List Int} (O : OwnI B e n w v xs) (h : OwnI B e n w v xs → OwnI B e n w' v xs := by intro O1 ; first | (with_reducible exact O1) | (exact ownT)) : OwnI B e n w' v xs := h O
def Dr (B : Nat) (w : World) (g : Nat) (Q : Value → World → Prop) (e : Ending) (w' : World) : Prop := ∃ v, e = .returned v ∧ Upd w w' [g] ∧ Cur B w' g ∧ Q v w'
section
variable {B : Nat} {w : World} {g : Nat}
theorem Cur.app {B0 B g n : Nat} {e : TypeId} {w w' : World} {v : Value} {cs : List Value} (h : Cur B0 w g) (ho : Own B e n w v cs) (hB : g < B) (hg : w.grownBy w' v.ownBlock) : Cur B0 w' g :=
 h.upd (Upd.app (Upd.refl w _) ho (fs := feet [v]) (.inl fun _ h => h) hg) (fun hm => by have := ho.footB hm; omega) (fun k hk => by have := ho.footB hk; have := h.lt; omega)
theorem l1Byte_c (h : Cur B w g) : Calls Tryz.prog 78 #[.pointer (some ⟨g, 0, none⟩)] w (Dr B w g fun v _ => ∃ x : Int, v = .int .i64 x ∧ 0 ≤ x ∧ x ≤ 255) := by
 have HC := Lib.hid h
 obtain ⟨a, n, k, i, e, hk, h0, h1, h2, h3, h4⟩ := h
 unfold maxLen at h3
 have CK := hk.cell; have FK := hk.frozen; have LK := hk.lt
 have HK := Lib.hid hk
 clear hk
 by_cases hi : i < n
 ·
  obtain ⟨b, off, y, rfl, hb, y0, y1, hy⟩ := h4 i hi
  have H4 := Lib.hid h4
  clear h4
  have hbg : b ≠ g := by omega
  have hbl : b < w.heap.size := by omega
  have hyb : decide ((i : Int) < (n : Int)) = true := by simp; omega
  go_enter Tryz.func78, Tryz.ntmps78
  go_wp2_with fail
  go_quiet (fail)
  go_wp2_with fail
  go_quiet (fail)
  go_wp2_with fail
  go_quiet (fail)
  go_wp2_with fail
  go_ret
  refine ⟨_, rfl, ?_, ?_, _, rfl, (bits_le _).1, (bits_le _).2⟩
  ·
   exact updT
  refine Cur.of (w := w) (i' := i + 1) ?_ LK (by refine Blk.cast (by repeat' (first | (with_reducible exact HK.out) | (with_reducible apply Blk.drewN) | (with_reducible apply Blk.set_))) (by simp; rfl)) h0 oM h2 oM H4.out
  exact updT
 have hyb : decide ((i : Int) < (n : Int)) = false := by simp; omega
 go_enter Tryz.func78, Tryz.ntmps78
 go_wp2_with fail
 go_quiet (fail)
 go_wp2_with fail
 go_quiet (fail)
 go_wp2_with fail
 go_ret
 refine ⟨_, rfl, ?_, ?_, _, rfl, (bits_le _).1, (bits_le _).2⟩
 ·
  exact updT
 refine Cur.of (w := w) (i' := i) ?_ LK (by refine Blk.cast (by repeat' (first | (with_reducible exact HK.out) | (with_reducible apply Blk.drewN) | (with_reducible apply Blk.set_))) (by simp; rfl)) h0 oM h2 oM h4
 exact updT
theorem l1Below_c (h : Cur B w g) (m : Int) : Calls Tryz.prog 30 #[.pointer (some ⟨g, 0, none⟩), .int .i64 m] w (Dr B w g fun v _ => ∃ x : Int, v = .int .i64 x ∧ 0 ≤ x ∧ (0 < m → x < m) ∧ (m ≤ 0 → x = 0)) := by
 by_cases h0 : m ≤ 0
 ·
  go_enter Tryz.func30, Tryz.ntmps30
  go_wp2_with fail
  go_ret
  exact ⟨_, rfl, Upd.refl _ _, h, _, rfl, by omega, fun h => by omega, fun _ => rfl⟩
 have hm : m ≠ 0 := by omega
 by_cases h1 : m ≤ 256
 ·
  go_enter Tryz.func30, Tryz.ntmps30
  go_wp2_with fail
  refine (l1Byte_c h).mono ?_
  rintro e w1 ⟨_, rfl, X1, h2, x, rfl, x0, x1⟩
  go_wp2_with fail
  go_ret
  exact ⟨_, rfl, X1, h2, _, rfl, Int.emod_nonneg _ hm, fun _ => Int.emod_lt_of_pos _ oM, fun h => by omega⟩
 go_enter Tryz.func30, Tryz.ntmps30
 go_wp2_with fail
 refine (l1Byte_c h).mono ?_
 rintro e w1 ⟨_, rfl, X1, h2, x, rfl, x0, x1⟩
 go_wp2_with fail
 refine (l1Byte_c h2).mono ?_
 rintro e w2 ⟨_, rfl, X2, h3, y, rfl, y0, y1⟩
 go_wp2_with fail
 refine (l1Byte_c h3).mono ?_
 rintro e w3 ⟨_, rfl, X3, h4, z, rfl, z0, z1⟩
 go_wp2_with fail
 refine (l1Byte_c h4).mono ?_
 rintro e w4 ⟨_, rfl, X4, h5, t, rfl, t0, t1⟩
 go_wp2_with fail
 go_ret
 exact ⟨_, rfl, ((X1.trans X2).trans X3).trans X4, h5, _, rfl, Int.emod_nonneg _ hm, fun _ => Int.emod_lt_of_pos _ oM, fun h => by omega⟩
theorem l1Once_c (h : Cur B w g) (m : Int) : Calls Tryz.prog 48 #[.pointer (some ⟨g, 0, none⟩), .int .i64 m] w (Dr B w g fun v _ => ∃ x : Bool, v = .bool x) := by
 go_enter Tryz.func48, Tryz.ntmps48
 go_wp2_with fail
 refine (l1Below_c h m).mono ?_
 rintro e w1 ⟨_, rfl, X1, h2, x, rfl, x0, x1⟩
 go_wp2_with fail
 go_ret
 exact ⟨_, rfl, X1, h2, _, rfl⟩
theorem l1From_c (h : Cur B w g) (lo hi : Int) (h0 : -1152921504606846976 ≤ lo) (h1 : lo ≤ hi) (h2 : hi ≤ 1152921504606846976) : Calls Tryz.prog 32 #[.pointer (some ⟨g, 0, none⟩), .int .i64 lo, .int .i64 hi] w (Dr B w g fun v _ => ∃ x : Int, v = .int .i64 x ∧ lo ≤ x ∧ x ≤ hi) := by
 have e1 : IntKind.i64.wrap (hi - lo) = hi - lo := by rw [IntKind.wrap_i64]; omega
 have e2 : IntKind.i64.wrap (hi - lo + 1) = hi - lo + 1 := by rw [IntKind.wrap_i64]; omega
 go_enter Tryz.func32, Tryz.ntmps32
 go_wp2_with fail
 refine (l1Below_c h _).mono ?_
 rintro e w1 ⟨_, rfl, X1, h3, x, rfl, x0, x1, x2⟩
 have e3 : IntKind.i64.wrap (lo + x) = lo + x := by rw [IntKind.wrap_i64]; omega
 go_wp2_with fail
 go_ret
 exact ⟨_, rfl, X1, h3, _, rfl, by omega, by omega⟩
theorem l1Min_c (x y : Int) : Calls Tryz.prog 80 #[.int .i64 x, .int .i64 y] w (fun e w' => e = .returned (.int .i64 (min x y)) ∧ w = w') := by
 go_enter Tryz.func80, Tryz.ntmps80
 go_wp2_with fail
 all_goals
  go_ret
  exact ⟨congrArg (fun z => Ending.returned (Value.int .i64 z)) oM, rfl⟩
theorem l1Odd_c (h : Cur B w g) : Calls Tryz.prog 79 #[.pointer (some ⟨g, 0, none⟩)] w (Dr B w g fun v _ => ∃ x : Int, v = .int .i64 x) := by
 go_enter Tryz.func79, Tryz.ntmps79
 go_wp2_with fail
 refine (l1Below_c (h.ext xT) 10).mono ?_
 rintro e w1 ⟨_, rfl, X1, h2, x, rfl, x0, x1, _⟩
 obtain ⟨u, hu⟩ : ∃ u : Int, w1.cell? ⟨w.heap.size, x.toNat, none⟩ = some (.int .i64 u) := by
  rw [((Blk.new w _ _).upd1 X1 (by have := h.lt; omega)).cell]
  have : x.toNat < 10 := by omega
  exact pick_int [-1, 0, 1, 2147483648, -2147483648, 1099511627776, 4611686018427387904, -4611686018427387904, 9223372036854775807, -9223372036854775808] this
 go_wp2_with fail
 go_ret
 exact ⟨_, rfl, by exact updT, h2, _, rfl⟩
end
theorem l16Draw_c {B : Nat} {w : World} {g : Nat} (h : Cur B w g) : Calls Tryz.prog 171 #[.pointer (some ⟨g, 0, none⟩)] w (Dr B w g fun v w' => ∃ x y z : Int, v = .agg #[.int .i64 x, .int .i64 y, .int .i64 z]) := by
 have hc0 := h; have E0 : Upd w w [g] := Upd.refl _ _
 have hg0 := h.lt
 go_enter Tryz.func171, Tryz.ntmps171
 go_wp2_with fail
 refine (l1Once_c (cU B) 8).mono ?_
 rintro e w1 ⟨_, rfl, X1, hc1, b1, rfl⟩
 have hz1 := X1.sz
 have E1 : Upd w w1 [g] := X1.up
 have KR1 : Blk w1 w.heap.size 61 #[.int .i64 0, .int .i64 0, .int .i64 0] := bU X1
 clear X1
 obtain ⟨CR1, FR1, LR1⟩ := KR1.cfl
 cases b1
 rotate_left
 ·
  go_wp2_with fail
  refine bodyPost_ret (by simp [results, Tryz.results171, go_sem, CR1, FR1, LR1]; try rfl) rfl ?_
  exact ⟨_, rfl, by exact updT, by exact curT, _, _, _, rfl⟩
 go_wp2_with fail
 refine (l1Below_c (cU B) 2).mono ?_
 rintro e w2 ⟨_, rfl, X2, hc2, x1, rfl, px1, qx1, rx1⟩
 have hz2 := X2.sz
 have E2 : Upd w w2 [g] := X2.up
 have KR2 := KR1.upv X2
 clear X2
 clear CR1 FR1 LR1
 obtain ⟨CR2, FR2, LR2⟩ := KR2.cfl
 have qx1 := qx1 dC; clear rx1
 go_wp2_with fail
 refine (l1Below_c (cU B) 5).mono ?_
 rintro e w3 ⟨_, rfl, X3, hc3, x2, rfl, px2, qx2, rx2⟩
 have hz3 := X3.sz
 have E3 : Upd w w3 [g] := X3.up
 have KR3 := KR2.upv X3
 clear X3
 clear CR2 FR2 LR2
 obtain ⟨CR3, FR3, LR3⟩ := KR3.cfl
 have qx2 := qx2 dC; clear rx2
 go_wp2_with fail
 refine (l1Below_c (cU B) 60).mono ?_
 rintro e w4 ⟨_, rfl, X4, hc4, x3, rfl, px3, qx3, rx3⟩
 have hz4 := X4.sz
 have E4 : Upd w w4 [g] := X4.up
 have KR4 := KR3.upv X4
 clear X4
 clear CR3 FR3 LR3
 obtain ⟨CR4, FR4, LR4⟩ := KR4.cfl
 have qx3 := qx3 dC; clear rx3
 go_wp2_with fail
 refine (l1Once_c (cU B) 8).mono ?_
 rintro e w5 ⟨_, rfl, X5, hc5, b2, rfl⟩
 have hz5 := X5.sz
 have E5 : Upd w w5 [g] := X5.up
 have KR5 := KR4.upv X5
 have KL5 : Blk w5 w4.heap.size 61 #[.int .i64 (2 + x1), .int .i64 (1 + x2), .int .i64 (1 + x3)] := bU X5
 clear X5
 clear CR4 FR4 LR4
 obtain ⟨CR5, FR5, LR5⟩ := KR5.cfl
 obtain ⟨CL5, FL5, LL5⟩ := KL5.cfl
 cases b2
 rotate_left
 ·
  go_wp2_with fail
  refine (l1Below_c (cU B) 2).mono ?_
  rintro e w6 ⟨_, rfl, X6, hc6, x4, rfl, px4, qx4, rx4⟩
  have hz6 := X6.sz
  have E6 : Upd w w6 [g] := X6.up
  have KR6 := KR5.upv X6
  have KL6 := KL5.upv X6
  clear X6
  clear CR5 FR5 LR5 CL5 FL5 LL5
  obtain ⟨CR6, FR6, LR6⟩ := KR6.cfl
  obtain ⟨CL6, FL6, LL6⟩ := KL6.cfl
  have qx4 := qx4 dC; clear rx4
  go_wp2_with fail
  refine (l1Once_c (cU B) 8).mono ?_
  rintro e w7 ⟨_, rfl, X7, hc7, b3, rfl⟩
  have hz7 := X7.sz
  have E7 : Upd w w7 [g] := X7.up
  have KR7 := KR6.upv X7
  have KL7 : Blk w7 w4.heap.size 61 #[.int .i64 (2 + x1), .int .i64 (1000 - x4), .int .i64 (1 + x3)] := bU X7
  clear X7
  clear CR6 FR6 LR6 CL6 FL6 LL6
  obtain ⟨CR7, FR7, LR7⟩ := KR7.cfl
  obtain ⟨CL7, FL7, LL7⟩ := KL7.cfl
  cases b3
  rotate_left
  ·
   go_wp2_with fail
   refine (l1Below_c (cU B) 4).mono ?_
   rintro e w8 ⟨_, rfl, X8, hc8, x5i, rfl, px5, qx5, rx5⟩
   have hz8 := X8.sz
   have E8 : Upd w w8 [g] := X8.up
   have KR8 := KR7.upv X8
   have KL8 := KL7.upv X8
   have KPk8 : Blk w8 w7.heap.size 2 #[.int .i64 999999, .int .i64 1000000, .int .i64 1000001, .int .i64 1001000] := bU X8
   clear X8
   clear CR7 FR7 LR7 CL7 FL7 LL7
   obtain ⟨CR8, FR8, LR8⟩ := KR8.cfl
   obtain ⟨CL8, FL8, LL8⟩ := KL8.cfl
   obtain ⟨CPk8, FPk8, LPk8⟩ := KPk8.cfl
   have qx5 := qx5 dC; clear rx5
   obtain ⟨x5, hx5⟩ : ∃ u : Int, w8.cell? ⟨w7.heap.size, x5i.toNat, none⟩ = some (.int .i64 u) := by
    rw [KPk8.cell]
    have : x5i.toNat < 4 := by omega
    exact pick_int [999999, 1000000, 1000001, 1001000] this
   clear CPk8
   go_wp2_with fail
   refine bodyPost_ret (by simp [results, Tryz.results171, go_sem, CR8, FR8, LR8, CL8, FL8, LL8, FPk8, LPk8, hx5]; try rfl) rfl ?_
   exact ⟨_, rfl, by exact updT, by exact curT, _, _, _, rfl⟩
  go_wp2_with fail
  refine bodyPost_ret (by simp [results, Tryz.results171, go_sem, CR7, FR7, LR7, CL7, FL7, LL7]; try rfl) rfl ?_
  exact ⟨_, rfl, by exact updT, by exact curT, _, _, _, rfl⟩
 go_wp2_with fail
 refine (l1Once_c (cU B) 8).mono ?_
 rintro e w6 ⟨_, rfl, X6, hc6, b3, rfl⟩
 have hz6 := X6.sz
 have E6 : Upd w w6 [g] := X6.up
 have KR6 := KR5.upv X6
 have KL6 := KL5.upv X6
 clear X6
 clear CR5 FR5 LR5 CL5 FL5 LL5
 obtain ⟨CR6, FR6, LR6⟩ := KR6.cfl
 obtain ⟨CL6, FL6, LL6⟩ := KL6.cfl
 cases b3
 rotate_left
 ·
  go_wp2_with fail
  refine (l1Below_c (cU B) 4).mono ?_
  rintro e w7 ⟨_, rfl, X7, hc7, x5i, rfl, px5, qx5, rx5⟩
  have hz7 := X7.sz
  have E7 : Upd w w7 [g] := X7.up
  have KR7 := KR6.upv X7
  have KL7 := KL6.upv X7
  have KPk7 : Blk w7 w6.heap.size 2 #[.int .i64 999999, .int .i64 1000000, .int .i64 1000001, .int .i64 1001000] := bU X7
  clear X7
  clear CR6 FR6 LR6 CL6 FL6 LL6
  obtain ⟨CR7, FR7, LR7⟩ := KR7.cfl
  obtain ⟨CL7, FL7, LL7⟩ := KL7.cfl
  obtain ⟨CPk7, FPk7, LPk7⟩ := KPk7.cfl
  have qx5 := qx5 dC; clear rx5
  obtain ⟨x5, hx5⟩ : ∃ u : Int, w7.cell? ⟨w6.heap.size, x5i.toNat, none⟩ = some (.int .i64 u) := by
   rw [KPk7.cell]
   have : x5i.toNat < 4 := by omega
   exact pick_int [999999, 1000000, 1000001, 1001000] this
  clear CPk7
  go_wp2_with fail
  refine bodyPost_ret (by simp [results, Tryz.results171, go_sem, CR7, FR7, LR7, CL7, FL7, LL7, FPk7, LPk7, hx5]; try rfl) rfl ?_
  exact ⟨_, rfl, by exact updT, by exact curT, _, _, _, rfl⟩
 go_wp2_with fail
 refine bodyPost_ret (by simp [results, Tryz.results171, go_sem, CR6, FR6, LR6, CL6, FL6, LL6]; try rfl) rfl ?_
 exact ⟨_, rfl, by exact updT, by exact curT, _, _, _, rfl⟩
theorem l1Num_c {B : Nat} {w : World} {g : Nat} (h : Cur B w g) (m : Int) (h0 : 0 ≤ m) (h1 : m ≤ 1152921504606846976) : Calls Tryz.prog 31 #[.pointer (some ⟨g, 0, none⟩), .int .i64 m] w (Dr B w g fun v w' => ∃ x : Int, v = .int .i64 x) := by
 have hc0 := h; have E0 : Upd w w [g] := Upd.refl _ _
 have hg0 := h.lt
 go_enter Tryz.func31, Tryz.ntmps31
 have e1 : IntKind.i64.wrap (m + 1) = m + 1 := by rw [IntKind.wrap_i64]; omega
 go_wp2_with fail
 refine (l1Once_c (cU B) 10).mono ?_
 rintro e w1 ⟨_, rfl, X1, hc1, b1, rfl⟩
 have hz1 := X1.sz
 have E1 : Upd w w1 [g] := X1.up
 clear X1
 cases b1
 rotate_left
 ·
  go_wp2_with fail
  refine (l1Odd_c (cU B)).mono ?_
  rintro e w2 ⟨_, rfl, X2, hc2, o1, rfl⟩
  have hz2 := X2.sz
  have E2 : Upd w w2 [g] := X2.up
  clear X2
  go_wp2_with fail
  refine (l1Below_c (cU B) 4).mono ?_
  rintro e w3 ⟨_, rfl, X3, hc3, x1i, rfl, px1, qx1, rx1⟩
  have hz3 := X3.sz
  have E3 : Upd w w3 [g] := X3.up
  have KPk3 : Blk w3 w2.heap.size 2 #[.int .i64 (-1), .int .i64 m, .int .i64 (m + 1), .int .i64 o1] := bU X3
  clear X3
  obtain ⟨CPk3, FPk3, LPk3⟩ := KPk3.cfl
  have qx1 := qx1 dC; clear rx1
  obtain ⟨x1, hx1⟩ : ∃ u : Int, w3.cell? ⟨w2.heap.size, x1i.toNat, none⟩ = some (.int .i64 u) := by
   rw [KPk3.cell]
   have : x1i.toNat < 4 := by omega
   exact pick_int [-1, m, (m + 1), o1] this
  clear CPk3
  go_wp2_with fail
  go_ret
  exact ⟨_, rfl, by exact updT, by exact curT, _, rfl⟩
 go_wp2_with fail
 refine (l1Once_c (cU B) 2).mono ?_
 rintro e w2 ⟨_, rfl, X2, hc2, b2, rfl⟩
 have hz2 := X2.sz
 have E2 : Upd w w2 [g] := X2.up
 clear X2
 cases b2
 rotate_left
 ·
  go_wp2_with fail
  refine (l1Min_c _ _).mono ?_
  rintro e9 w9 ⟨rfl, rfl⟩
  have e2 : IntKind.i64.wrap (min m 4 + 1) = min m 4 + 1 := by rw [IntKind.wrap_i64]; omega
  go_wp2_with fail
  refine (l1Below_c (cU B) _).mono ?_
  rintro e w3 ⟨_, rfl, X3, hc3, x2, rfl, px2, qx2, rx2⟩
  have hz3 := X3.sz
  have E3 : Upd w w3 [g] := X3.up
  clear X3
  go_wp2_with fail
  go_ret
  exact ⟨_, rfl, by exact updT, by exact curT, _, rfl⟩
 go_wp2_with fail
 refine (l1Below_c (cU B) _).mono ?_
 rintro e w3 ⟨_, rfl, X3, hc3, x2, rfl, px2, qx2, rx2⟩
 have hz3 := X3.sz
 have E3 : Upd w w3 [g] := X3.up
 clear X3
 go_wp2_with fail
 go_ret
 exact ⟨_, rfl, by exact updT, by exact curT, _, rfl⟩
theorem l16DrawAny_c {B : Nat} {w : World} {g : Nat} (h : Cur B w g) : Calls Tryz.prog 146 #[.pointer (some ⟨g, 0, none⟩)] w (Dr B w g fun v w' => ∃ x y z : Int, v = .agg #[.int .i64 x, .int .i64 y, .int .i64 z]) := by
 have hc0 := h; have E0 : Upd w w [g] := Upd.refl _ _
 have hg0 := h.lt
 go_enter Tryz.func146, Tryz.ntmps146
 go_wp2_with fail
 refine (l16Draw_c (cU B)).mono ?_
 rintro e w1 ⟨_, rfl, X1, hc1, x, y, z, rfl⟩
 have hz1 := X1.sz
 have E1 : Upd w w1 [g] := X1.up
 have KR1 : Blk w1 w.heap.size 61 #[.int .i64 0, .int .i64 0, .int .i64 0] := bU X1
 clear X1
 obtain ⟨CR1, FR1, LR1⟩ := KR1.cfl
 go_wp2_with fail
 refine (l1Once_c (cU B) 6).mono ?_
 rintro e w2 ⟨_, rfl, X2, hc2, b1, rfl⟩
 have hz2 := X2.sz
 have E2 : Upd w w2 [g] := X2.up
 have KR2 := KR1.upv X2
 have KL2 : Blk w2 w1.heap.size 61 #[.int .i64 x, .int .i64 y, .int .i64 z] := bU X2
 clear X2
 clear CR1 FR1 LR1
 obtain ⟨CR2, FR2, LR2⟩ := KR2.cfl
 obtain ⟨CL2, FL2, LL2⟩ := KL2.cfl
 cases b1
 rotate_left
 ·
  go_wp2_with fail
  refine (l1Below_c (cU B) 3).mono ?_
  rintro e w3 ⟨_, rfl, X3, hc3, m, rfl, pm, qm, rm⟩
  have hz3 := X3.sz
  have E3 : Upd w w3 [g] := X3.up
  have KR3 := KR2.upv X3
  have KL3 := KL2.upv X3
  clear X3
  clear CR2 FR2 LR2 CL2 FL2 LL2
  obtain ⟨CR3, FR3, LR3⟩ := KR3.cfl
  obtain ⟨CL3, FL3, LL3⟩ := KL3.cfl
  have qm := qm dC; clear rm
  obtain rfl | rfl | rfl : m = 0 ∨ m = 1 ∨ m = 2 := by omega
  ·
   go_wp2_with fail
   refine (l1Below_c (cU B) 4).mono ?_
   rintro e w4 ⟨_, rfl, X4, hc4, ui, rfl, pu, qu, ru⟩
   have hz4 := X4.sz
   have E4 : Upd w w4 [g] := X4.up
   have KR4 := KR3.upv X4
   have KL4 := KL3.upv X4
   have KPk4 : Blk w4 w3.heap.size 2 #[.int .i64 0, .int .i64 1, .int .i64 4, .int .i64 (-1)] := bU X4
   clear X4
   clear CR3 FR3 LR3 CL3 FL3 LL3
   obtain ⟨CR4, FR4, LR4⟩ := KR4.cfl
   obtain ⟨CL4, FL4, LL4⟩ := KL4.cfl
   obtain ⟨CPk4, FPk4, LPk4⟩ := KPk4.cfl
   have qu := qu dC; clear ru
   obtain ⟨u, hu⟩ : ∃ u : Int, w4.cell? ⟨w3.heap.size, ui.toNat, none⟩ = some (.int .i64 u) := by
    rw [KPk4.cell]
    have : ui.toNat < 4 := by omega
    exact pick_int [0, 1, 4, -1] this
   clear CPk4
   go_wp2_with fail
   refine bodyPost_ret (by simp [results, Tryz.results146, go_sem, CR4, FR4, LR4, CL4, FL4, LL4, FPk4, LPk4, hu]; try rfl) rfl ?_
   exact ⟨_, rfl, by exact updT, by exact curT, _, _, _, rfl⟩
  ·
   go_wp2_with fail
   refine (l1Below_c (cU B) 3).mono ?_
   rintro e w4 ⟨_, rfl, X4, hc4, ui, rfl, pu, qu, ru⟩
   have hz4 := X4.sz
   have E4 : Upd w w4 [g] := X4.up
   have KR4 := KR3.upv X4
   have KL4 := KL3.upv X4
   have KPk4 : Blk w4 w3.heap.size 2 #[.int .i64 0, .int .i64 (-1), .int .i64 1001] := bU X4
   clear X4
   clear CR3 FR3 LR3 CL3 FL3 LL3
   obtain ⟨CR4, FR4, LR4⟩ := KR4.cfl
   obtain ⟨CL4, FL4, LL4⟩ := KL4.cfl
   obtain ⟨CPk4, FPk4, LPk4⟩ := KPk4.cfl
   have qu := qu dC; clear ru
   obtain ⟨u, hu⟩ : ∃ u : Int, w4.cell? ⟨w3.heap.size, ui.toNat, none⟩ = some (.int .i64 u) := by
    rw [KPk4.cell]
    have : ui.toNat < 3 := by omega
    exact pick_int [0, -1, 1001] this
   clear CPk4
   go_wp2_with fail
   refine bodyPost_ret (by simp [results, Tryz.results146, go_sem, CR4, FR4, LR4, CL4, FL4, LL4, FPk4, LPk4, hu]; try rfl) rfl ?_
   exact ⟨_, rfl, by exact updT, by exact curT, _, _, _, rfl⟩
  go_wp2_with fail
  refine (l1Below_c (cU B) 3).mono ?_
  rintro e w4 ⟨_, rfl, X4, hc4, ui, rfl, pu, qu, ru⟩
  have hz4 := X4.sz
  have E4 : Upd w w4 [g] := X4.up
  have KR4 := KR3.upv X4
  have KL4 := KL3.upv X4
  have KPk4 : Blk w4 w3.heap.size 2 #[.int .i64 0, .int .i64 (-1), .int .i64 1001001] := bU X4
  clear X4
  clear CR3 FR3 LR3 CL3 FL3 LL3
  obtain ⟨CR4, FR4, LR4⟩ := KR4.cfl
  obtain ⟨CL4, FL4, LL4⟩ := KL4.cfl
  obtain ⟨CPk4, FPk4, LPk4⟩ := KPk4.cfl
  have qu := qu dC; clear ru
  obtain ⟨u, hu⟩ : ∃ u : Int, w4.cell? ⟨w3.heap.size, ui.toNat, none⟩ = some (.int .i64 u) := by
   rw [KPk4.cell]
   have : ui.toNat < 3 := by omega
   exact pick_int [0, -1, 1001001] this
  clear CPk4
  go_wp2_with fail
  refine bodyPost_ret (by simp [results, Tryz.results146, go_sem, CR4, FR4, LR4, CL4, FL4, LL4, FPk4, LPk4, hu]; try rfl) rfl ?_
  exact ⟨_, rfl, by exact updT, by exact curT, _, _, _, rfl⟩
 go_wp2_with fail
 refine bodyPost_ret (by simp [results, Tryz.results146, go_sem, CR2, FR2, LR2, CL2, FL2, LL2]; try rfl) rfl ?_
 exact ⟨_, rfl, by exact updT, by exact curT, _, _, _, rfl⟩
theorem l15DrawJob_c {B : Nat} {w : World} {g : Nat} (h : Cur B w g) : Calls Tryz.prog 212 #[.pointer (some ⟨g, 0, none⟩)] w (Dr B w g fun v w' => ∃ x y z t u : Int, v = .agg #[.int .i64 x, .int .i64 y, .int .i64 z, .int .i64 t, .int .i64 u]) := by
 have hc0 := h; have E0 : Upd w w [g] := Upd.refl _ _
 have hg0 := h.lt
 go_enter Tryz.func212, Tryz.ntmps212
 go_wp2_with fail
 refine (l1Below_c (cU B) 12).mono ?_
 rintro e w1 ⟨_, rfl, X1, hc1, x1, rfl, px1, qx1, rx1⟩
 have hz1 := X1.sz
 have E1 : Upd w w1 [g] := X1.up
 have KR1 : Blk w1 w.heap.size 142 #[.int .i64 0, .int .i64 0, .int .i64 0, .int .i64 0, .int .i64 0] := bU X1
 clear X1
 obtain ⟨CR1, FR1, LR1⟩ := KR1.cfl
 have qx1 := qx1 dC; clear rx1
 go_wp2_with fail
 refine (l1Below_c (cU B) 40).mono ?_
 rintro e w2 ⟨_, rfl, X2, hc2, x2, rfl, px2, qx2, rx2⟩
 have hz2 := X2.sz
 have E2 : Upd w w2 [g] := X2.up
 have KR2 := KR1.upv X2
 clear X2
 clear CR1 FR1 LR1
 obtain ⟨CR2, FR2, LR2⟩ := KR2.cfl
 have qx2 := qx2 dC; clear rx2
 go_wp2_with fail
 refine (l1Below_c (cU B) 10).mono ?_
 rintro e w3 ⟨_, rfl, X3, hc3, x3, rfl, px3, qx3, rx3⟩
 have hz3 := X3.sz
 have E3 : Upd w w3 [g] := X3.up
 have KR3 := KR2.upv X3
 clear X3
 clear CR2 FR2 LR2
 obtain ⟨CR3, FR3, LR3⟩ := KR3.cfl
 have qx3 := qx3 dC; clear rx3
 go_wp2_with fail
 refine (l1Below_c (cU B) 9).mono ?_
 rintro e w4 ⟨_, rfl, X4, hc4, x4, rfl, px4, qx4, rx4⟩
 have hz4 := X4.sz
 have E4 : Upd w w4 [g] := X4.up
 have KR4 := KR3.upv X4
 clear X4
 clear CR3 FR3 LR3
 obtain ⟨CR4, FR4, LR4⟩ := KR4.cfl
 have qx4 := qx4 dC; clear rx4
 go_wp2_with fail
 refine (l1Once_c (cU B) 12).mono ?_
 rintro e w5 ⟨_, rfl, X5, hc5, b1, rfl⟩
 have hz5 := X5.sz
 have E5 : Upd w w5 [g] := X5.up
 have KR5 := KR4.upv X5
 have KL5 : Blk w5 w4.heap.size 142 #[.int .i64 (1 + x1), .int .i64 x2, .int .i64 x3, .int .i64 x4, .int .i64 0] := bU X5
 clear X5
 clear CR4 FR4 LR4
 obtain ⟨CR5, FR5, LR5⟩ := KR5.cfl
 obtain ⟨CL5, FL5, LL5⟩ := KL5.cfl
 cases b1
 rotate_left
 ·
  go_wp2_with fail
  refine (l1Below_c (cU B) 2).mono ?_
  rintro e w6 ⟨_, rfl, X6, hc6, ui, rfl, pu, qu, ru⟩
  have hz6 := X6.sz
  have E6 : Upd w w6 [g] := X6.up
  have KR6 := KR5.upv X6
  have KL6 := KL5.upv X6
  have KPk6 : Blk w6 w5.heap.size 2 #[.int .i64 0, .int .i64 1000000] := bU X6
  clear X6
  clear CR5 FR5 LR5 CL5 FL5 LL5
  obtain ⟨CR6, FR6, LR6⟩ := KR6.cfl
  obtain ⟨CL6, FL6, LL6⟩ := KL6.cfl
  obtain ⟨CPk6, FPk6, LPk6⟩ := KPk6.cfl
  have qu := qu dC; clear ru
  obtain ⟨u, hu⟩ : ∃ u : Int, w6.cell? ⟨w5.heap.size, ui.toNat, none⟩ = some (.int .i64 u) := by
   rw [KPk6.cell]
   have : ui.toNat < 2 := by omega
   exact pick_int [0, 1000000] this
  clear CPk6
  go_wp2_with fail
  refine bodyPost_ret (by simp [results, Tryz.results212, go_sem, CR6, FR6, LR6, CL6, FL6, LL6, FPk6, LPk6, hu]; try rfl) rfl ?_
  exact ⟨_, rfl, by exact updT, by exact curT, _, _, _, _, _, rfl⟩
 go_wp2_with fail
 refine bodyPost_ret (by simp [results, Tryz.results212, go_sem, CR5, FR5, LR5, CL5, FL5, LL5]; try rfl) rfl ?_
 exact ⟨_, rfl, by exact updT, by exact curT, _, _, _, _, _, rfl⟩
theorem l15BentJob_c {B : Nat} {w : World} {g : Nat} (h : Cur B w g) (j0 j1 j2 j3 j4 : Int) : Calls Tryz.prog 189 #[.pointer (some ⟨g, 0, none⟩), .agg #[.int .i64 j0, .int .i64 j1, .int .i64 j2, .int .i64 j3, .int .i64 j4]] w (Dr B w g fun v w' => ∃ x y z t u : Int, v = .agg #[.int .i64 x, .int .i64 y, .int .i64 z, .int .i64 t, .int .i64 u]) := by
 have hc0 := h; have E0 : Upd w w [g] := Upd.refl _ _
 have hg0 := h.lt
 go_enter Tryz.func189, Tryz.ntmps189
 go_wp2_with fail
 refine (l1Below_c (cU B) 5).mono ?_
 rintro e w1 ⟨_, rfl, X1, hc1, m, rfl, pm, qm, rm⟩
 have hz1 := X1.sz
 have E1 : Upd w w1 [g] := X1.up
 have KL1 : Blk w1 w.heap.size 142 #[.int .i64 j0, .int .i64 j1, .int .i64 j2, .int .i64 j3, .int .i64 j4] := bU X1
 have KR1 : Blk w1 (w.heap.size + 1) 142 #[.int .i64 0, .int .i64 0, .int .i64 0, .int .i64 0, .int .i64 0] := bU X1
 clear X1
 obtain ⟨CL1, FL1, LL1⟩ := KL1.cfl
 obtain ⟨CR1, FR1, LR1⟩ := KR1.cfl
 have qm := qm dC; clear rm
 obtain rfl | rfl | rfl | rfl | rfl : m = 0 ∨ m = 1 ∨ m = 2 ∨ m = 3 ∨ m = 4 := by omega
 ·
  go_wp2_with fail
  refine (l1Below_c (cU B) 4).mono ?_
  rintro e w2 ⟨_, rfl, X2, hc2, ui, rfl, pu, qu, ru⟩
  have hz2 := X2.sz
  have E2 : Upd w w2 [g] := X2.up
  have KL2 := KL1.upv X2
  have KR2 := KR1.upv X2
  have KPk2 : Blk w2 w1.heap.size 2 #[.int .i64 0, .int .i64 1, .int .i64 20, .int .i64 21] := bU X2
  clear X2
  clear CL1 FL1 LL1 CR1 FR1 LR1
  obtain ⟨CL2, FL2, LL2⟩ := KL2.cfl
  obtain ⟨CR2, FR2, LR2⟩ := KR2.cfl
  obtain ⟨CPk2, FPk2, LPk2⟩ := KPk2.cfl
  have qu := qu dC; clear ru
  obtain ⟨u, hu⟩ : ∃ u : Int, w2.cell? ⟨w1.heap.size, ui.toNat, none⟩ = some (.int .i64 u) := by
   rw [KPk2.cell]
   have : ui.toNat < 4 := by omega
   exact pick_int [0, 1, 20, 21] this
  clear CPk2
  go_wp2_with fail
  refine bodyPost_ret (by simp [results, Tryz.results189, go_sem, CL2, FL2, LL2, CR2, FR2, LR2, FPk2, LPk2, hu]; try rfl) rfl ?_
  exact ⟨_, rfl, by exact updT, by exact curT, _, _, _, _, _, rfl⟩
 ·
  go_wp2_with fail
  refine (l1Below_c (cU B) 3).mono ?_
  rintro e w2 ⟨_, rfl, X2, hc2, ui, rfl, pu, qu, ru⟩
  have hz2 := X2.sz
  have E2 : Upd w w2 [g] := X2.up
  have KL2 := KL1.upv X2
  have KR2 := KR1.upv X2
  have KPk2 : Blk w2 w1.heap.size 2 #[.int .i64 (-1), .int .i64 1000000, .int .i64 1000001] := bU X2
  clear X2
  clear CL1 FL1 LL1 CR1 FR1 LR1
  obtain ⟨CL2, FL2, LL2⟩ := KL2.cfl
  obtain ⟨CR2, FR2, LR2⟩ := KR2.cfl
  obtain ⟨CPk2, FPk2, LPk2⟩ := KPk2.cfl
  have qu := qu dC; clear ru
  obtain ⟨u, hu⟩ : ∃ u : Int, w2.cell? ⟨w1.heap.size, ui.toNat, none⟩ = some (.int .i64 u) := by
   rw [KPk2.cell]
   have : ui.toNat < 3 := by omega
   exact pick_int [-1, 1000000, 1000001] this
  clear CPk2
  go_wp2_with fail
  refine bodyPost_ret (by simp [results, Tryz.results189, go_sem, CL2, FL2, LL2, CR2, FR2, LR2, FPk2, LPk2, hu]; try rfl) rfl ?_
  exact ⟨_, rfl, by exact updT, by exact curT, _, _, _, _, _, rfl⟩
 ·
  go_wp2_with fail
  refine (l1Below_c (cU B) 2).mono ?_
  rintro e w2 ⟨_, rfl, X2, hc2, ui, rfl, pu, qu, ru⟩
  have hz2 := X2.sz
  have E2 : Upd w w2 [g] := X2.up
  have KL2 := KL1.upv X2
  have KR2 := KR1.upv X2
  have KPk2 : Blk w2 w1.heap.size 2 #[.int .i64 (-1), .int .i64 10] := bU X2
  clear X2
  clear CL1 FL1 LL1 CR1 FR1 LR1
  obtain ⟨CL2, FL2, LL2⟩ := KL2.cfl
  obtain ⟨CR2, FR2, LR2⟩ := KR2.cfl
  obtain ⟨CPk2, FPk2, LPk2⟩ := KPk2.cfl
  have qu := qu dC; clear ru
  obtain ⟨u, hu⟩ : ∃ u : Int, w2.cell? ⟨w1.heap.size, ui.toNat, none⟩ = some (.int .i64 u) := by
   rw [KPk2.cell]
   have : ui.toNat < 2 := by omega
   exact pick_int [-1, 10] this
  clear CPk2
  go_wp2_with fail
  refine bodyPost_ret (by simp [results, Tryz.results189, go_sem, CL2, FL2, LL2, CR2, FR2, LR2, FPk2, LPk2, hu]; try rfl) rfl ?_
  exact ⟨_, rfl, by exact updT, by exact curT, _, _, _, _, _, rfl⟩
 ·
  go_wp2_with fail
  refine (l1Below_c (cU B) 3).mono ?_
  rintro e w2 ⟨_, rfl, X2, hc2, ui, rfl, pu, qu, ru⟩
  have hz2 := X2.sz
  have E2 : Upd w w2 [g] := X2.up
  have KL2 := KL1.upv X2
  have KR2 := KR1.upv X2
  have KPk2 : Blk w2 w1.heap.size 2 #[.int .i64 (-1), .int .i64 999, .int .i64 1000] := bU X2
  clear X2
  clear CL1 FL1 LL1 CR1 FR1 LR1
  obtain ⟨CL2, FL2, LL2⟩ := KL2.cfl
  obtain ⟨CR2, FR2, LR2⟩ := KR2.cfl
  obtain ⟨CPk2, FPk2, LPk2⟩ := KPk2.cfl
  have qu := qu dC; clear ru
  obtain ⟨u, hu⟩ : ∃ u : Int, w2.cell? ⟨w1.heap.size, ui.toNat, none⟩ = some (.int .i64 u) := by
   rw [KPk2.cell]
   have : ui.toNat < 3 := by omega
   exact pick_int [-1, 999, 1000] this
  clear CPk2
  go_wp2_with fail
  refine bodyPost_ret (by simp [results, Tryz.results189, go_sem, CL2, FL2, LL2, CR2, FR2, LR2, FPk2, LPk2, hu]; try rfl) rfl ?_
  exact ⟨_, rfl, by exact updT, by exact curT, _, _, _, _, _, rfl⟩
 go_wp2_with fail
 refine (l1Below_c (cU B) 4).mono ?_
 rintro e w2 ⟨_, rfl, X2, hc2, ui, rfl, pu, qu, ru⟩
 have hz2 := X2.sz
 have E2 : Upd w w2 [g] := X2.up
 have KL2 := KL1.upv X2
 have KR2 := KR1.upv X2
 have KPk2 : Blk w2 w1.heap.size 2 #[.int .i64 (-1), .int .i64 1, .int .i64 2000, .int .i64 2001] := bU X2
 clear X2
 clear CL1 FL1 LL1 CR1 FR1 LR1
 obtain ⟨CL2, FL2, LL2⟩ := KL2.cfl
 obtain ⟨CR2, FR2, LR2⟩ := KR2.cfl
 obtain ⟨CPk2, FPk2, LPk2⟩ := KPk2.cfl
 have qu := qu dC; clear ru
 obtain ⟨u, hu⟩ : ∃ u : Int, w2.cell? ⟨w1.heap.size, ui.toNat, none⟩ = some (.int .i64 u) := by
  rw [KPk2.cell]
  have : ui.toNat < 4 := by omega
  exact pick_int [-1, 1, 2000, 2001] this
 clear CPk2
 go_wp2_with fail
 refine bodyPost_ret (by simp [results, Tryz.results189, go_sem, CL2, FL2, LL2, CR2, FR2, LR2, FPk2, LPk2, hu]; try rfl) rfl ?_
 exact ⟨_, rfl, by exact updT, by exact curT, _, _, _, _, _, rfl⟩
theorem l14Draw_c {B : Nat} {w : World} {g : Nat} (h : Cur B w g) : Calls Tryz.prog 187 #[.pointer (some ⟨g, 0, none⟩)] w (Dr B w g fun v w' => ∃ l : List DPair, OwnI w.heap.size 157 2 w' v (flPair l) ∧ l.length ≤ 10) := by
 obtain ⟨i0, hi, hy0, hy1, hy2⟩ := info_parts info_Pair
 have hc0 := h; have E0 : Upd w w [g] := Upd.refl _ _
 have hg0 := h.lt
 go_enter Tryz.func187, Tryz.ntmps187
 go_wp2_with fail
 go_loopw [3, 4] (fun out kk wr => ∃ (k : Nat) (l : List DPair), k ≤ 10 ∧ kk = .int .i64 k ∧ l.length ≤ k ∧ Upd w wr [g] ∧ Cur B wr g ∧ OwnI w.heap.size 157 2 wr out (flPair l)) (fun _ kk _ => 10 - (intOf kk).toNat)
 case atStart => exact ⟨0, [], by omega, rfl, Nat.le_refl _, (Upd.refl _ _).alloc _, by exact curT, OwnI.lit0 w _ _⟩
 case round =>
  obtain ⟨k, l, hk, rfl, hl, E1, hc1, Ol1⟩ := hrel
  obtain ⟨a0, n0, c0, rfl⟩ := Ol1.shape
  obtain ⟨w1, hw⟩ : ∃ w1, wr = w1 := ⟨_, rfl⟩
  subst hw
  have hz1 := E1.size
  by_cases hlt : (k : Int) ≤ 9
  ·
   go_wp2_with fail
   refine (l1Once_c (cU B) 2).mono ?_
   rintro e w2 ⟨_, rfl, X2, hc2, b1, rfl⟩
   have hz2 := X2.sz
   have E2 : Upd w w2 [g] := X2.up
   have Ol2 : OwnI w.heap.size 157 2 w2 (.slice a0 n0 c0) (flPair l) := OwnI.drawn (by exact ownT) X2 oM
   clear X2
   cases b1
   rotate_left
   ·
    go_wp2_with fail
    refine (l1Below_c (cU B) 4).mono ?_
    rintro e w3 ⟨_, rfl, X3, hc3, x1, rfl, px1, qx1, rx1⟩
    have hz3 := X3.sz
    have E3 : Upd w w3 [g] := X3.up
    have Ol3 : OwnI w.heap.size 157 2 w3 (.slice a0 n0 c0) (flPair l) := OwnI.drawn (by exact ownT) X3 oM
    clear X3
    have qx1 := qx1 dC; clear rx1
    have OO : OwnI w.heap.size 157 2 (w3.alloc (.cells #[.int .i64 (k : Int), .int .i64 x1] 157)) (.slice a0 n0 c0) (flPair l) := OwnI.ext1 Ol3 ((Ext.refl _).alloc _)
    go_wp2_with (first | (at_builtin; go_loud (refine wp_appendU rfl _ _ 58 rfl 157 i0 _ 2 16 Tryz.underlying58 hi hy0 hy1 hy2 rfl dC w.heap.size _ _ rfl OO _ [(k : Int), x1] rfl (Sl.oneAt _ #[.int .i64 (k : Int), .int .i64 x1] _ 2 _ (by first | rfl | simp) rfl) 1000 (by simp only [length_flPair, List.length_cons, List.length_nil]; omega) oM oM (by simp only [World.size_alloc]; omega) ?_; rotate_right; intro vv w4 On h3)))
    obtain ⟨a1, n1, c1, rfl⟩ := On.shape
    have Ol4 : OwnI w.heap.size 157 2 w4 (.slice a1 n1 c1) (flPair (l ++ [⟨k, x1⟩])) := by rw [flPair_one]; exact On
    have hz4 := h3.size; (try simp only [World.size_alloc] at hz4)
    have E4 : Upd w w4 [g] := Upd.app (by exact updT) OO (.inr oM) h3
    have hc4 : Cur B w4 g := Cur.app (by exact curT) OO oM h3
    clear OO h3 On
    go_roundw
    case rel => exact ⟨k + 1, l ++ [⟨k, x1⟩], by omega, by go_num, by simp; omega, E4, hc4, Ol4⟩
    case measure => simp [intOf]; omega
   go_wp2_with fail
   go_roundw
   case rel => exact ⟨k + 1, l, by omega, by go_num, by omega, E2, hc2, Ol2⟩
   case measure => simp [intOf]; omega
  go_wp2_with fail
  go_ret
  exact ⟨_, rfl, E1, hc1, l, Ol1, by omega⟩
theorem l14DrawAny_c {B : Nat} {w : World} {g : Nat} (h : Cur B w g) : Calls Tryz.prog 144 #[.pointer (some ⟨g, 0, none⟩)] w (Dr B w g fun v w' => ∃ l : List DPair, OwnI w.heap.size 157 2 w' v (flPair l) ∧ l.length ≤ 20) := by
 obtain ⟨i0, hi, hy0, hy1, hy2⟩ := info_parts info_Pair
 have hc0 := h; have E0 : Upd w w [g] := Upd.refl _ _
 have hg0 := h.lt
 go_enter Tryz.func144, Tryz.ntmps144
 go_wp2_with fail
 refine (l14Draw_c (cU B)).mono ?_
 rintro e w1 ⟨_, rfl, X1, hc1, l, Ol1, hl⟩
 have hz1 := X1.sz
 have E1 : Upd w w1 [g] := X1.up
 clear X1
 obtain ⟨a0, n0, c0, rfl⟩ := Ol1.shape
 go_wp2_with fail
 refine (l1Once_c (cU B) 6).mono ?_
 rintro e w2 ⟨_, rfl, X2, hc2, b1, rfl⟩
 have hz2 := X2.sz
 have E2 : Upd w w2 [g] := X2.up
 have Ol2 : OwnI w.heap.size 157 2 w2 (.slice a0 n0 c0) (flPair l) := OwnI.drawn (by exact ownT) X2 oM
 clear X2
 cases b1
 rotate_left
 ·
  go_wp2_with fail
  refine (l1Below_c (cU B) 4).mono ?_
  rintro e w3 ⟨_, rfl, X3, hc3, m, rfl, pm, qm, rm⟩
  have hz3 := X3.sz
  have E3 : Upd w w3 [g] := X3.up
  have Ol3 : OwnI w.heap.size 157 2 w3 (.slice a0 n0 c0) (flPair l) := OwnI.drawn (by exact ownT) X3 oM
  clear X3
  have qm := qm dC; clear rm
  obtain rfl | rfl | rfl | rfl : m = 0 ∨ m = 1 ∨ m = 2 ∨ m = 3 := by omega
  ·
   go_wp2_with fail
   refine (l1Num_c (cU B) 9 oM oM).mono ?_
   rintro e w4 ⟨_, rfl, X4, hc4, x1, rfl⟩
   have hz4 := X4.sz
   have E4 : Upd w w4 [g] := X4.up
   have Ol4 : OwnI w.heap.size 157 2 w4 (.slice a0 n0 c0) (flPair l) := OwnI.drawn (by exact ownT) X4 oM
   clear X4
   go_wp2_with fail
   refine (l1Num_c (cU B) 999 oM oM).mono ?_
   rintro e w5 ⟨_, rfl, X5, hc5, x2, rfl⟩
   have hz5 := X5.sz
   have E5 : Upd w w5 [g] := X5.up
   have Ol5 : OwnI w.heap.size 157 2 w5 (.slice a0 n0 c0) (flPair l) := OwnI.drawn (by exact ownT) X5 oM
   clear X5
   have OO : OwnI w.heap.size 157 2 (w5.alloc (.cells #[.int .i64 x1, .int .i64 x2] 157)) (.slice a0 n0 c0) (flPair l) := OwnI.ext1 Ol5 ((Ext.refl _).alloc _)
   go_wp2_with (first | (at_builtin; go_loud (refine wp_appendU rfl _ _ 58 rfl 157 i0 _ 2 16 Tryz.underlying58 hi hy0 hy1 hy2 rfl dC w.heap.size _ _ rfl OO _ [x1, x2] rfl (Sl.oneAt _ #[.int .i64 x1, .int .i64 x2] _ 2 _ (by first | rfl | simp) rfl) 1000 (by simp only [length_flPair, List.length_cons, List.length_nil]; omega) oM oM (by simp only [World.size_alloc]; omega) ?_; rotate_right; intro vv w6 On h3)))
   obtain ⟨a1, n1, c1, rfl⟩ := On.shape
   have Ol6 : OwnI w.heap.size 157 2 w6 (.slice a1 n1 c1) (flPair (l ++ [⟨x1, x2⟩])) := by rw [flPair_one]; exact On
   have hz6 := h3.size; (try simp only [World.size_alloc] at hz6)
   have E6 : Upd w w6 [g] := Upd.app (by exact updT) OO (.inr oM) h3
   have hc6 : Cur B w6 g := Cur.app (by exact curT) OO oM h3
   clear OO h3 On
   go_wp2_with fail
   go_ret
   exact ⟨_, rfl, by exact updT, by exact curT, l ++ [DPair.mk x1 x2], Ol6, by simp; omega⟩
  ·
   go_wp2_with (first | (at_builtin; refine wp_appendU rfl _ _ 58 rfl 157 i0 _ 2 16 Tryz.underlying58 hi hy0 hy1 hy2 rfl dC w.heap.size _ _ rfl Ol3 _ (flPair l) rfl Ol3.ints 1000 (by simp only [length_flPair]; omega) oM oM oM ?_; rotate_right; intro vv w9 On h3))
   go_ret
   exact ⟨_, rfl, Upd.app E3 Ol3 (.inr oM) h3, Cur.app hc3 Ol3 oM h3, l ++ l, by (rw [show flPair (l ++ l) = flPair l ++ flPair l from by simp [flPair]]; exact On), by simp; omega⟩
  ·
   have OO : OwnI w.heap.size 157 2 (w3.alloc (.cells #[.int .i64 9, .int .i64 999] 157)) (.slice a0 n0 c0) (flPair l) := OwnI.ext1 Ol3 ((Ext.refl _).alloc _)
   go_wp2_with (first | (at_builtin; go_loud (refine wp_appendU rfl _ _ 58 rfl 157 i0 _ 2 16 Tryz.underlying58 hi hy0 hy1 hy2 rfl dC w.heap.size _ _ rfl OO _ [9, 999] rfl (Sl.oneAt _ #[.int .i64 9, .int .i64 999] _ 2 _ (by first | rfl | simp) rfl) 1000 (by simp only [length_flPair, List.length_cons, List.length_nil]; omega) oM oM (by simp only [World.size_alloc]; omega) ?_; rotate_right; intro vv w4 On h3)))
   obtain ⟨a1, n1, c1, rfl⟩ := On.shape
   have Ol4 : OwnI w.heap.size 157 2 w4 (.slice a1 n1 c1) (flPair (l ++ [⟨9, 999⟩])) := by rw [flPair_one]; exact On
   have hz4 := h3.size; (try simp only [World.size_alloc] at hz4)
   have E4 : Upd w w4 [g] := Upd.app (by exact updT) OO (.inr oM) h3
   have hc4 : Cur B w4 g := Cur.app (by exact curT) OO oM h3
   clear OO h3 On
   go_wp2_with fail
   go_ret
   exact ⟨_, rfl, by exact updT, by exact curT, l ++ [DPair.mk 9 999], Ol4, by simp; omega⟩
  obtain ⟨ta, tn, tc, ht, hl0, hcc, hm0, hor⟩ := Own.open_ Ol3
  injection ht with ht1 ht2 ht3; subst ht1; subst ht2; subst ht3
  have htn : n0 = l.length := by simp only [List.length_map, length_flPair] at hl0; omega
  subst htn
  rcases hor with h00 | ⟨X, cur, rfl, hXB, hX, hXs, hXp⟩
  ·
   obtain rfl := List.length_eq_zero_iff.1 h00
   go_wp2_with fail
   go_ret
   exact ⟨_, rfl, by exact updT, by exact curT, [], Ol3, by omega⟩
  rcases Nat.eq_zero_or_pos l.length with h00 | h00
  ·
   obtain rfl := List.length_eq_zero_iff.1 h00
   go_wp2_with fail
   go_ret
   exact ⟨_, rfl, by exact updT, by exact curT, [], Ol3, by omega⟩
  have hd : decide (0 < (l.length : Int)) = true := by simp; omega
  go_wp2_with fail
  refine (l1Below_c (cU B) 3).mono ?_
  rintro e w4 ⟨_, rfl, X4, hc4, ui, rfl, pu, qu, ru⟩
  have hz4 := X4.sz
  have E4 : Upd w w4 [g] := X4.up
  have KPk4 : Blk w4 w3.heap.size 2 #[.int .i64 (-1), .int .i64 999, .int .i64 1000] := bU X4
  have Ol4 : OwnI w.heap.size 157 2 w4 (.slice (some ⟨X, 0, none⟩) l.length c0) (flPair l) := OwnI.drawn (by exact ownT) X4 oM
  clear X4
  obtain ⟨CPk4, FPk4, LPk4⟩ := KPk4.cfl
  have qu := qu dC; clear ru
  obtain ⟨u, hu⟩ : ∃ u : Int, w4.cell? ⟨w3.heap.size, ui.toNat, none⟩ = some (.int .i64 u) := by
   rw [KPk4.cell]
   have : ui.toNat < 3 := by omega
   exact pick_int [-1, 999, 1000] this
  clear CPk4
  obtain ⟨curl4, KXl4⟩ := Own.typed' Ol4 (X := X) rfl
  have FXl4 := KXl4.frozen; have LXl4 := KXl4.lt
  obtain ⟨_, _, hsll, _, _, hrec⟩ := Ol4.ints.recs (f := DPair.ints) (fun _ => rfl) dC
  obtain ⟨ddl, bbl, ool, hddl, hbal, _, hccl⟩ := hrec 0 oM
  injection hsll with hs1 hs2 hs3
  rw [← hs1] at hbal; injection hbal with hbal; injection hbal with hb1 hb2; subst hb1; subst hb2; clear hs1 hs2 hs3 hrec
  have hcel1 := hccl 1 _ dC rfl; (try simp only [Nat.zero_mul, Nat.zero_add, Nat.add_zero] at hcel1)
  clear hccl
  go_wp2_with fail
  go_ret
  obtain ⟨d, l1, hl1⟩ : ∃ d l1, l = d :: l1 := by cases l with | nil => (simp at h00) | cons d l1 => exact ⟨d, l1, rfl⟩
  refine ⟨_, rfl, by exact updT, by exact curT, DPair.mk d.Key u :: l1, ?_, by (have := congrArg List.length hl1; simp at this ⊢; omega)⟩
  have On := OwnI.set Ol4 (i := 1) (by simp only [length_flPair]; omega) u
  have e9 : (flPair l).set 1 u = flPair (DPair.mk d.Key u :: l1) := by rw [hl1]; rfl
  rw [e9] at On
  exact On
 go_wp2_with fail
 go_ret
 exact ⟨_, rfl, by exact updT, by exact curT, l, Ol2, by omega⟩
theorem jobsOk_nil : jobsOk [] = true := jobsOk_true (by simp [JobsOk])
theorem addR_ok (l : List DJob) (j : DJob) : jobsOk (addR l j) = true := by
 unfold addR
 split
 ·
  split
  ·
   rename_i h; exact addL_ok h
  assumption
 exact jobsOk_nil
theorem fireR_ok (l : List DJob) (id index : Int) : jobsOk (fireR l id index) = true := by
 unfold fireR
 split
 ·
  split
  ·
   rename_i h; exact fireL_ok h
  assumption
 exact jobsOk_nil
theorem l15Draw_c {B : Nat} {w : World} {g : Nat} (h : Cur B w g) : Calls Tryz.prog 188 #[.pointer (some ⟨g, 0, none⟩)] w (Dr B w g fun v w' => ∃ l : List DJob, OwnI w.heap.size 142 5 w' v (flJob l) ∧ l.length ≤ 8) := by
 obtain ⟨i0, hi, hy0, hy1, hy2⟩ := info_parts info_Job
 have hc0 := h; have E0 : Upd w w [g] := Upd.refl _ _
 have hg0 := h.lt
 go_enter Tryz.func188, Tryz.ntmps188
 go_wp2_with fail
 refine (l1Below_c (cU B) 10).mono ?_
 rintro e w1 ⟨_, rfl, X1, hc1, n, rfl, pn, qn, rn⟩
 have hz1 := X1.sz
 have E1 : Upd w w1 [g] := X1.up
 skip
 have qn := qn dC; clear rn
 obtain ⟨N, rfl⟩ := Int.eq_ofNat_of_zero_le pn
 have OO : OwnI w.heap.size 142 5 w1 (.slice (some ⟨w.heap.size, 0, none⟩) 0 0) (flJob []) := OwnI.upd' (OwnI.lit0 w 142 5) (fs := [g]) (by assumption) (fun k h1 h2 => by have := OwnI.foot (OwnI.lit0 w 142 5) k h1; simp at h2; omega)
 clear X1
 go_wp2_with fail
 go_loopw [3, 4] (fun out kk wr => ∃ (k : Nat) (l : List DJob), k ≤ 9 ∧ kk = .int .i64 k ∧ jobsOk l = true ∧ Upd w wr [g] ∧ Cur B wr g ∧ OwnI w.heap.size 142 5 wr out (flJob l)) (fun _ kk _ => (intOf kk).toNat)
 case atStart => exact ⟨N, [], by omega, rfl, jobsOk_nil, E1, hc1, OO⟩
 case round =>
  clear OO E1 hc1 hz1
  obtain ⟨k, l, hk, rfl, hl, E1, hc1, Ol1⟩ := hrel
  obtain ⟨a0, n0, c0, rfl⟩ := Ol1.shape
  obtain ⟨w2, hw⟩ : ∃ w2, w2 = wr := ⟨_, rfl⟩
  subst hw
  have hz2 := E1.size; have E2 := E1; have hc2 := hc1; have Ol2 := Ol1; clear E1 hc1 Ol1
  have hll := jobsOk_len hl
  by_cases hlt : 0 < k
  ·
   have hlt2 : (0 : Int) < (k : Int) := by omega
   go_wp2_with fail
   refine (l15DrawJob_c (cU B)).mono ?_
   rintro e w3 ⟨_, rfl, X3, hc3, x0, x1, x2, x3, x4, rfl⟩
   have hz3 := X3.sz
   have E3 : Upd w w3 [g] := X3.up
   have Ol3 : OwnI w.heap.size 142 5 w3 (.slice a0 n0 c0) (flJob l) := OwnI.drawn (by exact ownT) X3 oM
   clear X3
   go_wp2_with fail
   refine (sJobAdded_c _ _ l x0 x1 x2 x3 x4 (OwnI.ints Ol3)).mono ?_
   rintro e w4 ⟨_, rfl, hx4, u, rfl, gu⟩
   have hz4 := hx4.size; (try simp only [szA] at hz4)
   have E4 : Upd w w4 [g] := Upd.ext (by exact updT) hx4
   have hc4 : Cur B w4 g := Cur.ext (by exact curT) hx4
   have Ol4 : OwnI w.heap.size 142 5 w4 (.slice a0 n0 c0) (flJob l) := OwnI.ext1 (by exact ownT) hx4
   clear hx4
   obtain ⟨a1, n1, c1, rfl⟩ := gu.shape
   have hw9 : IntKind.i64.wrap ((k : Int) - 1) = (k : Int) - 1 := by rw [IntKind.wrap_i64]; omega
   go_wp2_with fail
   go_roundw
   case rel => exact ⟨k - 1, _, by omega, by (try simp only [Value.int.injEq, true_and]); first | omega | (congr 1; omega), addR_ok _ _, E4, hc4, gu.mono oM⟩
   case measure => simp [intOf]; omega
  obtain rfl : k = 0 := by omega
  clear hlt hk
  go_wp2_with fail
  refine (l1Below_c (cU B) 5).mono ?_
  rintro e w3 ⟨_, rfl, X3, hc3, m, rfl, pm, qm, rm⟩
  have hz3 := X3.sz
  have E3 : Upd w w3 [g] := X3.up
  have Ol3 : OwnI w.heap.size 142 5 w3 (.slice a0 n0 c0) (flJob l) := OwnI.drawn (by exact ownT) X3 oM
  clear X3
  have qm := qm dC; clear rm
  obtain ⟨M, rfl⟩ := Int.eq_ofNat_of_zero_le pm
  go_wp2_with fail
  go_loopw [3, 5] (fun out kk wr => ∃ (k : Nat) (l : List DJob), k ≤ 4 ∧ kk = .int .i64 k ∧ jobsOk l = true ∧ Upd w wr [g] ∧ Cur B wr g ∧ OwnI w.heap.size 142 5 wr out (flJob l)) (fun _ kk _ => (intOf kk).toNat)
  case atStart => exact ⟨M, l, by omega, rfl, hl, E3, hc3, Ol3⟩
  case round =>
   clear E3 hc3 Ol3 hz3 E2 hc2 Ol2 hz2 hl hll l
   obtain ⟨k, l, hk, rfl, hl, E1, hc1, Ol1⟩ := hrel
   obtain ⟨w2, hw⟩ : ∃ w2, w2 = wr := ⟨_, rfl⟩
   subst hw
   have hz2 := E1.size; have E2 := E1; have hc2 := hc1; have Ol2 := Ol1; clear E1 hc1 Ol1
   have hll := jobsOk_len hl
   obtain ⟨ta, tn, tc, rfl, hl0, hcc, hm0, hor⟩ := Own.open_ Ol2
   have htn : tn = l.length := by simp only [List.length_map, length_flJob] at hl0; omega
   subst htn; clear hl0
   by_cases hlt : 0 < k
   rotate_left
   ·
    obtain rfl : k = 0 := by omega
    go_wp2_with fail
    go_ret
    exact ⟨_, rfl, E2, hc2, l, Ol2, hll⟩
   have hlt2 : (0 : Int) < (k : Int) := by omega
   rcases hor with h00 | ⟨X, cur, rfl, hXB, hX, hXs, hXp⟩
   ·
    obtain rfl := List.length_eq_zero_iff.1 h00
    go_wp2_with fail
    go_ret
    exact ⟨_, rfl, E2, hc2, [], Ol2, by simp⟩
   rcases Nat.eq_zero_or_pos l.length with h00 | h00
   ·
    obtain rfl := List.length_eq_zero_iff.1 h00
    go_wp2_with fail
    go_ret
    exact ⟨_, rfl, E2, hc2, [], Ol2, by simp⟩
   have h00I : (0 : Int) < (l.length : Int) := by omega
   obtain ⟨aq, nq, hsl, _, _, hrec⟩ := Ol2.ints.recs (f := DJob.ints) (fun _ => rfl) dC
   injection hsl with hs1 hs2 hs3; subst hs1; subst hs3
   have HREC := Lib.hid hrec; clear hrec hXp hs2
   have hXg : X ≠ g := by have := E2.size; omega
   have hXl := hX.lt
   have hw9 : IntKind.i64.wrap ((k : Int) - 1) = (k : Int) - 1 := by rw [IntKind.wrap_i64]; omega
   go_wp2_with fail
   refine wp_region_held_drew (S := fun w' => (Upd w2 w' [g] ∧ Cur B w' g)) (by kernel_rfl) (by (try dsimp only); exact ⟨by exact updT, by exact curT⟩) (fun hHeld => ?_)
   refine wt 0 ?_
   (try simp only [redA, Act.put])
   refine wt 1 ?_
   (try simp only [redA, Act.put])
   refine wt 2 ?_
   (try simp only [redA, Act.put])
   refine wt 3 ?_
   (try simp only [redA, Act.put])
   refine wt 4 ?_
   (try simp only [redA, Act.put])
   refine wt 9 ?_
   (try simp only [redA, Act.put])
   refine wr1 5 fun Kz hKz => ?_
   (try simp only [redA])
   go_simp
   (go_at_call 30; refine (l1Below_c (cU B) (l.length : Int)).mono ?_; rintro e w7 ⟨_, rfl, X7, hc7, x, rfl, x0, x1, _⟩; have x1 := x1 oM; have hz7 := X7.size; (try simp only [World.size_alloc, size_drew] at hz7); obtain ⟨d, bb, oo, hd, hb, _, hcl⟩ := HREC.out x.toNat oM; injection hb with hb; injection hb with hb1 hb2; subst hb1; subst hb2; have yx := fun w' (hw : (Upd w2 w' [g] ∧ Cur B w' g)) => (hw.1.cell hXl (by simp; exact hXg)).trans (hcl 0 _ dC rfl); (try simp only [Nat.zero_add, Nat.add_zero] at yx))
   refine hKz.out _ _ (by (try dsimp only); exact ⟨by exact updT, by exact curT⟩) (fun hHeld => ?_)
   clear hKz Kz
   (try simp only [redA, Act.put])
   refine wt 6 ?_
   (try simp only [redA, Act.put])
   refine wt 7 ?_
   (try simp only [redA, Act.put])
   refine wpAnyH_take (i := 8) (v := ?_) rfl (by kernel_rfl) (by kernel_rfl) (by kernel_rfl) (fun _ _ _ h => h) (Or.inl ⟨by rfl, ?_⟩) (by assumption) ?_
   rotate_left
   focus (intro w hSw; (try dsimp only at hSw); have hq := yx _ hSw; go_simp <;> with_reducible rfl)
   (try simp only [redA, Act.put])
   refine wr1 10 fun Kz hKz => ?_
   (try simp only [redA])
   go_simp
   (go_at_call 30; refine (l1Below_c (cU B) 30).mono ?_; rintro e w8 ⟨_, rfl, X8, hc8, y, rfl, y0, y1, _⟩; have y1 := y1 dC; have hz8 := X8.size; (try simp only [World.size_alloc, size_drew] at hz8))
   refine hKz.out _ _ (by (try dsimp only); exact ⟨by exact updT, by exact curT⟩) (fun hHeld => ?_)
   clear hKz Kz
   (try simp only [redA, Act.put])
   refine wt 11 ?_
   (try simp only [redA, Act.put])
   refine wr1 12 fun Kz hKz => ?_
   (try simp only [redA])
   go_simp
   (go_at_call 114; refine (sJobFired_c _ _ l _ _ (OwnI.ints (OwnI.drawn Ol2 (show Upd w2 _ [g] from by exact updT) oM))).mono ?_; rintro e w9 ⟨_, rfl, hx9, u, rfl, gu⟩; obtain ⟨a9, n9, c9, rfl⟩ := gu.shape; have hz9 := hx9.size; have X9 : Upd w2 w9 [g] := Upd.ext (by exact updT) hx9; have hc9 : Cur B w9 g := Cur.ext (by exact curT) hx9; clear hx9)
   refine hKz.out _ _ (by (try dsimp only); exact ⟨by exact updT, by exact curT⟩) (fun hHeld => ?_)
   clear hKz Kz
   (try simp only [redA, Act.put])
   refine wt 13 ?_
   (try simp only [redA, Act.put])
   refine wt 14 ?_
   (try simp only [redA, Act.put])
   refine wt 15 ?_
   (try simp only [redA, Act.put])
   refine wr1 16 fun Kz hKz => ?_
   (try simp only [redA])
   go_simp
   refine hKz.out _ _ (by (try dsimp only); exact ⟨by exact updT, by exact curT⟩) (fun hHeld => ?_)
   clear hKz Kz
   (try simp only [redA, Act.put])
   refine wpAnyH_done (by kernel_rfl) ?_ _
   go_wp2_with fail
   go_roundw
   case rel => exact ⟨k - 1, _, by omega, by (try simp only [Value.int.injEq, true_and]); first | omega | (congr 1; omega), fireR_ok _ _ _, by exact updT, by exact curT, gu.mono oM⟩
   case measure => simp [intOf]; omega
theorem flJob_set5 {l : List DJob} {i : Nat} (h : i < l.length) {a b c d e : Int} : (((((flJob l).set (i * 5) a).set (i * 5 + 1) b).set (i * 5 + 2) c).set (i * 5 + 3) d).set (i * 5 + 4) e = flJob (l.set i ⟨a, b, c, d, e⟩) := by
 induction l generalizing i with
 | nil => simp at h
 | cons x t ih =>
  cases i with
  | zero => simp [flJob, DJob.ints]
  | succ i =>
   have h' : i < t.length := by simpa using h
   have := ih h'
   have e0 : (i + 1) * 5 = i * 5 + 1 + 1 + 1 + 1 + 1 := by omega
   have e1 : (i + 1) * 5 + 1 = i * 5 + 1 + 1 + 1 + 1 + 1 + 1 := by omega
   have e2 : (i + 1) * 5 + 2 = i * 5 + 2 + 1 + 1 + 1 + 1 + 1 := by omega
   have e3 : (i + 1) * 5 + 3 = i * 5 + 3 + 1 + 1 + 1 + 1 + 1 := by omega
   have e4 : (i + 1) * 5 + 4 = i * 5 + 4 + 1 + 1 + 1 + 1 + 1 := by omega
   rw [e1, e2, e3, e4, e0]
   simp only [flJob, List.flatMap_cons, DJob.ints, List.cons_append, List.nil_append, List.set_cons_succ] at this ⊢
   rw [this]
theorem l15DrawAny_c {B : Nat} {w : World} {g : Nat} (h : Cur B w g) : Calls Tryz.prog 145 #[.pointer (some ⟨g, 0, none⟩)] w (Dr B w g fun v w' => ∃ l : List DJob, OwnI w.heap.size 142 5 w' v (flJob l) ∧ l.length ≤ 9) := by
 obtain ⟨i0, hi, hy0, hy1, hy2⟩ := info_parts info_Job
 have hc0 := h; have E0 : Upd w w [g] := Upd.refl _ _
 have hg0 := h.lt
 go_enter Tryz.func145, Tryz.ntmps145
 go_wp2_with fail
 refine (l15Draw_c (cU B)).mono ?_
 rintro e w1 ⟨_, rfl, X1, hc1, l, Ol1, hl⟩
 have hz1 := X1.sz
 have E1 : Upd w w1 [g] := X1.up
 clear X1
 obtain ⟨ta, tn, tc, rfl, hl0, hcc, hm0, hor⟩ := Own.open_ Ol1
 have htn : tn = l.length := by simp only [List.length_map, length_flJob] at hl0; omega
 subst htn; clear hl0
 rcases Nat.eq_zero_or_pos l.length with h00 | h00
 ·
  obtain rfl := List.length_eq_zero_iff.1 h00
  have Ol1 : OwnI w.heap.size 142 5 w1 (.slice ta 0 tc) (flJob []) := Ol1
  go_wp2_with fail
  refine (l1Once_c (cU B) 6).mono ?_
  rintro e w2 ⟨_, rfl, X2, hc2, b1, rfl⟩
  have hz2 := X2.sz
  have E2 : Upd w w2 [g] := X2.up
  have Ol2 : OwnI w.heap.size 142 5 w2 (.slice ta 0 tc) (flJob []) := OwnI.drawn (by exact ownT) X2 oM
  clear X2
  cases b1
  rotate_left
  ·
   go_wp2_with fail
   go_ret
   exact ⟨_, rfl, by exact updT, by exact curT, [], Ol2, by omega⟩
  go_wp2_with fail
  go_ret
  exact ⟨_, rfl, by exact updT, by exact curT, [], Ol2, by omega⟩
 rcases hor with h01 | ⟨X, cur, rfl, hXB, hX, hXs, hXp⟩
 ·
  omega
 have hd : decide (0 < (l.length : Int)) = true := by simp; omega
 go_wp2_with fail
 refine (l1Once_c (cU B) 6).mono ?_
 rintro e w2 ⟨_, rfl, X2, hc2, b1, rfl⟩
 have hz2 := X2.sz
 have E2 : Upd w w2 [g] := X2.up
 have Ol2 : OwnI w.heap.size 142 5 w2 (.slice (some ⟨X, 0, none⟩) l.length tc) (flJob l) := OwnI.drawn (by exact ownT) X2 oM
 clear X2
 cases b1
 rotate_left
 ·
  go_wp2_with fail
  refine (l1Below_c (cU B) (l.length : Int)).mono ?_
  rintro e w3 ⟨_, rfl, X3, hc3, k, rfl, pk, qk, rk⟩
  have hz3 := X3.sz
  have E3 : Upd w w3 [g] := X3.up
  have Ol3 : OwnI w.heap.size 142 5 w3 (.slice (some ⟨X, 0, none⟩) l.length tc) (flJob l) := OwnI.drawn (by exact ownT) X3 oM
  clear X3
  have qk := qk oM; clear rk
  obtain ⟨K, rfl⟩ := Int.eq_ofNat_of_zero_le pk
  have hK : K < l.length := by omega
  go_wp2_with fail
  refine (l1Below_c (cU B) 3).mono ?_
  rintro e w4 ⟨_, rfl, X4, hc4, m, rfl, pm, qm, rm⟩
  have hz4 := X4.sz
  have E4 : Upd w w4 [g] := X4.up
  have Ol4 : OwnI w.heap.size 142 5 w4 (.slice (some ⟨X, 0, none⟩) l.length tc) (flJob l) := OwnI.drawn (by exact ownT) X4 oM
  clear X4
  have qm := qm dC; clear rm
  obtain rfl | rfl | rfl : m = 0 ∨ m = 1 ∨ m = 2 := by omega
  ·
   obtain ⟨curl4, KXl4⟩ := Own.typed' Ol4 (X := X) rfl
   have FXl4 := KXl4.frozen; have LXl4 := KXl4.lt
   obtain ⟨_, _, hsll, _, _, hrec⟩ := Ol4.ints.recs (f := DJob.ints) (fun _ => rfl) dC
   obtain ⟨ddl, bbl, ool, hddl, hbal, _, hccl⟩ := hrec K oM
   injection hsll with hs1 hs2 hs3
   rw [← hs1] at hbal; injection hbal with hbal; injection hbal with hb1 hb2; subst hb1; subst hb2; clear hs1 hs2 hs3 hrec
   have hcel0 := hccl 0 _ dC rfl; (try simp only [Nat.zero_mul, Nat.zero_add, Nat.add_zero] at hcel0)
   have hcel1 := hccl 1 _ dC rfl; (try simp only [Nat.zero_mul, Nat.zero_add, Nat.add_zero] at hcel1)
   have hcel2 := hccl 2 _ dC rfl; (try simp only [Nat.zero_mul, Nat.zero_add, Nat.add_zero] at hcel2)
   have hcel3 := hccl 3 _ dC rfl; (try simp only [Nat.zero_mul, Nat.zero_add, Nat.add_zero] at hcel3)
   have hcel4 := hccl 4 _ dC rfl; (try simp only [Nat.zero_mul, Nat.zero_add, Nat.add_zero] at hcel4)
   clear hccl
   go_wp2_with fail
   refine (l15BentJob_c (cU B) _ _ _ _ _).mono ?_
   rintro e w5 ⟨_, rfl, X5, hc5, y0, y1, y2, y3, y4, rfl⟩
   have hz5 := X5.sz
   have E5 : Upd w w5 [g] := X5.up
   have Ol5 : OwnI w.heap.size 142 5 w5 (.slice (some ⟨X, 0, none⟩) l.length tc) (flJob l) := OwnI.drawn (by exact ownT) X5 oM
   clear X5
   clear FXl4 LXl4 hcel0 hcel1 hcel2 hcel3 hcel4
   obtain ⟨curl5, KXl5⟩ := Own.typed' Ol5 (X := X) rfl
   have FXl5 := KXl5.frozen; have LXl5 := KXl5.lt
   obtain ⟨_, _, hsll, _, _, hrec⟩ := Ol5.ints.recs (f := DJob.ints) (fun _ => rfl) dC
   obtain ⟨ddl, bbl, ool, hddl, hbal, _, hccl⟩ := hrec K oM
   injection hsll with hs1 hs2 hs3
   rw [← hs1] at hbal; injection hbal with hbal; injection hbal with hb1 hb2; subst hb1; subst hb2; clear hs1 hs2 hs3 hrec
   have hcel0 := hccl 0 _ dC rfl; (try simp only [Nat.zero_mul, Nat.zero_add, Nat.add_zero] at hcel0)
   have hcel1 := hccl 1 _ dC rfl; (try simp only [Nat.zero_mul, Nat.zero_add, Nat.add_zero] at hcel1)
   have hcel2 := hccl 2 _ dC rfl; (try simp only [Nat.zero_mul, Nat.zero_add, Nat.add_zero] at hcel2)
   have hcel3 := hccl 3 _ dC rfl; (try simp only [Nat.zero_mul, Nat.zero_add, Nat.add_zero] at hcel3)
   have hcel4 := hccl 4 _ dC rfl; (try simp only [Nat.zero_mul, Nat.zero_add, Nat.add_zero] at hcel4)
   clear hccl
   go_wp2_with fail
   go_ret
   refine ⟨_, rfl, by exact updT, by exact curT, l.set K ⟨y0, y1, y2, y3, y4⟩, ?_, by simp; omega⟩
   have hll := length_flJob l
   have On := OwnI.set (OwnI.set (OwnI.set (OwnI.set (OwnI.set Ol5 (i := K * 5) oM y0) (i := K * 5 + 1) (by simp only [List.length_set]; omega) y1) (i := K * 5 + 2) (by simp only [List.length_set]; omega) y2) (i := K * 5 + 3) (by simp only [List.length_set]; omega) y3) (i := K * 5 + 4) (by simp only [List.length_set]; omega) y4
   rw [flJob_set5 hK] at On
   exact On
  ·
   obtain ⟨curl4, KXl4⟩ := Own.typed' Ol4 (X := X) rfl
   have FXl4 := KXl4.frozen; have LXl4 := KXl4.lt
   obtain ⟨_, _, hsll, _, _, hrec⟩ := Ol4.ints.recs (f := DJob.ints) (fun _ => rfl) dC
   obtain ⟨ddl, bbl, ool, hddl, hbal, _, hccl⟩ := hrec K oM
   injection hsll with hs1 hs2 hs3
   rw [← hs1] at hbal; injection hbal with hbal; injection hbal with hb1 hb2; subst hb1; subst hb2; clear hs1 hs2 hs3 hrec
   have hcel0 := hccl 0 _ dC rfl; (try simp only [Nat.zero_mul, Nat.zero_add, Nat.add_zero] at hcel0)
   have hcel1 := hccl 1 _ dC rfl; (try simp only [Nat.zero_mul, Nat.zero_add, Nat.add_zero] at hcel1)
   have hcel2 := hccl 2 _ dC rfl; (try simp only [Nat.zero_mul, Nat.zero_add, Nat.add_zero] at hcel2)
   have hcel3 := hccl 3 _ dC rfl; (try simp only [Nat.zero_mul, Nat.zero_add, Nat.add_zero] at hcel3)
   have hcel4 := hccl 4 _ dC rfl; (try simp only [Nat.zero_mul, Nat.zero_add, Nat.add_zero] at hcel4)
   clear hccl
   have OO : OwnI w.heap.size 142 5 (w4.alloc (.cells #[.int .i64 ddl.Id, .int .i64 ddl.Due, .int .i64 ddl.Key, .int .i64 ddl.Value, .int .i64 ddl.Fired] 142)) (.slice (some ⟨X, 0, none⟩) l.length tc) (flJob l) := OwnI.ext1 Ol4 ((Ext.refl _).alloc _)
   go_wp2_with (first | (at_builtin; go_loud (refine wp_appendU rfl _ _ 59 rfl 142 i0 _ 5 40 Tryz.underlying59 hi hy0 hy1 hy2 rfl dC w.heap.size _ _ rfl OO _ [ddl.Id, ddl.Due, ddl.Key, ddl.Value, ddl.Fired] rfl (Sl.oneAt _ #[.int .i64 ddl.Id, .int .i64 ddl.Due, .int .i64 ddl.Key, .int .i64 ddl.Value, .int .i64 ddl.Fired] _ 5 _ (by first | rfl | simp) rfl) 1000 (by simp only [length_flJob, List.length_cons, List.length_nil]; omega) oM oM (by simp only [World.size_alloc]; omega) ?_; rotate_right; intro vv w5 On h3)))
   obtain ⟨a1, n1, c1, rfl⟩ := On.shape
   have Ol5 : OwnI w.heap.size 142 5 w5 (.slice a1 n1 c1) (flJob (l ++ [ddl])) := by rw [flJob_one]; exact On
   have hz5 := h3.size; (try simp only [World.size_alloc] at hz5)
   have E5 : Upd w w5 [g] := Upd.app (by exact updT) OO (.inr oM) h3
   have hc5 : Cur B w5 g := Cur.app (by exact curT) OO oM h3
   clear OO h3 On
   clear FXl4 LXl4 hcel0 hcel1 hcel2 hcel3 hcel4
   go_wp2_with fail
   go_ret
   exact ⟨_, rfl, by exact updT, by exact curT, l ++ [ddl], Ol5, by simp; omega⟩
  obtain ⟨curl4, KXl4⟩ := Own.typed' Ol4 (X := X) rfl
  have FXl4 := KXl4.frozen; have LXl4 := KXl4.lt
  obtain ⟨_, _, hsll, _, _, hrec⟩ := Ol4.ints.recs (f := DJob.ints) (fun _ => rfl) dC
  obtain ⟨ddl, bbl, ool, hddl, hbal, _, hccl⟩ := hrec K oM
  injection hsll with hs1 hs2 hs3
  rw [← hs1] at hbal; injection hbal with hbal; injection hbal with hb1 hb2; subst hb1; subst hb2; clear hs1 hs2 hs3 hrec
  have hcel4 := hccl 4 _ dC rfl; (try simp only [Nat.zero_mul, Nat.zero_add, Nat.add_zero] at hcel4)
  clear hccl
  have hce4K := hcel4; clear hcel4
  obtain ⟨curl4, KXl4⟩ := Own.typed' Ol4 (X := X) rfl
  have FXl4 := KXl4.frozen; have LXl4 := KXl4.lt
  obtain ⟨_, _, hsll, _, _, hrec⟩ := Ol4.ints.recs (f := DJob.ints) (fun _ => rfl) dC
  obtain ⟨ddl, bbl, ool, hddl, hbal, _, hccl⟩ := hrec 0 oM
  injection hsll with hs1 hs2 hs3
  rw [← hs1] at hbal; injection hbal with hbal; injection hbal with hb1 hb2; subst hb1; subst hb2; clear hs1 hs2 hs3 hrec
  have hcel4 := hccl 4 _ dC rfl; (try simp only [Nat.zero_mul, Nat.zero_add, Nat.add_zero] at hcel4)
  clear hccl
  go_wp2_with fail
  go_ret
  refine ⟨_, rfl, by exact updT, by exact curT, l.set K ⟨(l[K]'hK).Id, (l[K]'hK).Due, (l[K]'hK).Key, (l[K]'hK).Value, ddl.Fired⟩, ?_, by simp; omega⟩
  have hll := length_flJob l
  have On := OwnI.set Ol4 (i := K * 5 + 4) oM ddl.Fired
  rw [flJob_set (List.getElem?_eq_getElem hK)] at On
  exact On
 go_wp2_with fail
 go_ret
 exact ⟨_, rfl, by exact updT, by exact curT, l, Ol2, by omega⟩
end Go.Proofs.YtcnioiieiebodaaGreat
namespace Go.G8
open Go.RowKit
open Go.Proofs.YtcnioiieiebodaaGreat
def spos (out : List DDue) (x : Int) : Nat → Nat
 | 0 => 0
 | k + 1 => if x < (out[k]?.map DDue.Due).getD 0 then spos out x k else k + 1
def insD (out : List DDue) (d : DDue) : List DDue := out.take (spos out d.Due out.length) ++ d :: out.drop (spos out d.Due out.length)
def opens (l : List DJob) : List DDue := (l.filter (fun j => decide (j.Fired = 0))).map (fun j => ⟨j.Id, j.Due⟩)
noncomputable def openD (l : List DJob) : List DDue := if jobsOk l then (opens l).foldl insD [] else []
theorem spos_le (out : List DDue) (x : Int) : ∀ k, spos out x k ≤ k
 | 0 => Nat.le_refl _
 | k + 1 => by
  rw [spos]
  split
  ·
   exact Nat.le_trans (spos_le out x k) (Nat.le_succ k)
  exact Nat.le_refl _
theorem spos_down {out : List DDue} {x : Int} {k : Nat} {d : DDue} (h : out[k]? = some d) (hx : x < d.Due) : spos out x (k + 1) = spos out x k := by rw [spos, h]; simp [hx]
theorem spos_stop {out : List DDue} {x : Int} {k : Nat} {d : DDue} (h : out[k]? = some d) (hx : ¬ x < d.Due) : spos out x (k + 1) = k + 1 := by rw [spos, h]; simp [hx]
theorem insD_len (out : List DDue) (d : DDue) : (insD out d).length = out.length + 1 := by
 have := spos_le out d.Due out.length
 simp [insD]; omega
theorem opens_snoc (l : List DJob) (j : DJob) : opens (l ++ [j]) = opens l ++ (if j.Fired = 0 then [⟨j.Id, j.Due⟩] else []) := by
 unfold opens
 rw [List.filter_append, List.map_append]
 congr 1
 by_cases h : j.Fired = 0 <;> simp [h]
theorem openS_skip {l : List DJob} {k : Nat} {d : DJob} {out : List DDue} (hd : l[k]? = some d) (h : d.Fired ≠ 0) (ho : (opens (l.take k)).foldl insD [] = out) : (opens (l.take (k + 1))).foldl insD [] = out := by
 rw [take_snoc hd, opens_snoc, if_neg h, List.append_nil, ho]
theorem openS_next {l : List DJob} {k : Nat} {d : DJob} {out : List DDue} (hd : l[k]? = some d) (h : d.Fired = 0) (ho : (opens (l.take k)).foldl insD [] = out) : (opens (l.take (k + 1))).foldl insD [] = insD out ⟨d.Id, d.Due⟩ := by
 rw [take_snoc hd, opens_snoc, if_pos h, List.foldl_append, ho]; rfl
theorem dues_take (l : List DDue) (k : Nat) : (dues l).take (k * 2) = dues (l.take k) := by
 induction l generalizing k with
 | nil => simp [dues]
 | cons d l ih =>
  cases k with
  | zero => simp [dues]
  | succ k =>
   rw [show (k + 1) * 2 = k * 2 + 1 + 1 by omega]
   have := ih k
   simp only [dues, List.flatMap_cons, DDue.ints, List.cons_append, List.nil_append, List.take_succ_cons] at this ⊢
   rw [this]
theorem dues_drop (l : List DDue) (k : Nat) : (dues l).drop (k * 2) = dues (l.drop k) := by
 induction l generalizing k with
 | nil => simp [dues]
 | cons d l ih =>
  cases k with
  | zero => simp [dues]
  | succ k =>
   rw [show (k + 1) * 2 = k * 2 + 1 + 1 by omega]
   have := ih k
   simp only [dues, List.flatMap_cons, DDue.ints, List.cons_append, List.nil_append, List.drop_succ_cons] at this ⊢
   rw [this]
theorem Ints.takeN {n : Nat} {w : World} {a : Option Addr} {len cap : Nat} {xs : List Int} (h : Ints n w (.slice a len cap) xs) {m : Nat} (h2 : m ≤ len) : Ints n w (.slice a m cap) (xs.take (m * n)) := by
 obtain ⟨a', len', cap', e, hl, hlc, hcm, hnil, hc⟩ := h
 injection e with e1 e2 e3
 subst e1; subst e2; subst e3
 have h5 := Nat.mul_le_mul_right n h2
 refine ⟨_, _, _, rfl, by simp at hl ⊢; omega, by omega, hcm, hnil, fun b off sp h h0 => ?_⟩
 obtain ⟨h3, h4, h5⟩ := hc b off sp h oM
 refine ⟨h3, h4, fun i u hu => h5 i u ?_⟩
 rw [List.map_take, List.getElem?_take] at hu
 split at hu
 ·
  exact hu
 cases hu
theorem Ints.sl {n : Nat} {w : World} {v : Value} {xs : List Int} (h : Ints n w v xs) : Sl n w v (xs.map (.int .i64)) := h
theorem dues_append (a b : List DDue) : dues (a ++ b) = dues a ++ dues b := by simp [dues]
theorem jobsOk_fired {l : List DJob} {k : Nat} {d : DJob} (h : jobsOk l = true) (hd : l[k]? = some d) : 0 ≤ d.Fired := by
 have h1 := (jobsOk_srt h).2.2.1
 have := h1 d (List.mem_of_getElem? hd)
 simp only [jobOk, Bool.and_eq_true] at this
 exact (inb_true.1 this.2.2.2.2).1
end Go.G8
namespace Go.Proofs.YtcnioiieiebodaaGreat
open Go.RowKit Go.G8
theorem sOpenJobs_k (w : World) (s : Value) (l : List DJob) (h : Ints 5 w s (flJob l)) : Calls Tryz.prog 133 #[s] w (Ret w fun r w' => OwnI w.heap.size 100 2 w' r (dues (openD l))) := by
 have HS := Lib.hid h
 obtain ⟨a0, k0, rfl, hcap, hm, ha⟩ := h.recs (f := DJob.ints) (fun _ => rfl) dC
 have HA := Lib.hid ha
 clear h ha
 unfold maxLen at hm
 obtain ⟨i0, hi, hy0, hy1, hy2⟩ := info_parts info_Due
 go_enter Tryz.func133, Tryz.ntmps133
 go_wp2_with fail
 refine (sJobsOk_c _ _ l (HS.out.ext xT)).mono ?_
 rintro e9 w1 ⟨rfl, hx1⟩
 have E1 : Ext w w1 := Ext.trans xT hx1
 have O1 : OwnI w.heap.size 100 2 w1 (.slice (some ⟨w.heap.size, 0, none⟩) 0 0) (dues []) := Own.ext (OwnI.lit0 w _ _) hx1
 clear hx1
 cases hp : jobsOk l
 ·
  have HE := Lib.hid (show openD l = [] from by simp [openD, hp])
  go_wp2_with fail
  go_ret
  exact ⟨_, rfl, E1, by rw [HE.out]; exact O1⟩
 have HE := Lib.hid (show openD l = (opens l).foldl insD [] from by simp [openD, hp])
 have HP := Lib.hid hp
 have hl8 := jobsOk_len hp
 clear hp
 go_wp2_with fail
 go_loopw [3, 4] (fun out kk wr => ∃ (k : Nat) (o : List DDue), k ≤ l.length ∧ kk = .int .i64 k ∧ o.length ≤ k ∧ Ext w wr ∧ OwnI w.heap.size 100 2 wr out (dues o) ∧ Hid ((opens (l.take k)).foldl insD [] = o)) (fun _ kk _ => l.length - (intOf kk).toNat)
 case atStart => exact ⟨0, [], Nat.zero_le _, rfl, Nat.le_refl _, E1, O1, Lib.hid rfl⟩
 case round =>
  clear E1 O1
  obtain ⟨k, o, hk, rfl, hol, E1, O1, HO⟩ := hrel
  obtain ⟨wo, hwo⟩ : ∃ wo, wo = wr := ⟨_, rfl⟩
  subst hwo
  have hzo := E1.size
  obtain ⟨aq, cq, rfl, hcq, hmq, hrec⟩ := O1.ints.recs (f := DDue.ints) (fun _ => rfl) dC
  unfold maxLen at hmq
  have HR := Lib.hid hrec
  clear hrec
  by_cases hlt : k < l.length
  rotate_left
  ·
   obtain rfl : k = l.length := by omega
   have hoo := HO.out
   rw [List.take_length] at hoo
   have HOO := Lib.hid hoo
   clear hoo
   go_wp2_with fail
   go_ret
   exact ⟨_, rfl, E1, by rw [HE.out, HOO.out]; exact O1⟩
  have hkI : (k : Int) < (l.length : Int) := by omega
  obtain ⟨d, b1, o1, hd, rfl, hb1, c⟩ := HA.out k hlt
  have d0 := E1.cell (c 0 _ dC rfl)
  have d1 := E1.cell (c 1 _ dC rfl)
  have d4 := E1.cell (c 4 _ dC rfl)
  simp only [Nat.add_zero] at d0
  have hf0 := jobsOk_fired HP.out hd
  have HD := Lib.hid hd
  clear c hd
  by_cases hfz : d.Fired = 0
  rotate_left
  ·
   have hfp : decide (0 < d.Fired) = true := by simp; omega
   have HN := Lib.hid (openS_skip HD.out hfz HO.out)
   go_wp2_with fail
   go_roundw
   case rel => exact ⟨k + 1, o, by omega, by go_num, by omega, E1, O1, HN⟩
   case measure => simp [intOf]; omega
  have hfp : decide (0 < d.Fired) = false := by simp; omega
  have HN := Lib.hid (openS_next HD.out hfz HO.out)
  clear hfz
  go_wp2_with fail
  go_loopw [5] (fun jj wr => Ext wo wr ∧ ∃ j : Nat, j ≤ o.length ∧ jj = .int .i64 j ∧ Hid (spos o d.Due o.length = spos o d.Due j)) (fun jj _ => (intOf jj).toNat)
  case atStart => exact ⟨Ext.refl _, o.length, Nat.le_refl _, rfl, Lib.hid rfl⟩
  case round =>
   obtain ⟨hX, j, hj, rfl, HJ⟩ := hrel
   have E1 := E1.trans hX
   have O1 := OwnI.ext1 O1 hX
   have d0 := hX.cell d0; have d1 := hX.cell d1; have d4 := hX.cell d4
   have hzo := E1.size
   obtain ⟨aq9, cq9, hsq, _, _, hrec⟩ := O1.ints.recs (f := DDue.ints) (fun _ => rfl) dC
   injection hsq with hs1 hs2 hs3; subst hs1; subst hs3
   have HR := Lib.hid hrec
   clear hrec hs2
   have hsp := spos_le o d.Due j
   rcases Nat.eq_zero_or_pos j with h0 | h0
   ·
    subst h0
    have HP0 := Lib.hid (show spos o d.Due o.length = 0 from HJ.out)
    clear HJ
    go_wp2_with fail
    go_quiet (fail)
    have SL : Sl 2 wr (.slice aq 0 cq) ((dues (o.take 0)).map (.int .i64)) := by
     rw [← dues_take]
     exact Ints.takeN O1.ints oM
    go_wp2_with (first | (at_builtin; go_loud (refine wp_append_fresh rfl _ _ 24 rfl 100 i0 _ 2 16 Tryz.underlying24 hi hy0 hy1 hy2 rfl dC wr.heap.size (by first | rfl | simp) rfl _ ((dues (o.take 0)).map (.int .i64)) rfl (SL.ext xT) (ints_oneCell _ _) 1000 (by simp only [List.length_map, length_dues, List.length_take]; omega) (by unfold maxLen; omega) oM ?_; rotate_right; intro vm w5 Om hx5)))
    have X5 : Ext wr w5 := Ext.trans ((Ext.refl wr).drewN _) hx5
    have hz5 := X5.size
    clear hx5
    obtain ⟨am, nm, cm, rfl⟩ := OwnI.shape (xs := dues (o.take 0)) Om
    have c0 := X5.cell d0; have c1 := X5.cell d1
    have OM : OwnI wr.heap.size 100 2 w5 (.slice am nm cm) (dues (o.take 0)) := Om
    clear Om SL
    go_wp2_with fail
    go_region_held3 (fun w' => w'.cell? ⟨b1, o1 + k * 5, none⟩ = some (.int .i64 d.Id) ∧ w'.cell? ⟨b1, o1 + k * 5 + 1, none⟩ = some (.int .i64 d.Due)) (first | (refine ⟨Ext.cell (w := wr) ?_ d0, Ext.cell (w := wr) ?_ d1⟩ <;> (exact xT); done)) (first | (refine step_append_own rfl (.tmp 49) (.tmp 61) 24 rfl 100 i0 _ 2 16 Tryz.underlying24 hi hy0 hy1 hy2 rfl dC wr.heap.size (.slice am nm cm) _ rfl (Own.ext OM xT) ⟨w5.heap.size, 0, none⟩ 1 1 ([d.Id, d.Due].map (.int .i64)) rfl (by simp) (fun j u hu => by rw [add_lit0, Nat.zero_add, ((Blk.new w5 _ _).drew).cell]; simpa using hu) (ints_oneCell _ _) oM 1000 (by simp only [List.length_map, length_dues, List.length_take, List.length_cons, List.length_nil]; omega) (by unfold maxLen; omega) oM (by simp; omega) ?_; intro v6 w6 On hg6; have X6 : Ext wr w6 := Ext.own (v := .slice am nm cm) (X5.trans xT) (Own.ext OM xT) (Nat.le_refl _) hg6))
    all_goals
     obtain ⟨a6, n6, c6, rfl⟩ := Sl.shape (Own.sl On)
     have O6 : OwnI wr.heap.size 100 2 w6 (.slice a6 n6 c6) (dues (o.take 0 ++ [DDue.mk d.Id d.Due])) := by
      rw [dues_append]
      simpa [OwnI, dues, DDue.ints] using On
     clear On hg6
     have hz6 := X6.size
     have SL2 : Sl 2 wr (.slice aq o.length cq) ((dues (o.drop 0)).map (.int .i64)) := O1.ints.sl
     go_wp2_with (first | (at_builtin; go_loud (refine wp_append rfl _ _ 24 rfl 100 i0 _ 2 16 Tryz.underlying24 hi hy0 hy1 hy2 rfl dC wr.heap.size _ _ rfl O6 _ ((dues (o.drop 0)).map (.int .i64)) rfl (SL2.ext X6) (ints_oneCell _ _) 1000 (by simp only [List.length_map, length_dues, List.length_take, List.length_drop, List.length_append, List.length_cons, List.length_nil]; omega) (by unfold maxLen; omega) oM oM wr X6 (Nat.le_refl _) ?_; rotate_right; intro v7 w7 On7 X7 _)))
     have O7 : OwnI wr.heap.size 100 2 w7 v7 (dues (insD o ⟨d.Id, d.Due⟩)) := by
      have e : insD o ⟨d.Id, d.Due⟩ = o.take 0 ++ [DDue.mk d.Id d.Due] ++ o.drop 0 := by unfold insD; rw [HP0.out]; simp
      rw [e, dues_append _ (o.drop 0)]
      simpa [OwnI] using On7
     have hl7 := insD_len o ⟨d.Id, d.Due⟩
     go_roundw
     case rel => exact ⟨k + 1, _, by omega, by go_num, by omega, E1.trans X7, O7.mono oM, HN⟩
     case measure => simp [intOf]; omega
   obtain ⟨i, hji⟩ : ∃ i, j = i + 1 := ⟨j - 1, by omega⟩
   obtain ⟨d2, b2, o2, hd2, rfl, hb2, c2⟩ := HR.out i oM
   have e1 := c2 1 _ dC rfl
   have HD2 := Lib.hid hd2
   have hj0 : decide (0 < (j : Int)) = true := by simp; omega
   have hj1 : decide (0 < j) = true := by simp; omega
   have hjw : IntKind.i64.wrap (i : Int) = (i : Int) := by rw [IntKind.wrap_i64]; omega
   have hji2 : (j : Int) - 1 = (i : Int) := by omega
   have hil : (i : Int) < (o.length : Int) := by omega
   have HJI := Lib.hid hji
   clear c2 hd2 hji
   by_cases hx : d.Due < d2.Due
   ·
    have hxd : decide (d.Due < d2.Due) = true := by simp; omega
    have HJ2 := Lib.hid (show spos o d.Due o.length = spos o d.Due i by rw [HJ.out, HJI.out]; exact spos_down HD2.out hx)
    clear hx HJ
    go_wp2_with fail
    go_quiet (fail)
    go_wp2_with fail
    exact ⟨⟨xT, i, by omega, rfl, HJ2⟩, by simp [intOf]; have := HJI.out; omega⟩
   have hxd : decide (d.Due < d2.Due) = false := by simp; omega
   have HP0 := Lib.hid (show spos o d.Due o.length = j by rw [HJ.out, HJI.out]; exact spos_stop HD2.out hx)
   clear hx HJ
   go_wp2_with fail
   go_quiet (fail)
   have SL : Sl 2 wr (.slice (some ⟨b2, o2, none⟩) j cq) ((dues (o.take j)).map (.int .i64)) := by
    rw [← dues_take]
    exact Ints.takeN O1.ints oM
   go_wp2_with (first | (at_builtin; go_loud (refine wp_append_fresh rfl _ _ 24 rfl 100 i0 _ 2 16 Tryz.underlying24 hi hy0 hy1 hy2 rfl dC wr.heap.size (by first | rfl | simp) rfl _ ((dues (o.take j)).map (.int .i64)) rfl (SL.ext xT) (ints_oneCell _ _) 1000 (by simp only [List.length_map, length_dues, List.length_take]; omega) (by unfold maxLen; omega) oM ?_; rotate_right; intro vm w5 Om hx5)))
   have X5 : Ext wr w5 := Ext.trans ((Ext.refl wr).drewN _) hx5
   have hz5 := X5.size
   clear hx5
   obtain ⟨am, nm, cm, rfl⟩ := OwnI.shape (xs := dues (o.take j)) Om
   have c0 := X5.cell d0; have c1 := X5.cell d1
   have OM : OwnI wr.heap.size 100 2 w5 (.slice am nm cm) (dues (o.take j)) := Om
   clear Om SL
   go_wp2_with fail
   go_region_held3 (fun w' => w'.cell? ⟨b1, o1 + k * 5, none⟩ = some (.int .i64 d.Id) ∧ w'.cell? ⟨b1, o1 + k * 5 + 1, none⟩ = some (.int .i64 d.Due)) (first | (refine ⟨Ext.cell (w := wr) ?_ d0, Ext.cell (w := wr) ?_ d1⟩ <;> (exact xT); done)) (first | (refine step_append_own rfl (.tmp 49) (.tmp 61) 24 rfl 100 i0 _ 2 16 Tryz.underlying24 hi hy0 hy1 hy2 rfl dC wr.heap.size (.slice am nm cm) _ rfl (Own.ext OM xT) ⟨w5.heap.size, 0, none⟩ 1 1 ([d.Id, d.Due].map (.int .i64)) rfl (by simp) (fun j u hu => by rw [add_lit0, Nat.zero_add, ((Blk.new w5 _ _).drew).cell]; simpa using hu) (ints_oneCell _ _) oM 1000 (by simp only [List.length_map, length_dues, List.length_take, List.length_cons, List.length_nil]; omega) (by unfold maxLen; omega) oM (by simp; omega) ?_; intro v6 w6 On hg6; have X6 : Ext wr w6 := Ext.own (v := .slice am nm cm) (X5.trans xT) (Own.ext OM xT) (Nat.le_refl _) hg6))
   all_goals
    obtain ⟨a6, n6, c6, rfl⟩ := Sl.shape (Own.sl On)
    have O6 : OwnI wr.heap.size 100 2 w6 (.slice a6 n6 c6) (dues (o.take j ++ [DDue.mk d.Id d.Due])) := by
     rw [dues_append]
     simpa [OwnI, dues, DDue.ints] using On
    clear On hg6
    have hz6 := X6.size
    by_cases hcj : cq = j
    ·
     have SLz : ∀ m c, m = 0 → c ≤ maxLen → Sl 2 wr (.slice (some ⟨b2, o2, none⟩) m c) ((dues (o.drop j)).map (.int .i64)) := by
      intro m c h1 h2
      have h3 : o.drop j = [] := List.drop_eq_nil_of_le oM
      rw [h3]
      exact ⟨_, m, c, rfl, by simp [h1, dues], by omega, h2, (fun h => by cases h), fun _ _ _ _ h => by omega⟩
     have hoj : o.length - j = 0 := by omega
     have hoj2 : o.length = j := by omega
     subst hcj
     go_wp2_with (first | (at_builtin; go_loud (refine wp_append rfl _ _ 24 rfl 100 i0 _ 2 16 Tryz.underlying24 hi hy0 hy1 hy2 rfl dC wr.heap.size _ _ rfl O6 _ ((dues (o.drop cq)).map (.int .i64)) rfl ((SLz _ _ oM (by unfold maxLen; omega)).ext X6) (ints_oneCell _ _) 1000 (by simp only [List.length_map, length_dues, List.length_take, List.length_drop, List.length_append, List.length_cons, List.length_nil]; omega) (by unfold maxLen; omega) oM oM wr X6 (Nat.le_refl _) ?_; rotate_right; intro v7 w7 On7 X7 _)))
     have O7 : OwnI wr.heap.size 100 2 w7 v7 (dues (insD o ⟨d.Id, d.Due⟩)) := by
      have e : insD o ⟨d.Id, d.Due⟩ = o.take cq ++ [DDue.mk d.Id d.Due] ++ o.drop cq := by unfold insD; rw [HP0.out]; simp
      rw [e, dues_append _ (o.drop cq)]
      simpa [OwnI] using On7
     have hl7 := insD_len o ⟨d.Id, d.Due⟩
     go_roundw
     case rel => exact ⟨k + 1, _, by omega, by go_num, by omega, E1.trans X7, O7.mono oM, HN⟩
     case measure => simp [intOf]; omega
    have SL2 : Sl 2 wr (.slice (some ((⟨b2, o2, none⟩ : Addr).add (j * 2))) (o.length - j) (cq - j)) ((dues (o.drop j)).map (.int .i64)) := by
     have h1 := Sl.sliced O1.ints.sl (l := j) (m := o.length) oM (Nat.le_refl _)
     have h2 : ((dues o).map (Value.int .i64)).take (o.length * 2) = (dues o).map (.int .i64) := List.take_of_length_le (by simp [length_dues])
     rw [h2, ← List.map_drop, dues_drop, Go.sliced, if_neg hcj] at h1
     exact h1
    (try simp only [add_lit0] at SL2)
    go_wp2_with (first | (at_builtin; go_loud (refine wp_append rfl _ _ 24 rfl 100 i0 _ 2 16 Tryz.underlying24 hi hy0 hy1 hy2 rfl dC wr.heap.size _ _ rfl O6 _ ((dues (o.drop j)).map (.int .i64)) rfl (SL2.ext X6) (ints_oneCell _ _) 1000 (by simp only [List.length_map, length_dues, List.length_take, List.length_drop, List.length_append, List.length_cons, List.length_nil]; omega) (by unfold maxLen; omega) oM oM wr X6 (Nat.le_refl _) ?_; rotate_right; intro v7 w7 On7 X7 _)))
    have O7 : OwnI wr.heap.size 100 2 w7 v7 (dues (insD o ⟨d.Id, d.Due⟩)) := by
     have e : insD o ⟨d.Id, d.Due⟩ = o.take j ++ [DDue.mk d.Id d.Due] ++ o.drop j := by unfold insD; rw [HP0.out]; simp
     rw [e, dues_append _ (o.drop j)]
     simpa [OwnI] using On7
    have hl7 := insD_len o ⟨d.Id, d.Due⟩
    go_roundw
    case rel => exact ⟨k + 1, _, by omega, by go_num, by omega, E1.trans X7, O7.mono oM, HN⟩
    case measure => simp [intOf]; omega
theorem info_Entry : (Tryz.prog.info? 105).map (fun i => (i.zero, i.size, i.bytes)) = some (some (.agg #[.int .i64 0, .int .i64 0, .int .i64 0, .int .i64 0, .int .i64 0, .int .i64 0, .int .i64 0, .int .i64 0, .int .i64 0]), 9, 72) := by kernel_rfl
end Go.Proofs.YtcnioiieiebodaaGreat
