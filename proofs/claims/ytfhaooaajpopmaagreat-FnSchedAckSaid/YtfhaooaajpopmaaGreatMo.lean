/- Contracts and plain laws: DC DD DD2 DD3 OD HelpI. -/
import Derived.Test.YtfhaooaajpopmaaGreatMa
import Derived.Test.YtfhaooaajpopmaaGreatMj
import Derived.Test.YtfhaooaajpopmaaGreatMf
import Derived.Test.YtfhaooaajpopmaaGreatMe
import Derived.Test.YtfhaooaajpopmaaGreatMb
set_option linter.unusedSimpArgs false
set_option linter.unusedVariables false
set_option maxHeartbeats 8000000
set_option maxRecDepth 100000
namespace Go.G8
open Go.RowKit
theorem bits_le (x : Int) : 0 ≤ bits .and .i64 x 255 ∧ bits .and .i64 x 255 ≤ 255 := by
 have h : (BitVec.ofInt 64 x &&& BitVec.ofInt 64 255).toNat ≤ 255 := by
  rw [BitVec.toNat_and]
  exact Nat.and_le_right
 have e : bits .and .i64 x 255 = IntKind.i64.wrap ((BitVec.ofInt 64 x &&& BitVec.ofInt 64 255).toNat : Int) := rfl
 rw [e, IntKind.wrap_i64] <;> omega
theorem Upd.setOne {a b : World} {g : Nat} (h : Upd a b [g]) (o : Nat) (u : Value) : Upd a (b.setCell ⟨g, o, none⟩ u) [g] := h.setCell (List.mem_singleton.2 rfl) u
theorem Upd.cell {a b : World} {fs : List Nat} (h : Upd a b fs) {k o : Nat} (hk : k < a.heap.size) (hn : k ∉ fs) : b.cell? ⟨k, o, none⟩ = a.cell? ⟨k, o, none⟩ := World.cell?_of_block (w := a) (h.block k hk hn)
theorem Blk.upd1 {w w' : World} {b g : Nat} {t : TypeId} {cs : Array Value} (h : Blk w b t cs) (x : Upd w w' [g]) (hn : b ≠ g) : Blk w' b t cs := h.upd x (fun hm => hn (List.mem_singleton.1 hm))
theorem Upd.drewNd {a b : World} {fs : List Nat} (h : Upd a b fs) (n : Nat) : Upd a (b.drewN n) fs := h.ext ((Ext.refl _).drewN n)
theorem Upd.drewd1 {a b : World} {fs : List Nat} (h : Upd a b fs) : Upd a b.drew fs := h.ext (Ext.drew (Ext.refl _))
theorem Upd.setAt {a b : World} {fs : List Nat} (h : Upd a b fs) {k o : Nat} {sp : Option _} (hp : a.heap.size ≤ k) (u : Value) : Upd a (b.setCell ⟨k, o, sp⟩ u) fs := h.setNew (p := ⟨k, o, sp⟩) hp u
theorem Upd.rowNew {a b : World} {fs : List Nat} (h : Upd a b fs) {g : Nat} (hg : a.heap.size ≤ g) (cs : Array Value) : Upd a (b.setRow g cs) fs :=
 ⟨h.os, h.tape, h.output, by rw [size_setRow]; exact h.size, fun k hk hn => (heap_setRow_ne b cs oM).trans (h.block k hk hn)⟩
theorem pick_int (l : List Int) {n : Nat} (h : n < l.length) : ∃ u : Int, (l.map (Value.int .i64)).toArray[n]? = some (.int .i64 u) := ⟨l[n], by simp [h]⟩
theorem Own.footB {B : Nat} {e : TypeId} {n : Nat} {w : World} {v : Value} {cs : List Value} (h : Own B e n w v cs) {k : Nat} (hk : k ∈ feet [v]) : B ≤ k := by
 simp only [feet, List.mem_filterMap] at hk
 obtain ⟨u, hu, hf⟩ := hk
 simp at hu; subst hu
 exact (h.lt hf).1
theorem Upd.app {a w w' : World} {B : Nat} {e : TypeId} {n : Nat} {v : Value} {cs : List Value} {fs : List Nat} (h : Upd a w fs) (ho : Own B e n w v cs) (hB : (∀ k, k ∈ feet [v] → k ∈ fs) ∨ a.heap.size ≤ B) (hg : w.grownBy w' v.ownBlock) : Upd a w' fs :=
 ⟨hg.os.trans h.os, hg.tape.trans h.tape, hg.output.trans h.output, Nat.le_trans h.size hg.size, fun k hk hn => by
  refine (hg.block k (Nat.lt_of_lt_of_le hk h.size) (fun e => ?_)).trans (h.block k hk hn)
  rcases hB with hB | hB
  ·
   exact hn (hB k (by simp [feet, e.symm]))
  have := (ho.lt e.symm).1; omega⟩
theorem Own.typed' {B : Nat} {e : TypeId} {n : Nat} {w : World} {v : Value} {cs : List Value} (h : Own B e n w v cs) {X : Nat} (hX : v.ownBlock = some X) : ∃ cur, Blk w X e cur := by
 obtain ⟨len, h⟩ := h
 rcases h.2 with ⟨h0, _⟩ | ⟨g, cap, cur, hv, hb, hg, _⟩
 ·
  rw [h0] at hX; simp [Value.ownBlock] at hX
 rw [hv] at hX
 simp [Value.ownBlock] at hX
 subst hX
 exact ⟨cur, hg⟩
theorem Blk.app {w w' : World} {g B : Nat} {t e : TypeId} {n : Nat} {v : Value} {cs : Array Value} {xs : List Value} (h : Blk w g t cs) (ho : Own B e n w v xs) (ht : t ≠ e) (hg : w.grownBy w' v.ownBlock) : Blk w' g t cs := by
 refine (hg.block g h.lt (fun hh => ?_)).trans h
 obtain ⟨cur, hb⟩ := ho.typed' hh.symm
 unfold Blk at h hb
 rw [h] at hb
 injection hb with hb
 injection hb with _ hb
 exact ht hb
theorem Own.app {w w' : World} {B B' : Nat} {t e : TypeId} {n m : Nat} {v u : Value} {cs xs : List Value} (h : Own B' t m w u cs) (ho : Own B e n w v xs) (ht : t ≠ e) (hg : w.grownBy w' v.ownBlock) : Own B' t m w' u cs := by
 refine h.kept hg ?_
 cases hu : u.ownBlock with
 | none => exact .inl rfl
 | some X =>
  refine .inr (fun hh => ?_)
  obtain ⟨c1, h1⟩ := h.typed' hu
  obtain ⟨c2, h2⟩ := ho.typed' hh.symm
  unfold Blk at h1 h2
  rw [h1] at h2
  injection h2 with h2
  injection h2 with _ h2
  exact ht h2
theorem OwnI.app {w w' : World} {B B' : Nat} {t e : TypeId} {n m : Nat} {v u : Value} {cs : List Int} {xs : List Value} (h : OwnI B' t m w u cs) (ho : Own B e n w v xs) (ht : t ≠ e) (hg : w.grownBy w' v.ownBlock) : OwnI B' t m w' u cs := Own.app h ho ht hg
theorem OwnI.drawn {B : Nat} {e : TypeId} {n : Nat} {w w' : World} {v : Value} {xs : List Int} {g : Nat} (h : OwnI B e n w v xs) (x : Upd w w' [g]) (hg : g < B) : OwnI B e n w' v xs :=
 Own.upd h x (fun k hk hm => by have := (Own.lt h hk).1; simp at hm; omega)
theorem OwnI.ext1 {B : Nat} {e : TypeId} {n : Nat} {w w' : World} {v : Value} {xs : List Int} (h : OwnI B e n w v xs) (x : Ext w w') : OwnI B e n w' v xs := Own.ext h x
theorem wp_appendU {P : Program} {w : World} {ops : Array Oper} {rest : List Oper} {o : Oper} {a : Act} {Q : Exit → Act → World → Prop} (hgd : o.guard = none) (s x : Operand) (t : TypeId)
  (ho : o.op = .call { callee := .builtin .append, args := #[s, x], argTypes := #[t, t] })
  (e : TypeId) (i : TypeInfo) (z : Value) (size bytes : Nat) (ht : P.underlying t = some (.slice e)) (hi : P.info? e = some i) (hz : i.zero = some z)
  (hsize : i.size = size) (hby : i.bytes = bytes) (hzs : z.cells.size = size) (hsz : 0 < size)
  (B : Nat) (v : Value) (cs : List Int) (hs : a.eval s = v) (hown : OwnI B e size w v cs) (u : Value) (news : List Int) (hx : a.eval x = u) (hsl : Sl size w u (news.map (.int .i64)))
  (n : Nat) (hlen : cs.length + news.length ≤ n * size) (hn : n ≤ 4611686018427387904) (hbytes : n * bytes ≤ 140737488355328) (hbase : B ≤ w.heap.size)
  (h : ∀ v' w', OwnI B e size w' v' (cs ++ news) → w.grownBy w' v.ownBlock → wpList P ops Q rest (a.put o.dst v') w') : wpList P ops Q (o :: rest) a w := by
 have hE : Ext { w with heap := #[] } w := ⟨rfl, rfl, rfl, Nat.zero_le _, fun k hk => by simp at hk⟩
 refine wp_append hgd s x t ho e i z size bytes ht hi hz hsize hby hzs hsz B v _ hs hown u _ hx hsl (ints_oneCell _ _) n (by simpa using hlen) (by unfold maxLen; omega) hbytes hbase { w with heap := #[] } hE (Nat.zero_le _) (fun v' w' h1 _ h3 => h v' w' (by simpa [OwnI] using h1) h3)
theorem updT {a b : World} {fs : List Nat} (h : Upd a b fs := by ((repeat' (first | (with_reducible exact Upd.refl _ _) | (with_reducible assumption) | (with_reducible refine Upd.drewNd ?_ _) | (with_reducible refine Upd.drewd1 ?_) | (with_reducible refine Upd.alloc ?_ _) | (with_reducible refine Upd.setOne ?_ _ _) | (with_reducible refine Upd.setAt ?_ ?_ _) | (with_reducible refine Upd.rowNew ?_ ?_ _) | (with_reducible refine Upd.trans ?_ (by assumption)) | (with_reducible refine Upd.ext ?_ (by assumption)) | omega)); first | done | fail)) : Upd a b fs := h
theorem _root_.Go.G8.Upd.up {w w1 w2 : World} {fs : List Nat} (X : Upd w1 w2 fs) (h : Upd w w1 fs := by exact updT) : Upd w w2 fs := Upd.trans h X
theorem ownT {B : Nat} {e : TypeId} {n : Nat} {w : World} {v : Value} {xs : List Int} (h : OwnI B e n w v xs := by ((repeat' (first | (with_reducible assumption) | (with_reducible refine OwnI.ext1 ?_ (Ext.alloc (Ext.refl _) _)) | (with_reducible refine OwnI.ext1 ?_ (Ext.drewN (Ext.refl _) _)) | (with_reducible refine OwnI.ext1 ?_ (Ext.drew (Ext.refl _))))); first | done | fail)) : OwnI B e n w v xs := h
theorem ow_ed {B : Nat} {e : TypeId} {n : Nat} {w w' : World} {v : Value} {xs : List Int} (O : OwnI B e n w v xs) (h : OwnI B e n w v xs → OwnI B e n w' v xs := by intro O1 ; first | (with_reducible exact O1) | (refine OwnI.drawn O1 ?_ (by omega); (exact updT); done)) : OwnI B e n w' v xs := h O
theorem ow_en {B : Nat} {e : TypeId} {n : Nat} {w w' : World} {v : Value} {xs : List Int} (O : OwnI B e n w v xs) (h : OwnI B e n w v xs → OwnI B e n w' v xs := by intro O1 ; first | (with_reducible exact O1) | (exact ownT)) : OwnI B e n w' v xs := h O
def Bytes (w : World) (v : Value) : Prop := ∃ bs : List Int, Sl 1 w v (bs.map (.int .u8)) ∧ ∀ x, x ∈ bs → 0 ≤ x ∧ x ≤ 255
theorem Bytes.ext {w w' : World} {v : Value} (h : Bytes w v) (x : Ext w w') : Bytes w' v := let ⟨bs, h, hb⟩ := h; ⟨bs, h.ext x, hb⟩
end Go.G8
namespace Go.Proofs.YtfhaooaajpopmaaGreat
open Go.RowKit Go.G8
def Cur (B : Nat) (w : World) (g : Nat) : Prop := ∃ (a : Option Addr) (n k i : Nat) (h : Int), Blk w g 53 #[.slice a n k, .int .i64 i, .int .i64 h] ∧ B ≤ g ∧ i ≤ n ∧ n ≤ k ∧ k ≤ maxLen ∧
 ∀ j, j < n → ∃ b off x, a = some ⟨b, off, none⟩ ∧ b < B ∧ 0 ≤ x ∧ x ≤ 255 ∧ w.cell? ⟨b, off + j, none⟩ = some (.int .u8 x)
theorem Cur.lt {B : Nat} {w : World} {g : Nat} (h : Cur B w g) : B ≤ g ∧ g < w.heap.size := let ⟨_, _, _, _, _, hk, hB, _⟩ := h; ⟨hB, hk.lt⟩
theorem Cur.upd {B : Nat} {w w' : World} {g : Nat} {fs : List Nat} (h : Cur B w g) (x : Upd w w' fs) (hg : g ∉ fs) (hB : ∀ k, k ∈ fs → B ≤ k) : Cur B w' g := by
 obtain ⟨a, n, k, i, e, hk, h0, h1, h2, h3, h4⟩ := h
 refine ⟨a, n, k, i, e, hk.upd x hg, h0, h1, h2, h3, fun j hj => ?_⟩
 obtain ⟨b, off, y, h5, h6, h7, h8, h9⟩ := h4 j hj
 have := hk.lt
 exact ⟨b, off, y, h5, h6, h7, h8, (x.cell oM (fun hm => by have := hB b hm; omega)).trans h9⟩
theorem Cur.ext {B : Nat} {w w' : World} {g : Nat} (h : Cur B w g) (x : Ext w w') : Cur B w' g := h.upd (x.upd []) (by simp) (by simp)
theorem Cur.set_ {B : Nat} {w : World} {g : Nat} (h : Cur B w g) {X : Nat} (hX : g < X) (o : Nat) (u : Value) : Cur B (w.setCell ⟨X, o, none⟩ u) g :=
 h.upd ((Upd.refl w [X]).setOne o u) (by simp; omega) (fun k hk => by have := h.lt; simp at hk; omega)
theorem Cur.row {B : Nat} {w : World} {g : Nat} (h : Cur B w g) {X : Nat} (hX : g < X) (cs : Array Value) : Cur B (w.setRow X cs) g :=
 h.upd (fs := [X]) ⟨rfl, rfl, rfl, by rw [size_setRow]; exact Nat.le_refl _, fun k _ hn => heap_setRow_ne w cs (fun e => hn (by simp [e]))⟩ (by simp; omega) (fun k hk => by have := h.lt; simp at hk; omega)
theorem Cur.of {B : Nat} {w w' : World} {g n k i' : Nat} {a : Option Addr} {h' : Int} (X : Upd w w' [g]) (hg : g < w.heap.size) (K : Blk w' g 53 #[.slice a n k, .int .i64 i', .int .i64 h']) (h0 : B ≤ g) (h1 : i' ≤ n) (h2 : n ≤ k) (h3 : k ≤ 9223372036854775807)
  (h4 : ∀ j, j < n → ∃ b off x, a = some ⟨b, off, none⟩ ∧ b < B ∧ 0 ≤ x ∧ x ≤ 255 ∧ w.cell? ⟨b, off + j, none⟩ = some (.int .u8 x)) : Cur B w' g := by
 refine ⟨a, n, k, i', h', K, h0, h1, h2, by unfold maxLen; omega, fun j hj => ?_⟩
 obtain ⟨b, off, y, h5, h6, h7, h8, h9⟩ := h4 j hj
 exact ⟨b, off, y, h5, h6, h7, h8, (X.cell oM (by simp; omega)).trans h9⟩
theorem curT {B : Nat} {w : World} {g : Nat} (h : Cur B w g := by ((repeat' (first | (with_reducible assumption) | (with_reducible refine Cur.set_ ?_ ?_ _ _) | (with_reducible refine Cur.row ?_ ?_ _) | (with_reducible refine Cur.ext ?_ (Ext.drewN (Ext.refl _) _)) | (with_reducible refine Cur.ext ?_ (Ext.drew (Ext.refl _))) | (with_reducible refine Cur.ext ?_ (Ext.alloc (Ext.refl _) _)) | omega)); first | done | fail)) : Cur B w g := h
theorem _root_.Go.Shut.o2 {P : Program} {ops : Array Oper} {Q : Exit → Act → World → Prop} {md : Region.Mode} {S : World → Prop} {fuel : Nat} {listed : Array Bool} {a : Act} {w : World} {K' : Act → World → Prop} (h : Shut (∀ a w, S w → (S w → wpAnyH P md ops Q S fuel listed a w) → K' a w)) (k : S w → wpAnyH P md ops Q S fuel listed a w) (hS : S w := by (try dsimp only); exact ⟨(by exact updT), (by exact curT)⟩) : K' a w := h.out _ _ hS k
theorem _root_.Go.Shut.o3 {P : Program} {ops : Array Oper} {Q : Exit → Act → World → Prop} {md : Region.Mode} {S : World → Prop} {fuel : Nat} {listed : Array Bool} {a : Act} {w : World} {K' : Act → World → Prop} (h : Shut (∀ a w, S w → (S w → wpAnyH P md ops Q S fuel listed a w) → K' a w)) (k : S w → wpAnyH P md ops Q S fuel listed a w) (hS : S w := by (try dsimp only); exact ⟨(by exact updT), (by exact curT), (Blk.cast (by exact blkT) setsT)⟩) : K' a w := h.out _ _ hS k
theorem _root_.Go.Shut.o4 {P : Program} {ops : Array Oper} {Q : Exit → Act → World → Prop} {md : Region.Mode} {S : World → Prop} {fuel : Nat} {listed : Array Bool} {a : Act} {w : World} {K' : Act → World → Prop} (h : Shut (∀ a w, S w → (S w → wpAnyH P md ops Q S fuel listed a w) → K' a w)) (k : S w → wpAnyH P md ops Q S fuel listed a w) (hS : S w := by (try dsimp only); exact ⟨(by exact updT), (by exact curT), (Blk.cast (by exact blkT) setsT), (Blk.cast (by exact blkT) setsT)⟩) : K' a w := h.out _ _ hS k
theorem cU (B : Nat) {w : World} {g : Nat} (h : Cur B w g := by exact curT) : Cur B w g := h
theorem wh {P : Program} {ops : Array Oper} {Q : Exit → Act → World → Prop} {S : World → Prop} {id : Nat} {a : Act} {w : World} (h : S w.drew → wpAnyH P .any ops Q S ops.size (Array.replicate ops.size false) a w.drew) (hS : S w.drew := by (try dsimp only); exact ⟨(by exact updT), (by exact curT)⟩) (hm : P.follows .mixedOrders = true := by kernel_rfl) : (Code.region id ops true).wp P Q a w := wp_region_held_drew hm hS h
def Dr (B : Nat) (w : World) (g : Nat) (Q : Value → World → Prop) (e : Ending) (w' : World) : Prop := ∃ v, e = .returned v ∧ Upd w w' [g] ∧ Cur B w' g ∧ Q v w'
section
variable {B : Nat} {w : World} {g : Nat}
theorem Cur.app {B0 B g n : Nat} {e : TypeId} {w w' : World} {v : Value} {cs : List Value} (h : Cur B0 w g) (ho : Own B e n w v cs) (hB : g < B) (hg : w.grownBy w' v.ownBlock) : Cur B0 w' g :=
 h.upd (Upd.app (Upd.refl w _) ho (fs := feet [v]) (.inl fun _ h => h) hg) (fun hm => by have := ho.footB hm; omega) (fun k hk => by have := ho.footB hk; have := h.lt; omega)
theorem l1Byte_c (h : Cur B w g) : Calls Tryz.prog 36 #[.pointer (some ⟨g, 0, none⟩)] w (Dr B w g fun v _ => ∃ x : Int, v = .int .i64 x ∧ 0 ≤ x ∧ x ≤ 255) := by
 have HC := Lib.hid h
 obtain ⟨a, n, k, i, e, hk, h0, h1, h2, h3, h4⟩ := h
 unfold maxLen at h3
 have CK := hk.cell; have FK := hk.frozen; have LK := hk.lt
 have HK := Lib.hid hk
 clear hk
 by_cases hi : i < n
 ·
  obtain ⟨b, off, y, rfl, hb, y0, y1, hy⟩ := h4 i hi
  have H4 := Lib.hid h4
  clear h4
  have hbg : b ≠ g := by omega
  have hbl : b < w.heap.size := by omega
  have hyb : decide ((i : Int) < (n : Int)) = true := by simp; omega
  go_enter Tryz.func36, Tryz.ntmps36
  go_wp2_with fail
  go_quiet (fail)
  go_wp2_with fail
  go_quiet (fail)
  go_wp2_with fail
  go_quiet (fail)
  go_wp2_with fail
  go_ret
  refine ⟨_, rfl, ?_, ?_, _, rfl, (bits_le _).1, (bits_le _).2⟩
  ·
   exact updT
  refine Cur.of (w := w) (i' := i + 1) ?_ LK (by refine Blk.cast (by repeat' (first | (with_reducible exact HK.out) | (with_reducible apply Blk.drewN) | (with_reducible apply Blk.set_))) (by simp; rfl)) h0 oM h2 oM H4.out
  exact updT
 have hyb : decide ((i : Int) < (n : Int)) = false := by simp; omega
 go_enter Tryz.func36, Tryz.ntmps36
 go_wp2_with fail
 go_quiet (fail)
 go_wp2_with fail
 go_quiet (fail)
 go_wp2_with fail
 go_ret
 refine ⟨_, rfl, ?_, ?_, _, rfl, (bits_le _).1, (bits_le _).2⟩
 ·
  exact updT
 refine Cur.of (w := w) (i' := i) ?_ LK (by refine Blk.cast (by repeat' (first | (with_reducible exact HK.out) | (with_reducible apply Blk.drewN) | (with_reducible apply Blk.set_))) (by simp; rfl)) h0 oM h2 oM h4
 exact updT
theorem l1Below_c (h : Cur B w g) (m : Int) : Calls Tryz.prog 14 #[.pointer (some ⟨g, 0, none⟩), .int .i64 m] w (Dr B w g fun v _ => ∃ x : Int, v = .int .i64 x ∧ 0 ≤ x ∧ (0 < m → x < m) ∧ (m ≤ 0 → x = 0)) := by
 by_cases h0 : m ≤ 0
 ·
  go_enter Tryz.func14, Tryz.ntmps14
  go_wp2_with fail
  go_ret
  exact ⟨_, rfl, Upd.refl _ _, h, _, rfl, by omega, fun h => by omega, fun _ => rfl⟩
 have hm : m ≠ 0 := by omega
 by_cases h1 : m ≤ 256
 ·
  go_enter Tryz.func14, Tryz.ntmps14
  go_wp2_with fail
  refine (l1Byte_c h).mono ?_
  rintro e w1 ⟨_, rfl, X1, h2, x, rfl, x0, x1⟩
  go_wp2_with fail
  go_ret
  exact ⟨_, rfl, X1, h2, _, rfl, Int.emod_nonneg _ hm, fun _ => Int.emod_lt_of_pos _ oM, fun h => by omega⟩
 go_enter Tryz.func14, Tryz.ntmps14
 go_wp2_with fail
 refine (l1Byte_c h).mono ?_
 rintro e w1 ⟨_, rfl, X1, h2, x, rfl, x0, x1⟩
 go_wp2_with fail
 refine (l1Byte_c h2).mono ?_
 rintro e w2 ⟨_, rfl, X2, h3, y, rfl, y0, y1⟩
 go_wp2_with fail
 refine (l1Byte_c h3).mono ?_
 rintro e w3 ⟨_, rfl, X3, h4, z, rfl, z0, z1⟩
 go_wp2_with fail
 refine (l1Byte_c h4).mono ?_
 rintro e w4 ⟨_, rfl, X4, h5, t, rfl, t0, t1⟩
 go_wp2_with fail
 go_ret
 exact ⟨_, rfl, ((X1.trans X2).trans X3).trans X4, h5, _, rfl, Int.emod_nonneg _ hm, fun _ => Int.emod_lt_of_pos _ oM, fun h => by omega⟩
theorem l1Once_c (h : Cur B w g) (m : Int) : Calls Tryz.prog 33 #[.pointer (some ⟨g, 0, none⟩), .int .i64 m] w (Dr B w g fun v _ => ∃ x : Bool, v = .bool x) := by
 go_enter Tryz.func33, Tryz.ntmps33
 go_wp2_with fail
 refine (l1Below_c h m).mono ?_
 rintro e w1 ⟨_, rfl, X1, h2, x, rfl, x0, x1⟩
 go_wp2_with fail
 go_ret
 exact ⟨_, rfl, X1, h2, _, rfl⟩
theorem l1From_c (h : Cur B w g) (lo hi : Int) (h0 : -1152921504606846976 ≤ lo) (h1 : lo ≤ hi) (h2 : hi ≤ 1152921504606846976) : Calls Tryz.prog 16 #[.pointer (some ⟨g, 0, none⟩), .int .i64 lo, .int .i64 hi] w (Dr B w g fun v _ => ∃ x : Int, v = .int .i64 x ∧ lo ≤ x ∧ x ≤ hi) := by
 have e1 : IntKind.i64.wrap (hi - lo) = hi - lo := by rw [IntKind.wrap_i64]; omega
 have e2 : IntKind.i64.wrap (hi - lo + 1) = hi - lo + 1 := by rw [IntKind.wrap_i64]; omega
 go_enter Tryz.func16, Tryz.ntmps16
 go_wp2_with fail
 refine (l1Below_c h _).mono ?_
 rintro e w1 ⟨_, rfl, X1, h3, x, rfl, x0, x1, x2⟩
 have e3 : IntKind.i64.wrap (lo + x) = lo + x := by rw [IntKind.wrap_i64]; omega
 go_wp2_with fail
 go_ret
 exact ⟨_, rfl, X1, h3, _, rfl, by omega, by omega⟩
theorem l1Min_c (x y : Int) : Calls Tryz.prog 38 #[.int .i64 x, .int .i64 y] w (fun e w' => e = .returned (.int .i64 (min x y)) ∧ w = w') := by
 go_enter Tryz.func38, Tryz.ntmps38
 go_wp2_with fail
 all_goals
  go_ret
  exact ⟨congrArg (fun z => Ending.returned (Value.int .i64 z)) oM, rfl⟩
theorem l1Odd_c (h : Cur B w g) : Calls Tryz.prog 37 #[.pointer (some ⟨g, 0, none⟩)] w (Dr B w g fun v _ => ∃ x : Int, v = .int .i64 x) := by
 go_enter Tryz.func37, Tryz.ntmps37
 go_wp2_with fail
 refine (l1Below_c (h.ext xT) 10).mono ?_
 rintro e w1 ⟨_, rfl, X1, h2, x, rfl, x0, x1, _⟩
 obtain ⟨u, hu⟩ : ∃ u : Int, w1.cell? ⟨w.heap.size, x.toNat, none⟩ = some (.int .i64 u) := by
  rw [((Blk.new w _ _).upd1 X1 (by have := h.lt; omega)).cell]
  have : x.toNat < 10 := by omega
  exact pick_int [-1, 0, 1, 2147483648, -2147483648, 1099511627776, 4611686018427387904, -4611686018427387904, 9223372036854775807, -9223372036854775808] this
 go_wp2_with fail
 go_ret
 exact ⟨_, rfl, by exact updT, h2, _, rfl⟩
end
theorem l16Draw_c {B : Nat} {w : World} {g : Nat} (h : Cur B w g) : Calls Tryz.prog 65 #[.pointer (some ⟨g, 0, none⟩)] w (Dr B w g fun v w' => ∃ x y z : Int, v = .agg #[.int .i64 x, .int .i64 y, .int .i64 z]) := by
 have hc0 := h; have E0 : Upd w w [g] := Upd.refl _ _
 have hg0 := h.lt
 go_enter Tryz.func65, Tryz.ntmps65
 go_wp2_with fail
 refine (l1Once_c (cU B) 8).mono ?_
 rintro e w1 ⟨_, rfl, X1, hc1, b1, rfl⟩
 have hz1 := X1.sz
 have E1 : Upd w w1 [g] := X1.up
 have KR1 : Blk w1 w.heap.size 60 #[.int .i64 0, .int .i64 0, .int .i64 0] := bU X1
 clear X1
 obtain ⟨CR1, FR1, LR1⟩ := KR1.cfl
 cases b1
 rotate_left
 ·
  go_wp2_with fail
  refine bodyPost_ret (by simp [results, Tryz.results65, go_sem, CR1, FR1, LR1]; try rfl) rfl ?_
  exact ⟨_, rfl, by exact updT, by exact curT, _, _, _, rfl⟩
 go_wp2_with fail
 refine (l1Below_c (cU B) 2).mono ?_
 rintro e w2 ⟨_, rfl, X2, hc2, x1, rfl, px1, qx1, rx1⟩
 have hz2 := X2.sz
 have E2 : Upd w w2 [g] := X2.up
 have KR2 := KR1.upv X2
 clear X2
 clear CR1 FR1 LR1
 obtain ⟨CR2, FR2, LR2⟩ := KR2.cfl
 have qx1 := qx1 dC; clear rx1
 go_wp2_with fail
 refine (l1Below_c (cU B) 5).mono ?_
 rintro e w3 ⟨_, rfl, X3, hc3, x2, rfl, px2, qx2, rx2⟩
 have hz3 := X3.sz
 have E3 : Upd w w3 [g] := X3.up
 have KR3 := KR2.upv X3
 clear X3
 clear CR2 FR2 LR2
 obtain ⟨CR3, FR3, LR3⟩ := KR3.cfl
 have qx2 := qx2 dC; clear rx2
 go_wp2_with fail
 refine (l1Below_c (cU B) 60).mono ?_
 rintro e w4 ⟨_, rfl, X4, hc4, x3, rfl, px3, qx3, rx3⟩
 have hz4 := X4.sz
 have E4 : Upd w w4 [g] := X4.up
 have KR4 := KR3.upv X4
 clear X4
 clear CR3 FR3 LR3
 obtain ⟨CR4, FR4, LR4⟩ := KR4.cfl
 have qx3 := qx3 dC; clear rx3
 go_wp2_with fail
 refine (l1Once_c (cU B) 8).mono ?_
 rintro e w5 ⟨_, rfl, X5, hc5, b2, rfl⟩
 have hz5 := X5.sz
 have E5 : Upd w w5 [g] := X5.up
 have KR5 := KR4.upv X5
 have KL5 : Blk w5 w4.heap.size 60 #[.int .i64 (2 + x1), .int .i64 (1 + x2), .int .i64 (1 + x3)] := bU X5
 clear X5
 clear CR4 FR4 LR4
 obtain ⟨CR5, FR5, LR5⟩ := KR5.cfl
 obtain ⟨CL5, FL5, LL5⟩ := KL5.cfl
 cases b2
 rotate_left
 ·
  go_wp2_with fail
  refine (l1Below_c (cU B) 2).mono ?_
  rintro e w6 ⟨_, rfl, X6, hc6, x4, rfl, px4, qx4, rx4⟩
  have hz6 := X6.sz
  have E6 : Upd w w6 [g] := X6.up
  have KR6 := KR5.upv X6
  have KL6 := KL5.upv X6
  clear X6
  clear CR5 FR5 LR5 CL5 FL5 LL5
  obtain ⟨CR6, FR6, LR6⟩ := KR6.cfl
  obtain ⟨CL6, FL6, LL6⟩ := KL6.cfl
  have qx4 := qx4 dC; clear rx4
  go_wp2_with fail
  refine (l1Once_c (cU B) 8).mono ?_
  rintro e w7 ⟨_, rfl, X7, hc7, b3, rfl⟩
  have hz7 := X7.sz
  have E7 : Upd w w7 [g] := X7.up
  have KR7 := KR6.upv X7
  have KL7 : Blk w7 w4.heap.size 60 #[.int .i64 (2 + x1), .int .i64 (1000 - x4), .int .i64 (1 + x3)] := bU X7
  clear X7
  clear CR6 FR6 LR6 CL6 FL6 LL6
  obtain ⟨CR7, FR7, LR7⟩ := KR7.cfl
  obtain ⟨CL7, FL7, LL7⟩ := KL7.cfl
  cases b3
  rotate_left
  ·
   go_wp2_with fail
   refine (l1Below_c (cU B) 4).mono ?_
   rintro e w8 ⟨_, rfl, X8, hc8, x5i, rfl, px5, qx5, rx5⟩
   have hz8 := X8.sz
   have E8 : Upd w w8 [g] := X8.up
   have KR8 := KR7.upv X8
   have KL8 := KL7.upv X8
   have KPk8 : Blk w8 w7.heap.size 2 #[.int .i64 999999, .int .i64 1000000, .int .i64 1000001, .int .i64 1001000] := bU X8
   clear X8
   clear CR7 FR7 LR7 CL7 FL7 LL7
   obtain ⟨CR8, FR8, LR8⟩ := KR8.cfl
   obtain ⟨CL8, FL8, LL8⟩ := KL8.cfl
   obtain ⟨CPk8, FPk8, LPk8⟩ := KPk8.cfl
   have qx5 := qx5 dC; clear rx5
   obtain ⟨x5, hx5⟩ : ∃ u : Int, w8.cell? ⟨w7.heap.size, x5i.toNat, none⟩ = some (.int .i64 u) := by
    rw [KPk8.cell]
    have : x5i.toNat < 4 := by omega
    exact pick_int [999999, 1000000, 1000001, 1001000] this
   clear CPk8
   go_wp2_with fail
   refine bodyPost_ret (by simp [results, Tryz.results65, go_sem, CR8, FR8, LR8, CL8, FL8, LL8, FPk8, LPk8, hx5]; try rfl) rfl ?_
   exact ⟨_, rfl, by exact updT, by exact curT, _, _, _, rfl⟩
  go_wp2_with fail
  refine bodyPost_ret (by simp [results, Tryz.results65, go_sem, CR7, FR7, LR7, CL7, FL7, LL7]; try rfl) rfl ?_
  exact ⟨_, rfl, by exact updT, by exact curT, _, _, _, rfl⟩
 go_wp2_with fail
 refine (l1Once_c (cU B) 8).mono ?_
 rintro e w6 ⟨_, rfl, X6, hc6, b3, rfl⟩
 have hz6 := X6.sz
 have E6 : Upd w w6 [g] := X6.up
 have KR6 := KR5.upv X6
 have KL6 := KL5.upv X6
 clear X6
 clear CR5 FR5 LR5 CL5 FL5 LL5
 obtain ⟨CR6, FR6, LR6⟩ := KR6.cfl
 obtain ⟨CL6, FL6, LL6⟩ := KL6.cfl
 cases b3
 rotate_left
 ·
  go_wp2_with fail
  refine (l1Below_c (cU B) 4).mono ?_
  rintro e w7 ⟨_, rfl, X7, hc7, x5i, rfl, px5, qx5, rx5⟩
  have hz7 := X7.sz
  have E7 : Upd w w7 [g] := X7.up
  have KR7 := KR6.upv X7
  have KL7 := KL6.upv X7
  have KPk7 : Blk w7 w6.heap.size 2 #[.int .i64 999999, .int .i64 1000000, .int .i64 1000001, .int .i64 1001000] := bU X7
  clear X7
  clear CR6 FR6 LR6 CL6 FL6 LL6
  obtain ⟨CR7, FR7, LR7⟩ := KR7.cfl
  obtain ⟨CL7, FL7, LL7⟩ := KL7.cfl
  obtain ⟨CPk7, FPk7, LPk7⟩ := KPk7.cfl
  have qx5 := qx5 dC; clear rx5
  obtain ⟨x5, hx5⟩ : ∃ u : Int, w7.cell? ⟨w6.heap.size, x5i.toNat, none⟩ = some (.int .i64 u) := by
   rw [KPk7.cell]
   have : x5i.toNat < 4 := by omega
   exact pick_int [999999, 1000000, 1000001, 1001000] this
  clear CPk7
  go_wp2_with fail
  refine bodyPost_ret (by simp [results, Tryz.results65, go_sem, CR7, FR7, LR7, CL7, FL7, LL7, FPk7, LPk7, hx5]; try rfl) rfl ?_
  exact ⟨_, rfl, by exact updT, by exact curT, _, _, _, rfl⟩
 go_wp2_with fail
 refine bodyPost_ret (by simp [results, Tryz.results65, go_sem, CR6, FR6, LR6, CL6, FL6, LL6]; try rfl) rfl ?_
 exact ⟨_, rfl, by exact updT, by exact curT, _, _, _, rfl⟩
theorem l1Num_c {B : Nat} {w : World} {g : Nat} (h : Cur B w g) (m : Int) (h0 : 0 ≤ m) (h1 : m ≤ 1152921504606846976) : Calls Tryz.prog 15 #[.pointer (some ⟨g, 0, none⟩), .int .i64 m] w (Dr B w g fun v w' => ∃ x : Int, v = .int .i64 x) := by
 have hc0 := h; have E0 : Upd w w [g] := Upd.refl _ _
 have hg0 := h.lt
 go_enter Tryz.func15, Tryz.ntmps15
 have e1 : IntKind.i64.wrap (m + 1) = m + 1 := by rw [IntKind.wrap_i64]; omega
 go_wp2_with fail
 refine (l1Once_c (cU B) 10).mono ?_
 rintro e w1 ⟨_, rfl, X1, hc1, b1, rfl⟩
 have hz1 := X1.sz
 have E1 : Upd w w1 [g] := X1.up
 clear X1
 cases b1
 rotate_left
 ·
  go_wp2_with fail
  refine (l1Odd_c (cU B)).mono ?_
  rintro e w2 ⟨_, rfl, X2, hc2, o1, rfl⟩
  have hz2 := X2.sz
  have E2 : Upd w w2 [g] := X2.up
  clear X2
  go_wp2_with fail
  refine (l1Below_c (cU B) 4).mono ?_
  rintro e w3 ⟨_, rfl, X3, hc3, x1i, rfl, px1, qx1, rx1⟩
  have hz3 := X3.sz
  have E3 : Upd w w3 [g] := X3.up
  have KPk3 : Blk w3 w2.heap.size 2 #[.int .i64 (-1), .int .i64 m, .int .i64 (m + 1), .int .i64 o1] := bU X3
  clear X3
  obtain ⟨CPk3, FPk3, LPk3⟩ := KPk3.cfl
  have qx1 := qx1 dC; clear rx1
  obtain ⟨x1, hx1⟩ : ∃ u : Int, w3.cell? ⟨w2.heap.size, x1i.toNat, none⟩ = some (.int .i64 u) := by
   rw [KPk3.cell]
   have : x1i.toNat < 4 := by omega
   exact pick_int [-1, m, (m + 1), o1] this
  clear CPk3
  go_wp2_with fail
  go_ret
  exact ⟨_, rfl, by exact updT, by exact curT, _, rfl⟩
 go_wp2_with fail
 refine (l1Once_c (cU B) 2).mono ?_
 rintro e w2 ⟨_, rfl, X2, hc2, b2, rfl⟩
 have hz2 := X2.sz
 have E2 : Upd w w2 [g] := X2.up
 clear X2
 cases b2
 rotate_left
 ·
  go_wp2_with fail
  refine (l1Min_c _ _).mono ?_
  rintro e9 w9 ⟨rfl, rfl⟩
  have e2 : IntKind.i64.wrap (min m 4 + 1) = min m 4 + 1 := by rw [IntKind.wrap_i64]; omega
  go_wp2_with fail
  refine (l1Below_c (cU B) _).mono ?_
  rintro e w3 ⟨_, rfl, X3, hc3, x2, rfl, px2, qx2, rx2⟩
  have hz3 := X3.sz
  have E3 : Upd w w3 [g] := X3.up
  clear X3
  go_wp2_with fail
  go_ret
  exact ⟨_, rfl, by exact updT, by exact curT, _, rfl⟩
 go_wp2_with fail
 refine (l1Below_c (cU B) _).mono ?_
 rintro e w3 ⟨_, rfl, X3, hc3, x2, rfl, px2, qx2, rx2⟩
 have hz3 := X3.sz
 have E3 : Upd w w3 [g] := X3.up
 clear X3
 go_wp2_with fail
 go_ret
 exact ⟨_, rfl, by exact updT, by exact curT, _, rfl⟩
end Go.Proofs.YtfhaooaajpopmaaGreat
namespace Go.G8
open Go.RowKit
open Go.Proofs.YtfhaooaajpopmaaGreat
def spos (out : List DDue) (x : Int) : Nat → Nat
 | 0 => 0
 | k + 1 => if x < (out[k]?.map DDue.Due).getD 0 then spos out x k else k + 1
def insD (out : List DDue) (d : DDue) : List DDue := out.take (spos out d.Due out.length) ++ d :: out.drop (spos out d.Due out.length)
def opens (l : List DJob) : List DDue := (l.filter (fun j => decide (j.Fired = 0))).map (fun j => ⟨j.Id, j.Due⟩)
noncomputable def openD (l : List DJob) : List DDue := if jobsOk l then (opens l).foldl insD [] else []
theorem spos_le (out : List DDue) (x : Int) : ∀ k, spos out x k ≤ k
 | 0 => Nat.le_refl _
 | k + 1 => by
  rw [spos]
  split
  ·
   exact Nat.le_trans (spos_le out x k) (Nat.le_succ k)
  exact Nat.le_refl _
theorem spos_down {out : List DDue} {x : Int} {k : Nat} {d : DDue} (h : out[k]? = some d) (hx : x < d.Due) : spos out x (k + 1) = spos out x k := by rw [spos, h]; simp [hx]
theorem spos_stop {out : List DDue} {x : Int} {k : Nat} {d : DDue} (h : out[k]? = some d) (hx : ¬ x < d.Due) : spos out x (k + 1) = k + 1 := by rw [spos, h]; simp [hx]
theorem insD_len (out : List DDue) (d : DDue) : (insD out d).length = out.length + 1 := by
 have := spos_le out d.Due out.length
 simp [insD]; omega
theorem fold_len (l : List DDue) : ∀ out : List DDue, (l.foldl insD out).length = out.length + l.length := by
 induction l with
 | nil => intro out; simp
 | cons d l ih => intro out; rw [List.foldl_cons, ih, insD_len, List.length_cons]; omega
theorem opens_len (l : List DJob) : (opens l).length ≤ l.length := by
 unfold opens; rw [List.length_map]; exact List.length_filter_le _ _
theorem openD_len (l : List DJob) : (openD l).length ≤ 8 := by
 unfold openD
 split
 ·
  rename_i h
  rw [fold_len]
  have := opens_len l; have := jobsOk_len h
  simp; omega
 simp
theorem opens_snoc (l : List DJob) (j : DJob) : opens (l ++ [j]) = opens l ++ (if j.Fired = 0 then [⟨j.Id, j.Due⟩] else []) := by
 unfold opens
 rw [List.filter_append, List.map_append]
 congr 1
 by_cases h : j.Fired = 0 <;> simp [h]
theorem openS_skip {l : List DJob} {k : Nat} {d : DJob} {out : List DDue} (hd : l[k]? = some d) (h : d.Fired ≠ 0) (ho : (opens (l.take k)).foldl insD [] = out) : (opens (l.take (k + 1))).foldl insD [] = out := by
 rw [take_snoc hd, opens_snoc, if_neg h, List.append_nil, ho]
theorem openS_next {l : List DJob} {k : Nat} {d : DJob} {out : List DDue} (hd : l[k]? = some d) (h : d.Fired = 0) (ho : (opens (l.take k)).foldl insD [] = out) : (opens (l.take (k + 1))).foldl insD [] = insD out ⟨d.Id, d.Due⟩ := by
 rw [take_snoc hd, opens_snoc, if_pos h, List.foldl_append, ho]; rfl
theorem dues_take (l : List DDue) (k : Nat) : (dues l).take (k * 2) = dues (l.take k) := by
 induction l generalizing k with
 | nil => simp [dues]
 | cons d l ih =>
  cases k with
  | zero => simp [dues]
  | succ k =>
   rw [show (k + 1) * 2 = k * 2 + 1 + 1 by omega]
   have := ih k
   simp only [dues, List.flatMap_cons, DDue.ints, List.cons_append, List.nil_append, List.take_succ_cons] at this ⊢
   rw [this]
theorem dues_drop (l : List DDue) (k : Nat) : (dues l).drop (k * 2) = dues (l.drop k) := by
 induction l generalizing k with
 | nil => simp [dues]
 | cons d l ih =>
  cases k with
  | zero => simp [dues]
  | succ k =>
   rw [show (k + 1) * 2 = k * 2 + 1 + 1 by omega]
   have := ih k
   simp only [dues, List.flatMap_cons, DDue.ints, List.cons_append, List.nil_append, List.drop_succ_cons] at this ⊢
   rw [this]
theorem Ints.takeN {n : Nat} {w : World} {a : Option Addr} {len cap : Nat} {xs : List Int} (h : Ints n w (.slice a len cap) xs) {m : Nat} (h2 : m ≤ len) : Ints n w (.slice a m cap) (xs.take (m * n)) := by
 obtain ⟨a', len', cap', e, hl, hlc, hcm, hnil, hc⟩ := h
 injection e with e1 e2 e3
 subst e1; subst e2; subst e3
 have h5 := Nat.mul_le_mul_right n h2
 refine ⟨_, _, _, rfl, by simp at hl ⊢; omega, by omega, hcm, hnil, fun b off sp h h0 => ?_⟩
 obtain ⟨h3, h4, h5⟩ := hc b off sp h oM
 refine ⟨h3, h4, fun i u hu => h5 i u ?_⟩
 rw [List.map_take, List.getElem?_take] at hu
 split at hu
 ·
  exact hu
 cases hu
theorem Ints.sl {n : Nat} {w : World} {v : Value} {xs : List Int} (h : Ints n w v xs) : Sl n w v (xs.map (.int .i64)) := h
theorem dues_append (a b : List DDue) : dues (a ++ b) = dues a ++ dues b := by simp [dues]
theorem jobsOk_fired {l : List DJob} {k : Nat} {d : DJob} (h : jobsOk l = true) (hd : l[k]? = some d) : 0 ≤ d.Fired := by
 have h1 := (jobsOk_srt h).2.2.1
 have := h1 d (List.mem_of_getElem? hd)
 simp only [jobOk, Bool.and_eq_true] at this
 exact (inb_true.1 this.2.2.2.2).1
end Go.G8
namespace Go.Proofs.YtfhaooaajpopmaaGreat
open Go.RowKit Go.G8
theorem sOpenJobs_k (w : World) (s : Value) (l : List DJob) (h : Ints 5 w s (flJob l)) : Calls Tryz.prog 59 #[s] w (Ret w fun r w' => OwnI w.heap.size 72 2 w' r (dues (openD l))) := by
 have HS := Lib.hid h
 obtain ⟨a0, k0, rfl, hcap, hm, ha⟩ := h.recs (f := DJob.ints) (fun _ => rfl) dC
 have HA := Lib.hid ha
 clear h ha
 unfold maxLen at hm
 obtain ⟨i0, hi, hy0, hy1, hy2⟩ := info_parts info_Due
 go_enter Tryz.func59, Tryz.ntmps59
 go_wp2_with fail
 refine (sJobsOk_c _ _ l (HS.out.ext xT)).mono ?_
 rintro e9 w1 ⟨rfl, hx1⟩
 have E1 : Ext w w1 := Ext.trans xT hx1
 have O1 : OwnI w.heap.size 72 2 w1 (.slice (some ⟨w.heap.size, 0, none⟩) 0 0) (dues []) := Own.ext (OwnI.lit0 w _ _) hx1
 clear hx1
 cases hp : jobsOk l
 ·
  have HE := Lib.hid (show openD l = [] from by simp [openD, hp])
  go_wp2_with fail
  go_ret
  exact ⟨_, rfl, E1, by rw [HE.out]; exact O1⟩
 have HE := Lib.hid (show openD l = (opens l).foldl insD [] from by simp [openD, hp])
 have HP := Lib.hid hp
 have hl8 := jobsOk_len hp
 clear hp
 go_wp2_with fail
 go_loopw [3, 4] (fun out kk wr => ∃ (k : Nat) (o : List DDue), k ≤ l.length ∧ kk = .int .i64 k ∧ o.length ≤ k ∧ Ext w wr ∧ OwnI w.heap.size 72 2 wr out (dues o) ∧ Hid ((opens (l.take k)).foldl insD [] = o)) (fun _ kk _ => l.length - (intOf kk).toNat)
 case atStart => exact ⟨0, [], Nat.zero_le _, rfl, Nat.le_refl _, E1, O1, Lib.hid rfl⟩
 case round =>
  clear E1 O1
  obtain ⟨k, o, hk, rfl, hol, E1, O1, HO⟩ := hrel
  obtain ⟨wo, hwo⟩ : ∃ wo, wo = wr := ⟨_, rfl⟩
  subst hwo
  have hzo := E1.size
  obtain ⟨aq, cq, rfl, hcq, hmq, hrec⟩ := O1.ints.recs (f := DDue.ints) (fun _ => rfl) dC
  unfold maxLen at hmq
  have HR := Lib.hid hrec
  clear hrec
  by_cases hlt : k < l.length
  rotate_left
  ·
   obtain rfl : k = l.length := by omega
   have hoo := HO.out
   rw [List.take_length] at hoo
   have HOO := Lib.hid hoo
   clear hoo
   go_wp2_with fail
   go_ret
   exact ⟨_, rfl, E1, by rw [HE.out, HOO.out]; exact O1⟩
  have hkI : (k : Int) < (l.length : Int) := by omega
  obtain ⟨d, b1, o1, hd, rfl, hb1, c⟩ := HA.out k hlt
  have d0 := E1.cell (c 0 _ dC rfl)
  have d1 := E1.cell (c 1 _ dC rfl)
  have d4 := E1.cell (c 4 _ dC rfl)
  simp only [Nat.add_zero] at d0
  have hf0 := jobsOk_fired HP.out hd
  have HD := Lib.hid hd
  clear c hd
  by_cases hfz : d.Fired = 0
  rotate_left
  ·
   have hfp : decide (0 < d.Fired) = true := by simp; omega
   have HN := Lib.hid (openS_skip HD.out hfz HO.out)
   go_wp2_with fail
   go_roundw
   case rel => exact ⟨k + 1, o, by omega, by go_num, by omega, E1, O1, HN⟩
   case measure => simp [intOf]; omega
  have hfp : decide (0 < d.Fired) = false := by simp; omega
  have HN := Lib.hid (openS_next HD.out hfz HO.out)
  clear hfz
  go_wp2_with fail
  go_loopw [5] (fun jj wr => Ext wo wr ∧ ∃ j : Nat, j ≤ o.length ∧ jj = .int .i64 j ∧ Hid (spos o d.Due o.length = spos o d.Due j)) (fun jj _ => (intOf jj).toNat)
  case atStart => exact ⟨Ext.refl _, o.length, Nat.le_refl _, rfl, Lib.hid rfl⟩
  case round =>
   obtain ⟨hX, j, hj, rfl, HJ⟩ := hrel
   have E1 := E1.trans hX
   have O1 := OwnI.ext1 O1 hX
   have d0 := hX.cell d0; have d1 := hX.cell d1; have d4 := hX.cell d4
   have hzo := E1.size
   obtain ⟨aq9, cq9, hsq, _, _, hrec⟩ := O1.ints.recs (f := DDue.ints) (fun _ => rfl) dC
   injection hsq with hs1 hs2 hs3; subst hs1; subst hs3
   have HR := Lib.hid hrec
   clear hrec hs2
   have hsp := spos_le o d.Due j
   rcases Nat.eq_zero_or_pos j with h0 | h0
   ·
    subst h0
    have HP0 := Lib.hid (show spos o d.Due o.length = 0 from HJ.out)
    clear HJ
    go_wp2_with fail
    go_quiet (fail)
    have SL : Sl 2 wr (.slice aq 0 cq) ((dues (o.take 0)).map (.int .i64)) := by
     rw [← dues_take]
     exact Ints.takeN O1.ints oM
    go_wp2_with (first | (at_builtin; go_loud (refine wp_append_fresh rfl _ _ 24 rfl 72 i0 _ 2 16 Tryz.underlying24 hi hy0 hy1 hy2 rfl dC wr.heap.size (by first | rfl | simp) rfl _ ((dues (o.take 0)).map (.int .i64)) rfl (SL.ext xT) (ints_oneCell _ _) 1000 (by simp only [List.length_map, length_dues, List.length_take]; omega) (by unfold maxLen; omega) oM ?_; rotate_right; intro vm w5 Om hx5)))
    have X5 : Ext wr w5 := Ext.trans ((Ext.refl wr).drewN _) hx5
    have hz5 := X5.size
    clear hx5
    obtain ⟨am, nm, cm, rfl⟩ := OwnI.shape (xs := dues (o.take 0)) Om
    have c0 := X5.cell d0; have c1 := X5.cell d1
    have OM : OwnI wr.heap.size 72 2 w5 (.slice am nm cm) (dues (o.take 0)) := Om
    clear Om SL
    go_wp2_with fail
    go_region_held3 (fun w' => w'.cell? ⟨b1, o1 + k * 5, none⟩ = some (.int .i64 d.Id) ∧ w'.cell? ⟨b1, o1 + k * 5 + 1, none⟩ = some (.int .i64 d.Due)) (first | (refine ⟨Ext.cell (w := wr) ?_ d0, Ext.cell (w := wr) ?_ d1⟩ <;> (exact xT); done)) (first | (refine step_append_own rfl (.tmp 49) (.tmp 61) 24 rfl 72 i0 _ 2 16 Tryz.underlying24 hi hy0 hy1 hy2 rfl dC wr.heap.size (.slice am nm cm) _ rfl (Own.ext OM xT) ⟨w5.heap.size, 0, none⟩ 1 1 ([d.Id, d.Due].map (.int .i64)) rfl (by simp) (fun j u hu => by rw [add_lit0, Nat.zero_add, ((Blk.new w5 _ _).drew).cell]; simpa using hu) (ints_oneCell _ _) oM 1000 (by simp only [List.length_map, length_dues, List.length_take, List.length_cons, List.length_nil]; omega) (by unfold maxLen; omega) oM (by simp; omega) ?_; intro v6 w6 On hg6; have X6 : Ext wr w6 := Ext.own (v := .slice am nm cm) (X5.trans xT) (Own.ext OM xT) (Nat.le_refl _) hg6))
    all_goals
     obtain ⟨a6, n6, c6, rfl⟩ := Sl.shape (Own.sl On)
     have O6 : OwnI wr.heap.size 72 2 w6 (.slice a6 n6 c6) (dues (o.take 0 ++ [DDue.mk d.Id d.Due])) := by
      rw [dues_append]
      simpa [OwnI, dues, DDue.ints] using On
     clear On hg6
     have hz6 := X6.size
     have SL2 : Sl 2 wr (.slice aq o.length cq) ((dues (o.drop 0)).map (.int .i64)) := O1.ints.sl
     go_wp2_with (first | (at_builtin; go_loud (refine wp_append rfl _ _ 24 rfl 72 i0 _ 2 16 Tryz.underlying24 hi hy0 hy1 hy2 rfl dC wr.heap.size _ _ rfl O6 _ ((dues (o.drop 0)).map (.int .i64)) rfl (SL2.ext X6) (ints_oneCell _ _) 1000 (by simp only [List.length_map, length_dues, List.length_take, List.length_drop, List.length_append, List.length_cons, List.length_nil]; omega) (by unfold maxLen; omega) oM oM wr X6 (Nat.le_refl _) ?_; rotate_right; intro v7 w7 On7 X7 _)))
     have O7 : OwnI wr.heap.size 72 2 w7 v7 (dues (insD o ⟨d.Id, d.Due⟩)) := by
      have e : insD o ⟨d.Id, d.Due⟩ = o.take 0 ++ [DDue.mk d.Id d.Due] ++ o.drop 0 := by unfold insD; rw [HP0.out]; simp
      rw [e, dues_append _ (o.drop 0)]
      simpa [OwnI] using On7
     have hl7 := insD_len o ⟨d.Id, d.Due⟩
     go_roundw
     case rel => exact ⟨k + 1, _, by omega, by go_num, by omega, E1.trans X7, O7.mono oM, HN⟩
     case measure => simp [intOf]; omega
   obtain ⟨i, hji⟩ : ∃ i, j = i + 1 := ⟨j - 1, by omega⟩
   obtain ⟨d2, b2, o2, hd2, rfl, hb2, c2⟩ := HR.out i oM
   have e1 := c2 1 _ dC rfl
   have HD2 := Lib.hid hd2
   have hj0 : decide (0 < (j : Int)) = true := by simp; omega
   have hj1 : decide (0 < j) = true := by simp; omega
   have hjw : IntKind.i64.wrap (i : Int) = (i : Int) := by rw [IntKind.wrap_i64]; omega
   have hji2 : (j : Int) - 1 = (i : Int) := by omega
   have hil : (i : Int) < (o.length : Int) := by omega
   have HJI := Lib.hid hji
   clear c2 hd2 hji
   by_cases hx : d.Due < d2.Due
   ·
    have hxd : decide (d.Due < d2.Due) = true := by simp; omega
    have HJ2 := Lib.hid (show spos o d.Due o.length = spos o d.Due i by rw [HJ.out, HJI.out]; exact spos_down HD2.out hx)
    clear hx HJ
    go_wp2_with fail
    go_quiet (fail)
    go_wp2_with fail
    exact ⟨⟨xT, i, by omega, rfl, HJ2⟩, by simp [intOf]; have := HJI.out; omega⟩
   have hxd : decide (d.Due < d2.Due) = false := by simp; omega
   have HP0 := Lib.hid (show spos o d.Due o.length = j by rw [HJ.out, HJI.out]; exact spos_stop HD2.out hx)
   clear hx HJ
   go_wp2_with fail
   go_quiet (fail)
   have SL : Sl 2 wr (.slice (some ⟨b2, o2, none⟩) j cq) ((dues (o.take j)).map (.int .i64)) := by
    rw [← dues_take]
    exact Ints.takeN O1.ints oM
   go_wp2_with (first | (at_builtin; go_loud (refine wp_append_fresh rfl _ _ 24 rfl 72 i0 _ 2 16 Tryz.underlying24 hi hy0 hy1 hy2 rfl dC wr.heap.size (by first | rfl | simp) rfl _ ((dues (o.take j)).map (.int .i64)) rfl (SL.ext xT) (ints_oneCell _ _) 1000 (by simp only [List.length_map, length_dues, List.length_take]; omega) (by unfold maxLen; omega) oM ?_; rotate_right; intro vm w5 Om hx5)))
   have X5 : Ext wr w5 := Ext.trans ((Ext.refl wr).drewN _) hx5
   have hz5 := X5.size
   clear hx5
   obtain ⟨am, nm, cm, rfl⟩ := OwnI.shape (xs := dues (o.take j)) Om
   have c0 := X5.cell d0; have c1 := X5.cell d1
   have OM : OwnI wr.heap.size 72 2 w5 (.slice am nm cm) (dues (o.take j)) := Om
   clear Om SL
   go_wp2_with fail
   go_region_held3 (fun w' => w'.cell? ⟨b1, o1 + k * 5, none⟩ = some (.int .i64 d.Id) ∧ w'.cell? ⟨b1, o1 + k * 5 + 1, none⟩ = some (.int .i64 d.Due)) (first | (refine ⟨Ext.cell (w := wr) ?_ d0, Ext.cell (w := wr) ?_ d1⟩ <;> (exact xT); done)) (first | (refine step_append_own rfl (.tmp 49) (.tmp 61) 24 rfl 72 i0 _ 2 16 Tryz.underlying24 hi hy0 hy1 hy2 rfl dC wr.heap.size (.slice am nm cm) _ rfl (Own.ext OM xT) ⟨w5.heap.size, 0, none⟩ 1 1 ([d.Id, d.Due].map (.int .i64)) rfl (by simp) (fun j u hu => by rw [add_lit0, Nat.zero_add, ((Blk.new w5 _ _).drew).cell]; simpa using hu) (ints_oneCell _ _) oM 1000 (by simp only [List.length_map, length_dues, List.length_take, List.length_cons, List.length_nil]; omega) (by unfold maxLen; omega) oM (by simp; omega) ?_; intro v6 w6 On hg6; have X6 : Ext wr w6 := Ext.own (v := .slice am nm cm) (X5.trans xT) (Own.ext OM xT) (Nat.le_refl _) hg6))
   all_goals
    obtain ⟨a6, n6, c6, rfl⟩ := Sl.shape (Own.sl On)
    have O6 : OwnI wr.heap.size 72 2 w6 (.slice a6 n6 c6) (dues (o.take j ++ [DDue.mk d.Id d.Due])) := by
     rw [dues_append]
     simpa [OwnI, dues, DDue.ints] using On
    clear On hg6
    have hz6 := X6.size
    by_cases hcj : cq = j
    ·
     have SLz : ∀ m c, m = 0 → c ≤ maxLen → Sl 2 wr (.slice (some ⟨b2, o2, none⟩) m c) ((dues (o.drop j)).map (.int .i64)) := by
      intro m c h1 h2
      have h3 : o.drop j = [] := List.drop_eq_nil_of_le oM
      rw [h3]
      exact ⟨_, m, c, rfl, by simp [h1, dues], by omega, h2, (fun h => by cases h), fun _ _ _ _ h => by omega⟩
     have hoj : o.length - j = 0 := by omega
     have hoj2 : o.length = j := by omega
     subst hcj
     go_wp2_with (first | (at_builtin; go_loud (refine wp_append rfl _ _ 24 rfl 72 i0 _ 2 16 Tryz.underlying24 hi hy0 hy1 hy2 rfl dC wr.heap.size _ _ rfl O6 _ ((dues (o.drop cq)).map (.int .i64)) rfl ((SLz _ _ oM (by unfold maxLen; omega)).ext X6) (ints_oneCell _ _) 1000 (by simp only [List.length_map, length_dues, List.length_take, List.length_drop, List.length_append, List.length_cons, List.length_nil]; omega) (by unfold maxLen; omega) oM oM wr X6 (Nat.le_refl _) ?_; rotate_right; intro v7 w7 On7 X7 _)))
     have O7 : OwnI wr.heap.size 72 2 w7 v7 (dues (insD o ⟨d.Id, d.Due⟩)) := by
      have e : insD o ⟨d.Id, d.Due⟩ = o.take cq ++ [DDue.mk d.Id d.Due] ++ o.drop cq := by unfold insD; rw [HP0.out]; simp
      rw [e, dues_append _ (o.drop cq)]
      simpa [OwnI] using On7
     have hl7 := insD_len o ⟨d.Id, d.Due⟩
     go_roundw
     case rel => exact ⟨k + 1, _, by omega, by go_num, by omega, E1.trans X7, O7.mono oM, HN⟩
     case measure => simp [intOf]; omega
    have SL2 : Sl 2 wr (.slice (some ((⟨b2, o2, none⟩ : Addr).add (j * 2))) (o.length - j) (cq - j)) ((dues (o.drop j)).map (.int .i64)) := by
     have h1 := Sl.sliced O1.ints.sl (l := j) (m := o.length) oM (Nat.le_refl _)
     have h2 : ((dues o).map (Value.int .i64)).take (o.length * 2) = (dues o).map (.int .i64) := List.take_of_length_le (by simp [length_dues])
     rw [h2, ← List.map_drop, dues_drop, Go.sliced, if_neg hcj] at h1
     exact h1
    (try simp only [add_lit0] at SL2)
    go_wp2_with (first | (at_builtin; go_loud (refine wp_append rfl _ _ 24 rfl 72 i0 _ 2 16 Tryz.underlying24 hi hy0 hy1 hy2 rfl dC wr.heap.size _ _ rfl O6 _ ((dues (o.drop j)).map (.int .i64)) rfl (SL2.ext X6) (ints_oneCell _ _) 1000 (by simp only [List.length_map, length_dues, List.length_take, List.length_drop, List.length_append, List.length_cons, List.length_nil]; omega) (by unfold maxLen; omega) oM oM wr X6 (Nat.le_refl _) ?_; rotate_right; intro v7 w7 On7 X7 _)))
    have O7 : OwnI wr.heap.size 72 2 w7 v7 (dues (insD o ⟨d.Id, d.Due⟩)) := by
     have e : insD o ⟨d.Id, d.Due⟩ = o.take j ++ [DDue.mk d.Id d.Due] ++ o.drop j := by unfold insD; rw [HP0.out]; simp
     rw [e, dues_append _ (o.drop j)]
     simpa [OwnI] using On7
    have hl7 := insD_len o ⟨d.Id, d.Due⟩
    go_roundw
    case rel => exact ⟨k + 1, _, by omega, by go_num, by omega, E1.trans X7, O7.mono oM, HN⟩
    case measure => simp [intOf]; omega
theorem info_Entry : (Tryz.prog.info? 95).map (fun i => (i.zero, i.size, i.bytes)) = some (some (.agg #[.int .i64 0, .int .i64 0, .int .i64 0, .int .i64 0, .int .i64 0, .int .i64 0, .int .i64 0, .int .i64 0, .int .i64 0]), 9, 72) := by kernel_rfl
end Go.Proofs.YtfhaooaajpopmaaGreat
