/- Contracts and plain laws: HelpM KM Num3 SN0 SN1. -/
import Derived.Test.YtcnioiieiebodaaGreatMa
import Derived.Test.YtcnioiieiebodaaGreatMb
import Derived.Test.YtcnioiieiebodaaGreatMe
import Derived.Test.YtcnioiieiebodaaGreatMf
import Derived.Test.YtcnioiieiebodaaGreatMx
import Derived.Test.YtcnioiieiebodaaGreatMj
import Derived.Test.YtcnioiieiebodaaGreatMo
import Derived.Test.YtcnioiieiebodaaGreatNd
set_option linter.unusedSimpArgs false
set_option linter.unusedVariables false
-- Lists of messages: the helpers.
namespace Go.Proofs.YtcnioiieiebodaaGreat
open Go.RowKit Go.G8


end Go.Proofs.YtcnioiieiebodaaGreat

-- Lists of messages as one thing.
set_option linter.unusedSimpArgs false
set_option linter.unusedVariables false
namespace Go.Proofs.YtcnioiieiebodaaGreat
open Go.RowKit Go.G8

end Go.Proofs.YtcnioiieiebodaaGreat
namespace Go.G8
open Go.RowKit
theorem OwnNs.lit1 {B B2 : Nat} {w : World} {e e1 : TypeId} {n : Nat} {r : NRow} {t : Value} (hr : r.1.length = n) (ht : OwnI B2 e1 1 w t r.2) (hB : B ≤ B2) (hw : B ≤ w.heap.size) (cs : Array Value) (hcs : cs = (ncell (r, t)).toArray) : OwnNs B e e1 n (w.alloc (.cells cs e)) (.slice (some ⟨w.heap.size, 0, none⟩) 1 1) [r] [t] := by
 subst hcs
 have hcl : (ncell (r, t)).length = n + 1 := by simp [ncell, hr]
 have hnc : ncells [r] [t] = ncell (r, t) := by simp [ncells]
 have hlt : ∀ k, k ∈ feet [t] → k < w.heap.size := by
  intro k hk
  simp only [feet, List.mem_filterMap, List.mem_singleton, exists_eq_left] at hk
  exact (Own.lt ht hk).2
 refine ⟨by intro x hx; simp at hx; subst hx; exact hr, rfl, ?_, ?_⟩
 ·
  rw [hnc]
  refine Own.of_blk (cap := 1) (Blk.new w _ _) hw (by simp [hcl]) (by simp [hcl]) (Nat.le_refl _) (by decide) ?_
  intro j hj
  simp
 ·
  refine ⟨fun i s q h1 h2 => ?_, fun i j s u k h1 h2 h3 => ?_, fun i s k h1 h2 h3 => ?_⟩
  ·
   cases i with
   | zero => simp at h1 h2; subst h1; subst h2; exact (Own.ext ht ((Ext.refl _).alloc _)).mono hB
   | succ i => simp at h1
  ·
   cases j with
   | zero => omega
   | succ j => simp at h3
  ·
   cases i with
   | zero =>
    simp at h1; subst h1
    have := hlt k h2
    simp [feet, Value.ownBlock] at h3
    omega
   | succ i => simp at h1
theorem OwnNs.lit0 (w : World) (e e1 : TypeId) (n : Nat) : OwnNs w.heap.size e e1 n (w.alloc (.cells #[] e)) (.slice (some ⟨w.heap.size, 0, none⟩) 0 0) [] [] :=
 ⟨by intro x hx; simp at hx, rfl, Own.of_blk (cap := 0) (Blk.new w e #[]) (Nat.le_refl _) (by simp) (by simp [ncells]) (Nat.le_refl _) (by decide) (by simpa using Pre.zero _ _), fun i s r h1 h2 => by simp at h1, fun i j s t k h1 h2 h3 => by simp at h3, fun i s k h1 => by simp at h1⟩
end Go.G8
namespace Go.Proofs.YtcnioiieiebodaaGreat
open Go.RowKit Go.G8
def RdMsgs (w : World) (v : Value) (l : List NRow) : Prop := Nest 2 w v l
def OwMsgs (B : Nat) (w : World) (v : Value) (l : List NRow) (F : List Nat) : Prop := ∃ ss : List Value, OwnNs B 96 2 2 w v l ss ∧ F = feet (v :: ss)
def numMsgs (l : List NRow) : Nat := tot 2 l
def MkMsgs (B : Nat) (w : World) (v : Value) (l : List NRow) (F : List Nat) (q : Int) : Prop := ∃ ss : List Value, OwnNs B 96 2 2 w v (marks 2 q l) ss ∧ F = feet (v :: ss)
section
variable {B B' : Nat} {w w' : World} {v : Value} {l : List NRow} {F : List Nat} {q : Int}
theorem RdMsgs.shape (h : RdMsgs w v l) : ∃ a n k, v = .slice a n k := Nest.shape h
theorem RdMsgs.ext (h : RdMsgs w v l) (x : Ext w w') : RdMsgs w' v l := Nest.ext h x
theorem OwMsgs.of (h : OwnNest B 96 2 2 w v l) : ∃ F, OwMsgs B w v l F := let ⟨ss, h⟩ := h; ⟨_, ss, h, rfl⟩
theorem OwMsgs.rd (h : OwMsgs B w v l F) : RdMsgs w v l := let ⟨_, h, _⟩ := h; h.nest
theorem OwMsgs.ext (h : OwMsgs B w v l F) (x : Ext w w') : OwMsgs B w' v l F := let ⟨s, h, e⟩ := h; ⟨s, h.ext x, e⟩
theorem OwMsgs.keep (h : OwMsgs B w v l F) (x : Chg B w w') : OwMsgs B w' v l F := let ⟨s, h, e⟩ := h; ⟨s, h.keep x, e⟩
theorem OwMsgs.mono (h : OwMsgs B w v l F) (x : B' ≤ B) : OwMsgs B' w v l F := let ⟨s, h, e⟩ := h; ⟨s, h.mono x, e⟩
theorem OwMsgs.upd (h : OwMsgs B w v l F) {fs : List Nat} (x : Upd w w' fs) (hn : ∀ k, k ∈ F → k ∈ fs → False) : OwMsgs B w' v l F := by
 obtain ⟨s, h, rfl⟩ := h
 exact ⟨s, h.upd x hn, rfl⟩
theorem OwMsgs.low (h : OwMsgs B w v l F) : ∀ k, k ∈ F → B ≤ k ∧ k < w.heap.size := by
 obtain ⟨s, h, rfl⟩ := h
 exact h.foot
theorem MkMsgs.ext (h : MkMsgs B w v l F q) (x : Ext w w') : MkMsgs B w' v l F q := let ⟨s, h, e⟩ := h; ⟨s, h.ext x, e⟩
end

end Go.Proofs.YtcnioiieiebodaaGreat

-- The reference's numbers of states.
set_option linter.unusedSimpArgs false
set_option linter.unusedVariables false
namespace Go.Proofs.YtcnioiieiebodaaGreat
open Go.RowKit Go.G8

theorem OwnI.lit (w : World) (e : TypeId) (xs : List Int) (h : xs.length ≤ 1000) : OwnI w.heap.size e 1 (w.alloc (.cells (xs.map (Value.int .i64)).toArray e)) (.slice (some ⟨w.heap.size, 0, none⟩) xs.length xs.length) xs := by
 refine Own.of_blk (cap := xs.length) (Blk.new w _ _) (Nat.le_refl _) (by simp) (by simp) (Nat.le_refl _) (by unfold maxLen; omega) ?_
 intro j hj
 simp
set_option maxHeartbeats 1600000 in
set_option maxRecDepth 100000 in
theorem sLeaseRow_c (w : World) (a b c : Int) (hok : leaseOk ⟨a, b, c⟩ = true) : Calls Tryz.prog 242 #[.agg #[.int .i64 a, .int .i64 b, .int .i64 c]] w (Ret w fun r w' => OwnI w.heap.size 2 1 w' r [a, b, c]) := by
 have HOK := Lib.hid hok
 clear hok
 have hE0 : Ext w (w.alloc (.cells #[.int .i64 a, .int .i64 b, .int .i64 c] 61)) := (Ext.refl _).alloc _
 go_enter Tryz.func242, Tryz.ntmps242
 go_wp2_with fail
 refine (sLeaseOk_c _ a b c).mono ?_
 rintro e w1 ⟨rfl, hx1⟩
 rw [HOK.out]
 have KP1 := (Blk.new w 61 #[.int .i64 a, .int .i64 b, .int .i64 c]).ext hx1
 have CP1 := KP1.cell
 have hz1 := hx1.size
 simp only [World.size_alloc] at hz1
 have hp1 : w.heap.size < w1.heap.size := by omega
 go_wp2_with fail
 go_ret
 exact ⟨_, rfl, (hE0.trans hx1).alloc _, OwnI.mono (OwnI.lit w1 2 [a, b, c] (by simp)) (by omega)⟩
set_option maxHeartbeats 4000000 in
set_option maxRecDepth 100000 in
theorem sStateNumbers_c (w : World) (s : DState) (s2 s3 : Value) (h2 : Ints 2 w s2 (flPair s.Pairs)) (h3 : Ints 5 w s3 (flJob s.Jobs)) :
  Calls Tryz.prog 226 #[.agg #[.int .i64 s.Index, .int .i64 s.Time, s2, s3, .int .i64 s.Lease.Holder, .int .i64 s.Lease.Epoch, .int .i64 s.Lease.Until]] w (Ret w fun r w' => OwnI w.heap.size 2 1 w' r (stateNumbers s)) := by
 obtain ⟨a2, n2, k2, rfl⟩ := h2.shape
 obtain ⟨a3, n3, k3, rfl⟩ := h3.shape
 obtain ⟨i0, hi, hz0, hz1, hz2⟩ := info_parts info_Int64
 have hE0 : Ext w (w.alloc (.cells #[.int .i64 s.Index, .int .i64 s.Time, .slice a2 n2 k2, .slice a3 n3 k3, .int .i64 s.Lease.Holder, .int .i64 s.Lease.Epoch, .int .i64 s.Lease.Until] 63)) := (Ext.refl _).alloc _
 go_enter Tryz.func226, Tryz.ntmps226
 go_wp2_with fail
 refine (sStateOk_c _ s.Index s.Time _ s.Pairs _ s.Jobs s.Lease.Holder s.Lease.Epoch s.Lease.Until (h2.ext hE0) (h3.ext hE0)).mono ?_
 rintro e w1 ⟨rfl, hx1⟩
 have KP1 := (Blk.new w 63 #[.int .i64 s.Index, .int .i64 s.Time, .slice a2 n2 k2, .slice a3 n3 k3, .int .i64 s.Lease.Holder, .int .i64 s.Lease.Epoch, .int .i64 s.Lease.Until]).ext hx1
 have CP1 := KP1.cell
 have hE1 : Ext w w1 := hE0.trans hx1
 have hzz := hx1.size
 simp only [World.size_alloc] at hzz
 have hp1 : w.heap.size < w1.heap.size := by omega
 clear hx1
 cases hb : stateOk s
 ·
  go_wp2_with fail
  go_ret
  exact ⟨_, rfl, hE1.alloc _, by rw [show stateNumbers s = [] by simp [stateNumbers, hb]]; exact OwnI.mono (show OwnI w1.heap.size 2 1 _ _ [] from Own.fresh w1 2 1) (by omega)⟩
 obtain ⟨hl1, hl2⟩ := stateOk_lens hb
 have hpk : pairsOk s.Pairs = true ∧ jobsOk s.Jobs = true ∧ leaseOk s.Lease = true := by
  simp only [stateOk, Bool.and_eq_true] at hb
  exact ⟨hb.2.2.1, hb.2.2.2.1, hb.2.2.2.2.1⟩
 have HPK := Lib.hid hpk
 have HBB := Lib.hid hb
 clear hb hpk
 have O0 := OwnI.lit w1 2 [s.Index, s.Time] (by simp)
 go_wp2_with fail
 refine (sPairsRow_c _ _ s.Pairs (h2.ext (hE1.alloc _)) HPK.out.1 (by omega)).mono ?_
 rintro e w2 ⟨_, rfl, hx2, o2⟩
 obtain ⟨b2, m2, c2, rfl⟩ := o2.shape
 have E2 : Ext w1 w2 := Ext.trans ((Ext.refl w1).alloc _) hx2
 have O2 := OwnI.ext O0 hx2
 have KP2 := KP1.ext E2; have CP2 := KP2.cell; have hp2 : w.heap.size < w2.heap.size := by (have := E2.size; omega)
 clear O0 CP1
 go_wp2_with (first | (at_builtin; refine wp_append rfl (.tmp 13) (.tmp 16) 79 rfl 2 i0 _ 1 8 Tryz.underlying79 hi hz0 hz1 hz2 rfl (by decide) w1.heap.size _ (([s.Index, s.Time]).map (.int .i64)) rfl O2 _ (((s.Pairs.length : Int) :: flPair s.Pairs).map (.int .i64)) rfl o2.ints (ints_oneCell _ _) 1000000 (by simp [length_flPair, length_flJob]; omega) (by unfold maxLen; omega) (by omega) (by have := E2.size; omega) w1 E2 (Nat.le_refl _) ?_; rotate_right; intro v3 w3 O3 E3 _; have O3 : OwnI w1.heap.size 2 1 w3 v3 ([s.Index, s.Time] ++ ((s.Pairs.length : Int) :: flPair s.Pairs)) := (by simpa [OwnI] using O3); obtain ⟨b3, m3, c3, rfl⟩ := O3.shape; have KP3 := KP1.ext E3; have CP3 := KP3.cell; have hp3 : w.heap.size < w3.heap.size := by (have := E3.size; omega)))
 clear CP2 O2 o2
 go_wp2_with fail
 refine (sOrdersRow_c _ _ s.Jobs (h3.ext (hE1.trans E3)) HPK.out.2.1 (by omega)).mono ?_
 rintro e w4 ⟨_, rfl, hx4, o4⟩
 obtain ⟨b4, m4, c4, rfl⟩ := o4.shape
 have E4 : Ext w1 w4 := E3.trans hx4
 have O4 := OwnI.ext O3 hx4
 have KP4 := KP1.ext E4; have CP4 := KP4.cell; have hp4 : w.heap.size < w4.heap.size := by (have := E4.size; omega)
 clear CP3 O3
 go_wp2_with (first | (at_builtin; refine wp_append rfl (.tmp 18) (.tmp 21) 79 rfl 2 i0 _ 1 8 Tryz.underlying79 hi hz0 hz1 hz2 rfl (by decide) w1.heap.size _ (([s.Index, s.Time] ++ ((s.Pairs.length : Int) :: flPair s.Pairs)).map (.int .i64)) rfl O4 _ (((s.Jobs.length : Int) :: flJob s.Jobs).map (.int .i64)) rfl o4.ints (ints_oneCell _ _) 1000000 (by simp [length_flPair, length_flJob]; omega) (by unfold maxLen; omega) (by omega) (by have := E4.size; omega) w1 E4 (Nat.le_refl _) ?_; rotate_right; intro v5 w5 O5 E5 _; have O5 : OwnI w1.heap.size 2 1 w5 v5 ([s.Index, s.Time] ++ ((s.Pairs.length : Int) :: flPair s.Pairs) ++ ((s.Jobs.length : Int) :: flJob s.Jobs)) := (by simpa [OwnI] using O5); obtain ⟨b5, m5, c5, rfl⟩ := O5.shape; have KP5 := KP1.ext E5; have CP5 := KP5.cell; have hp5 : w.heap.size < w5.heap.size := by (have := E5.size; omega)))
 clear CP4 O4 o4
 go_wp2_with fail
 refine (sLeaseRow_c _ s.Lease.Holder s.Lease.Epoch s.Lease.Until HPK.out.2.2).mono ?_
 rintro e w6 ⟨_, rfl, hx6, o6⟩
 obtain ⟨b6, m6, c6, rfl⟩ := o6.shape
 have E6 : Ext w1 w6 := E5.trans hx6
 have O6 := OwnI.ext O5 hx6
 have KP6 := KP1.ext E6; have CP6 := KP6.cell; have hp6 : w.heap.size < w6.heap.size := by (have := E6.size; omega)
 clear CP5 O5
 go_wp2_with (first | (at_builtin; refine wp_append rfl (.tmp 23) (.tmp 26) 79 rfl 2 i0 _ 1 8 Tryz.underlying79 hi hz0 hz1 hz2 rfl (by decide) w1.heap.size _ (([s.Index, s.Time] ++ ((s.Pairs.length : Int) :: flPair s.Pairs) ++ ((s.Jobs.length : Int) :: flJob s.Jobs)).map (.int .i64)) rfl O6 _ (([s.Lease.Holder, s.Lease.Epoch, s.Lease.Until]).map (.int .i64)) rfl o6.ints (ints_oneCell _ _) 1000000 (by simp [length_flPair, length_flJob]; omega) (by unfold maxLen; omega) (by omega) (by have := E6.size; omega) w1 E6 (Nat.le_refl _) ?_; rotate_right; intro v7 w7 O7 E7 _))
 have O7 : OwnI w1.heap.size 2 1 w7 v7 ([s.Index, s.Time] ++ ((s.Pairs.length : Int) :: flPair s.Pairs) ++ ((s.Jobs.length : Int) :: flJob s.Jobs) ++ [s.Lease.Holder, s.Lease.Epoch, s.Lease.Until]) := by simpa [OwnI] using O7
 go_ret
 refine ⟨_, rfl, hE1.trans E7, ?_⟩
 rw [show stateNumbers s = stateNums s by simp [stateNumbers, HBB.out]]
 exact OwnI.mono O7 (by omega)

end Go.Proofs.YtcnioiieiebodaaGreat

-- Rows of polls and of asks.
set_option linter.unusedSimpArgs false
set_option linter.unusedVariables false
namespace Go.Proofs.YtcnioiieiebodaaGreat
open Go.RowKit Go.G8

def pollL (id : Int) : List Int := [8, id]
def askL (a : DAsk) : List Int := [1, a.Client, a.Seq, a.Op.Kind, a.Op.A, a.Op.B, a.Op.C, a.Op.D]
noncomputable def sendsL (s : DSched) : List NRow := if schedOkS s then (if s.Busy then [([s.Id, 1], pollL s.Id), ([s.Id, 0], askL ⟨s.Id, s.Seq, s.Op⟩)] else [([s.Id, 1], pollL s.Id)]) else []
theorem sends_bad {s : DSched} (h : schedOkS s = false) : sendsL s = [] := by unfold sendsL; rw [h]; rfl
theorem sends_idle {s : DSched} (h : schedOkS s = true) (h1 : s.Busy = false) : sendsL s = [([s.Id, 1], pollL s.Id)] := by unfold sendsL; rw [if_pos h, h1]; rfl
theorem sends_busy {s : DSched} (h : schedOkS s = true) (h1 : s.Busy = true) : sendsL s = [([s.Id, 1], pollL s.Id)] ++ [([s.Id, 0], askL ⟨s.Id, s.Seq, s.Op⟩)] := by unfold sendsL; rw [if_pos h, if_pos h1]; rfl
theorem nSends (s : DSched) : numMsgs (sendsL s) ≤ 100000000 := by
 unfold numMsgs sendsL
 split
 ·
  split <;> simp [tot, pollL, askL]
 ·
  simp [tot]
theorem asks_ok {s : DSched} (h : schedOkS s = true) (h1 : s.Busy = true) : askOk ⟨s.Id, s.Seq, s.Op⟩ = true := by
 obtain ⟨p1, p2, p3, p4, p5, p6⟩ := schedOkS_parts h
 obtain ⟨q1, q2, q3⟩ := p6 h1
 have hid : s.Id = 2 ∨ s.Id = 3 := by simpa [schedOk] using p1
 simp only [askOk, Bool.and_eq_true]
 exact ⟨inb_of (by omega) (by omega), inb_of (by omega) p2.2, q2⟩

end Go.Proofs.YtcnioiieiebodaaGreat

-- Rows of asks.
set_option linter.unusedSimpArgs false
set_option linter.unusedVariables false
namespace Go.Proofs.YtcnioiieiebodaaGreat
open Go.RowKit Go.G8

end Go.Proofs.YtcnioiieiebodaaGreat
namespace Go.G8
open Go.RowKit
theorem wp_appendI {P : Program} {w : World} {o : Oper} {a : Act} {K : Act → World → Prop} {Q : Exit → Act → World → Prop} (s x : Operand) (t : TypeId)
  (ho : o.op = .call { callee := .builtin .append, args := #[s, x], argTypes := #[t, t] })
  (e : TypeId) (i : TypeInfo) (z : Value) (bytes : Nat) (ht : P.underlying t = some (.slice e)) (hi : P.info? e = some i) (hz : i.zero = some z)
  (hsize : i.size = 1) (hby : i.bytes = bytes) (hzs : z.cells.size = 1)
  (B B2 : Nat) (v u : Value) (xs ys : List Int) (hs : a.eval s = v) (hown : OwnI B e 1 w v xs) (hx : a.eval x = u) (hy : OwnI B2 e 1 w u ys) (hp : 0 < ys.length)
  (n : Nat) (hlen : xs.length + ys.length ≤ n) (hn : n ≤ maxLen) (hbytes : n * bytes ≤ 140737488355328) (hbase : B ≤ w.heap.size)
  (h : ∀ v' w', OwnI B e 1 w' v' (xs ++ ys) → (∀ W0 : World, Ext W0 w → W0.heap.size ≤ B → Ext W0 w') → K (a.put o.dst v') w') : o.wp P a w K Q := by
 obtain ⟨ta, tn, tc, rfl, hl, hc1, hc2, hor⟩ := Own.open_ hy
 simp only [List.length_map, Nat.mul_one] at hl
 rcases hor with h0 | ⟨X, cur, rfl, hB, hb, hsz, hpre⟩
 ·
  omega
 refine wp_append_own0 s x t ho e i z 1 bytes ht hi hz hsize hby hzs (by omega) B v _ hs hown ⟨X, 0, none⟩ tn tc (ys.map (.int .i64)) hx (by simp; omega) (fun j u hj => ?_) (ints_oneCell _ _) (by omega) n (by simpa using hlen) hn hbytes hbase (fun v' w' h1 h2 => h v' w' (by unfold OwnI; rw [List.map_append]; exact h1) (fun W0 hW hB0 => Ext.own hW hown hB0 h2))
 have hjl : j < ys.length := by
  have := (List.getElem?_eq_some_iff.1 hj).1
  simpa using this
 have h1 := hpre j (by omega)
 have h2 : Addr.add ⟨X, 0, none⟩ j = ⟨X, j, none⟩ := by unfold Addr.add; split <;> simp_all
 rw [h2, hb.cell, h1]; exact hj
end Go.G8
namespace Go.Proofs.YtcnioiieiebodaaGreat
open Go.RowKit Go.G8
set_option maxHeartbeats 4000000 in
set_option maxRecDepth 100000 in
theorem askOk_k (w : World) (i q k a b c d : Int) : Calls Tryz.prog 277 #[.agg #[.int .i64 i, .int .i64 q, .int .i64 k, .int .i64 a, .int .i64 b, .int .i64 c, .int .i64 d]] w (RetV w (.bool (askOk (⟨i, q, ⟨k, a, b, c, d⟩⟩ : DAsk)))) := by
 obtain ⟨b1, h1⟩ : ∃ z9, inb i 2 5 = z9 := ⟨_, rfl⟩
 obtain ⟨b2, h2⟩ : ∃ z9, inb q 1 2000 = z9 := ⟨_, rfl⟩
 obtain ⟨b3, h3⟩ : ∃ z9, opOk ⟨k, a, b, c, d⟩ = z9 := ⟨_, rfl⟩
 have e : askOk (⟨i, q, ⟨k, a, b, c, d⟩⟩ : DAsk) = (b1 && (b2 && b3)) := by rw [← h1, ← h2, ← h3]; rfl
 rw [e]; clear e
 have H1 := Lib.hid h1; have H2 := Lib.hid h2; have H3 := Lib.hid h3; clear h1 h2 h3
 go_enter Tryz.func277, Tryz.ntmps277
 go_wp2_with fail
 refine (askerOk_e _ i).mono ?_
 rintro e w9 ⟨rfl, rfl⟩
 rw [H1.out]
 cases b1
 ·
  go_wp2; go_ret; exact ⟨rfl, by exact extT⟩
 go_wp2_with fail
 refine (seqOk_e _ q).mono ?_
 rintro e w9 ⟨rfl, rfl⟩
 rw [H2.out]
 cases b2
 ·
  go_wp2; go_ret; exact ⟨rfl, by exact extT⟩
 go_wp2_with fail
 refine (opOk_e _ k a b c d).mono ?_
 rintro e w9 ⟨rfl, hx9⟩
 rw [H3.out]
 go_wp2; go_ret; exact ⟨rfl, by exact extT⟩
set_option maxHeartbeats 4000000 in
set_option maxRecDepth 100000 in
theorem numbers_k (w : World) (k a b c d : Int) : Calls Tryz.prog 272 #[.agg #[.int .i64 k, .int .i64 a, .int .i64 b, .int .i64 c, .int .i64 d]] w (Ret w fun r w' => OwnI w.heap.size 2 1 w' r [k, a, b, c, d]) := by
 have E0 : Ext w w := Ext.refl _
 go_enter Tryz.func272, Tryz.ntmps272
 go_wp2_with fail
 go_ret
 have h9 := OwnI.lit (w.alloc (.cells #[.int .i64 k, .int .i64 a, .int .i64 b, .int .i64 c, .int .i64 d] 30)) 2 [k, a, b, c, d] (by simp)
 simp only [World.size_alloc] at h9
 exact ⟨_, rfl, by exact extT, h9.mono (by omega)⟩

end Go.Proofs.YtcnioiieiebodaaGreat
