/- Contracts and plain laws: Q11a Sum Num Num2. -/
import Derived.Test.YtfhaooaajpopmaaGreatMa
import Derived.Test.YtfhaooaajpopmaaGreatMe
import Derived.Test.YtfhaooaajpopmaaGreatMd
set_option linter.unusedSimpArgs false
set_option linter.unusedVariables false
set_option maxHeartbeats 8000000
set_option maxRecDepth 100000
namespace Go.G8
open Go.RowKit
def stateSmall (s : DState) : Prop := s.Pairs.length ≤ 1000000 ∧ s.Jobs.length ≤ 1000000
end Go.G8
namespace Go.Proofs.YtfhaooaajpopmaaGreat
open Go.RowKit Go.G8
theorem l14Copy_c (w : World) (s0_0 : Value) (l0_0 : List DPair) (h0_0 : Ints 2 w s0_0 (flPair l0_0)) (e0 : l0_0.length ≤ 1000000) :
  Calls Tryz.prog 94 #[s0_0] w (Ret w fun r0 w' => OwnI w.heap.size 122 2 w' r0 (flPair l0_0)) := by
 obtain ⟨a0, n0, k0, rfl⟩ := h0_0.shape
 obtain ⟨i0, hi, hz0, hz1, hz2⟩ := info_parts info_Pair
 go_enter Tryz.func94, Tryz.ntmps94
 go_wp2_with (first | (at_builtin; refine wp_append_fresh rfl (.tmp 3) (.tmp 4) 57 rfl 122 i0 _ 2 16 Tryz.underlying57 hi hz0 hz1 hz2 rfl dC w.heap.size (by simp) rfl (.slice a0 n0 k0) ((flPair l0_0).map (.int .i64)) rfl h0_0 (ints_oneCell _ _) 1000000 (by have := length_flPair l0_0; simp; omega) (by unfold maxLen; omega) oM ?_; rotate_right; intro t5 w1 g5 hx1; obtain ⟨ta5, tn5, tc5, rfl⟩ := g5.sl.shape))
 go_ret
 exact ⟨_, rfl, hx1, g5⟩
theorem l15Copy_c (w : World) (s0_0 : Value) (l0_0 : List DJob) (h0_0 : Ints 5 w s0_0 (flJob l0_0)) (e0 : l0_0.length ≤ 1000000) :
  Calls Tryz.prog 95 #[s0_0] w (Ret w fun r0 w' => OwnI w.heap.size 86 5 w' r0 (flJob l0_0)) := by
 obtain ⟨a0, n0, k0, rfl⟩ := h0_0.shape
 obtain ⟨i0, hi, hz0, hz1, hz2⟩ := info_parts info_Job
 go_enter Tryz.func95, Tryz.ntmps95
 go_wp2_with (first | (at_builtin; refine wp_append_fresh rfl (.tmp 3) (.tmp 4) 58 rfl 86 i0 _ 5 40 Tryz.underlying58 hi hz0 hz1 hz2 rfl dC w.heap.size (by simp) rfl (.slice a0 n0 k0) ((flJob l0_0).map (.int .i64)) rfl h0_0 (ints_oneCell _ _) 1000000 (by have := length_flJob l0_0; simp; omega) (by unfold maxLen; omega) oM ?_; rotate_right; intro t5 w1 g5 hx1; obtain ⟨ta5, tn5, tc5, rfl⟩ := g5.sl.shape))
 go_ret
 exact ⟨_, rfl, hx1, g5⟩
theorem l17Copy_k {w : World} {v : Value} {s : DState} (h : RdState w v s) (e0 : stateSmall s) : Calls Tryz.prog 83 #[v] w (Ret w fun r w' => IsState w.heap.size w' r s) := by
 obtain ⟨e4, e5⟩ := e0
 have H := h
 obtain ⟨t2, t3, rfl, h2, h3⟩ := h
 obtain ⟨a2, n2, k2, rfl⟩ := h2.shape
 obtain ⟨a3, n3, k3, rfl⟩ := h3.shape
 obtain ⟨WP, hWP⟩ : ∃ WP, WP = w.alloc (.cells #[.int .i64 s.Index, .int .i64 s.Time, .slice a2 n2 k2, .slice a3 n3 k3, .int .i64 s.Lease.Holder, .int .i64 s.Lease.Epoch, .int .i64 s.Lease.Until] 62) := ⟨_, rfl⟩
 have hEP : Ext w WP := by rw [hWP]; exact (Ext.refl _).alloc _
 have hsP : WP.heap.size = w.heap.size + 1 := by rw [hWP]; simp
 have KP : Blk WP w.heap.size 62 #[.int .i64 s.Index, .int .i64 s.Time, .slice a2 n2 k2, .slice a3 n3 k3, .int .i64 s.Lease.Holder, .int .i64 s.Lease.Epoch, .int .i64 s.Lease.Until] := by rw [hWP]; exact Blk.new _ _ _
 obtain ⟨W0, hW0⟩ : ∃ W0, W0 = WP.alloc (.cells #[.int .i64 0, .int .i64 0, .slice none 0 0, .slice none 0 0, .int .i64 0, .int .i64 0, .int .i64 0] 62) := ⟨_, rfl⟩
 have hE0 : Ext WP W0 := by rw [hW0]; exact (Ext.refl _).alloc _
 have hs0 : W0.heap.size = w.heap.size + 1 + 1 := by rw [hW0]; simp [hsP]
 have KR : Blk W0 (w.heap.size + 1) 62 #[.int .i64 0, .int .i64 0, .slice none 0 0, .slice none 0 0, .int .i64 0, .int .i64 0, .int .i64 0] := by rw [hW0, ← hsP]; exact Blk.new _ _ _
 have CP0 := (KP.ext hE0).cell; have FP0 := (KP.ext hE0).frozen
 have CR0 := KR.cell; have FR0 := KR.frozen
 have H0 := Lib.hid hW0; have HP := Lib.hid hWP
 clear hW0 hWP
 go_enter Tryz.func83, Tryz.ntmps83
 go_wp2_with fail
 rw [← HP.out, ← H0.out]
 refine (l14Copy_c _ _ s.Pairs (h2.ext (hEP.trans hE0)) e4).mono ?_
 rintro e wa ⟨_, rfl, hxa, ga⟩
 obtain ⟨b2, m2, j2, rfl⟩ := ga.shape
 have KPa := (KP.ext hE0).ext hxa; have KRa := KR.ext hxa
 have CPa := KPa.cell; have FPa := KPa.frozen; have CRa := KRa.cell; have FRa := KRa.frozen
 have hEa : Ext w wa := (hEP.trans hE0).trans hxa
 have hza := hxa.size
 go_wp2_with fail
 refine (l15Copy_c _ _ s.Jobs (h3.ext (Ext.setCell hEa (Nat.le_refl _) _)) e5).mono ?_
 rintro e wb ⟨_, rfl, hxb, gb⟩
 obtain ⟨b3, m3, j3, rfl⟩ := gb.shape
 have KPb := (KPa.set_ 2 (.slice b2 m2 j2)).ext hxb
 (try simp only [List.setIfInBounds_toArray, List.set_cons_zero, List.set_cons_succ] at KPb)
 have KRb := (KRa.far (p := ⟨w.heap.size, 2, none⟩) (by simp) (.slice b2 m2 j2)).ext hxb
 have CPb := KPb.cell; have FPb := KPb.frozen; have CRb := KRb.cell; have FRb := KRb.frozen
 clear CPa FPa CRa FRa CP0 FP0 CR0 FR0
 go_wp2_with fail
 refine bodyPost_ret (by simp [results, Tryz.results83, go_sem, *]; try rfl) rfl ?_
 simp only [World.size_setCell] at gb
 have hEb := Lib.hid ((Ext.setCell hEa (Nat.le_refl _) _).trans hxb)
 clear CPb FPb CRb FRb
 refine ⟨_, rfl, by have hEc := hEb.out; clear hxb; exact xT, _, _, rfl, OwnI.mono (B := W0.heap.size) (OwnI.keep ga chgT) oM, OwnI.mono (B := W0.heap.size) (OwnI.keep (OwnI.mono gb hza) chgT) oM⟩
end Go.Proofs.YtfhaooaajpopmaaGreat
namespace Go.G8
open Go.RowKit
theorem step_append_own {P : Program} {w : World} {ops : Array Oper} {o : Oper} {a : Act} {K : Act → World → Prop} {Q : Exit → Act → World → Prop} {E : Prop} (hgd : o.guard = none) (s x : Operand) (t : TypeId)
  (ho : o.op = .call { callee := .builtin .append, args := #[s, x], argTypes := #[t, t] })
  (e : TypeId) (i : TypeInfo) (z : Value) (size bytes : Nat) (ht : P.underlying t = some (.slice e)) (hi : P.info? e = some i) (hz : i.zero = some z)
  (hsize : i.size = size) (hby : i.bytes = bytes) (hzs : z.cells.size = size) (hsz : 0 < size)
  (B : Nat) (v : Value) (cs : List Value) (hs : a.eval s = v) (hown : Own B e size w v cs) (ad : Addr) (m c : Nat) (news : List Value) (hx : a.eval x = .slice (some ad) m c) (hl : news.length = m * size) (hnews : ∀ j u, news[j]? = some u → w.cell? (ad.add j) = some u) (h1 : ∀ u ∈ news, u.oneCell' = true) (hm : 0 < m)
  (n : Nat) (hlen : cs.length + news.length ≤ n * size) (hn : n ≤ maxLen) (hbytes : n * bytes ≤ 140737488355328) (hbase : B ≤ w.heap.size)
  (h : ∀ v' w', Own B e size w' v' (cs ++ news) → w.grownBy w' v.ownBlock → K (a.put o.dst v') w') : if Region.wanted o (yielded ops a.tmps) = true then Oper.wp P o a w K Q else E := by
 obtain ⟨len, ho'⟩ := hown
 have hl0 : cs.length = len * size := ho'.1
 have hle : len + m ≤ n := by
  have : (len + m) * size ≤ n * size := by rw [Nat.add_mul]; omega
  exact Nat.le_of_mul_le_mul_right this hsz
 exact step_append_lies w hgd s x t ho B e i z size bytes ht hi hz hsize hby hzs hsz v len cs hs ho' ad m c news hx hl hnews h1 hm (Nat.le_trans hle hn) (Nat.le_trans (Nat.mul_le_mul_right _ hle) hbytes) hbase _ rfl (fun g cap w' h2 h3 _ _ => h _ w' ⟨_, h2⟩ h3)
end Go.G8
