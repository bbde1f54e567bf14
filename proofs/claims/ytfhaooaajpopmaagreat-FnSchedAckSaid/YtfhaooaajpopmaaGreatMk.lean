/- Contracts and plain laws: Ins Ins2 Ins3 Ins4 Pu Pc Ja Ff Ap1 Ap2 Sp. -/
import Derived.Shelf.RegionOpenPlain
import Derived.Lib.Overlaps
import Derived.Lib.AppendZerosOnto
import Derived.Laws.Externs
import Derived.Test.YtfhaooaajpopmaaGreatMf
import Derived.Test.YtfhaooaajpopmaaGreatMa
import Derived.Test.YtfhaooaajpopmaaGreatMj
import Derived.Laws.EntriesVeiled
import Derived.Deep.DeepCutAuto
set_option linter.unusedSimpArgs false
set_option linter.unusedVariables false
set_option maxHeartbeats 8000000
set_option maxRecDepth 100000
namespace Go.G8
open Go.RowKit
section
variable {cur : Array Value} {o : Nat} {vs : List Value}
end
section
variable {P : Program}
end
open Go.Proofs.YtfhaooaajpopmaaGreat
def MixS (pt jt : TypeId) (w0 : World) (B : Nat) (w : World) (v : Value) (s : DState) : Prop := ∃ t2 t3 : Value, v = .agg #[.int .i64 s.Index, .int .i64 s.Time, t2, t3, .int .i64 s.Lease.Holder, .int .i64 s.Lease.Epoch, .int .i64 s.Lease.Until] ∧
 (Ints 2 w0 t2 (flPair s.Pairs) ∨ OwnI B pt 2 w t2 (flPair s.Pairs)) ∧ (Ints 5 w0 t3 (flJob s.Jobs) ∨ OwnI B jt 5 w t3 (flJob s.Jobs))
theorem MixS.rd {pt jt : TypeId} {w0 w w' : World} {B : Nat} {v : Value} {s : DState} (h : MixS pt jt w0 B w v s) (x : Ext w0 w') (c : Chg B w w') : RdState w' v s := by
 obtain ⟨t2, t3, e, h2, h3⟩ := h
 exact ⟨t2, t3, e, h2.elim (fun h => h.ext x) (fun h => (h.keep c).ints), h3.elim (fun h => h.ext x) (fun h => (h.keep c).ints)⟩
theorem MixS.keep {pt jt : TypeId} {w0 w w' : World} {B : Nat} {v : Value} {s : DState} (h : MixS pt jt w0 B w v s) (c : Chg B w w') : MixS pt jt w0 B w' v s := by
 obtain ⟨t2, t3, e, h2, h3⟩ := h
 exact ⟨t2, t3, e, h2.imp id (fun h => h.keep c), h3.imp id (fun h => h.keep c)⟩
theorem MixS.mono {pt jt : TypeId} {w0 w : World} {B B' : Nat} {v : Value} {s : DState} (h : MixS pt jt w0 B w v s) (c : B' ≤ B) : MixS pt jt w0 B' w v s := by
 obtain ⟨t2, t3, e, h2, h3⟩ := h
 exact ⟨t2, t3, e, h2.imp id (fun h => h.mono c), h3.imp id (fun h => h.mono c)⟩
theorem OwnI.boxI {B : Nat} {e : TypeId} {n : Nat} {w : World} {v : Value} {xs : List Int} (h : OwnI B e n w v xs) {X : Nat} {t : TypeId} {a : Array Value} (hX : Blk w X t a) (h1 : t ≠ e) (i : Nat) (u : Value) : OwnI B e n (w.setCell ⟨X, i, none⟩ u) v xs :=
 OwnI.upd' h ((Upd.refl w [X]).setCell (by simp) _) (fun k hk hf => by
  obtain ⟨cur, hb⟩ := h.typed hk
  simp at hf; subst hf
  exact h1 (hX.same hb))
theorem MixS.box {pt jt : TypeId} {w0 w : World} {B : Nat} {v : Value} {s : DState} (h : MixS pt jt w0 B w v s) {X : Nat} {t : TypeId} {a : Array Value} (hX : Blk w X t a) (h1 : t ≠ pt) (h2 : t ≠ jt) (i : Nat) (u : Value) : MixS pt jt w0 B (w.setCell ⟨X, i, none⟩ u) v s := by
 obtain ⟨t2, t3, e, g2, g3⟩ := h
 exact ⟨t2, t3, e, g2.imp id (fun h => h.boxI hX h1 i u), g3.imp id (fun h => h.boxI hX h2 i u)⟩
theorem MixS.shape {pt jt : TypeId} {w0 w : World} {B : Nat} {v : Value} {s : DState} (h : MixS pt jt w0 B w v s) : ∃ a2 n2 k2 a3 n3 k3, v = .agg #[.int .i64 s.Index, .int .i64 s.Time, .slice a2 n2 k2, .slice a3 n3 k3, .int .i64 s.Lease.Holder, .int .i64 s.Lease.Epoch, .int .i64 s.Lease.Until] := by
 obtain ⟨t2, t3, rfl, h2, h3⟩ := h
 obtain ⟨a2, n2, k2, rfl⟩ := h2.elim (fun h => h.shape) (fun h => h.shape)
 obtain ⟨a3, n3, k3, rfl⟩ := h3.elim (fun h => h.shape) (fun h => h.shape)
 exact ⟨a2, n2, k2, a3, n3, k3, rfl⟩
open Go.Proofs.YtfhaooaajpopmaaGreat in
theorem stateOk_small2 {s : DState} (h : stateOk s = true) : stateSmall s := by
 obtain ⟨_, _, _, h1, h2, _⟩ := stateOk_parts h
 have := pairsOk_len h1; have := jobsOk_len h2
 exact ⟨by omega, by omega⟩
end Go.G8
namespace Go.Proofs.YtfhaooaajpopmaaGreat
open Go.RowKit Go.G8
theorem sApplied_k {w : World} {v : Value} {s : DState} (h : RdState w v s) (ei et ec es ok oa ob oc od : Int) :
  Calls Tryz.prog 79 #[v, .agg #[.int .i64 ei, .int .i64 et, .int .i64 ec, .int .i64 es, .int .i64 ok, .int .i64 oa, .int .i64 ob, .int .i64 oc, .int .i64 od]] w (Ret w fun r w' => ∃ u, r = .tuple #[u, .bool (appOk s ⟨ei, et, ec, es, ⟨ok, oa, ob, oc, od⟩⟩)] ∧ IsState w.heap.size w' u (appD s ⟨ei, et, ec, es, ⟨ok, oa, ob, oc, od⟩⟩)) := by
 have HS := Lib.hid h
 obtain ⟨t2, t3, rfl, h2, h3⟩ := h
 obtain ⟨a2, n2, k2, rfl⟩ := h2.shape
 obtain ⟨a3, n3, k3, rfl⟩ := h3.shape
 have H2 := Lib.hid h2; have H3 := Lib.hid h3
 clear h2 h3
 obtain ⟨W1, hW1⟩ : ∃ W1, W1 = ((w.alloc (.cells #[.int .i64 s.Index, .int .i64 s.Time, .slice a2 n2 k2, .slice a3 n3 k3, .int .i64 s.Lease.Holder, .int .i64 s.Lease.Epoch, .int .i64 s.Lease.Until] 62)).alloc (.cells #[.int .i64 ei, .int .i64 et, .int .i64 ec, .int .i64 es, .int .i64 ok, .int .i64 oa, .int .i64 ob, .int .i64 oc, .int .i64 od] 95)).alloc (.cells #[.int .i64 0, .int .i64 0, .slice none 0 0, .slice none 0 0, .int .i64 0, .int .i64 0, .int .i64 0] 62) := ⟨_, rfl⟩
 have E1 : Ext w W1 := by rw [hW1]; exact (((Ext.refl _).alloc _).alloc _).alloc _
 have KS1 : Blk W1 w.heap.size 62 #[.int .i64 s.Index, .int .i64 s.Time, .slice a2 n2 k2, .slice a3 n3 k3, .int .i64 s.Lease.Holder, .int .i64 s.Lease.Epoch, .int .i64 s.Lease.Until] := by rw [hW1]; exact ((Blk.new _ _ _).alloc _).alloc _
 have KE1 : Blk W1 (w.heap.size + 1) 95 #[.int .i64 ei, .int .i64 et, .int .i64 ec, .int .i64 es, .int .i64 ok, .int .i64 oa, .int .i64 ob, .int .i64 oc, .int .i64 od] := by rw [hW1]; exact (Blk.new2 _ _ _ _).alloc _
 have KR1 : Blk W1 (w.heap.size + 1 + 1) 62 #[.int .i64 0, .int .i64 0, .slice none 0 0, .slice none 0 0, .int .i64 0, .int .i64 0, .int .i64 0] := by rw [hW1]; exact Blk.new3 _ _ _ _ _
 have hz1' : w.heap.size + 2 < W1.heap.size := by rw [hW1]; simp
 have HW1 := Lib.hid hW1
 clear hW1
 go_enter Tryz.func79, Tryz.ntmps79
 go_wp2_with fail
 rw [← HW1.out]
 have CS1 := KS1.cell; have FS1 := KS1.frozen; have LS1 := KS1.lt; have CE1 := KE1.cell; have FE1 := KE1.frozen; have LE1 := KE1.lt; have CR1 := KR1.cell; have FR1 := KR1.frozen; have LR1 := KR1.lt
 go_wp2_with fail
 refine (sStateOk_k (HS.out.ext E1)).mono ?_
 rintro e9 w2 ⟨rfl, hx2⟩
 have E2 : Ext w w2 := E1.trans hx2
 have hz2 := hx2.size
 have KS2 := KS1.ext hx2; have KE2 := KE1.ext hx2; have KR2 := KR1.ext hx2
 clear CS1 FS1 LS1 CE1 FE1 LE1 CR1 FR1 LR1
 have CS2 := KS2.cell; have FS2 := KS2.frozen; have LS2 := KS2.lt; have CE2 := KE2.cell; have FE2 := KE2.frozen; have LE2 := KE2.lt; have CR2 := KR2.cell; have FR2 := KR2.frozen; have LR2 := KR2.lt
 cases hso : stateOk s
 ·
  have e1 : appOk s ⟨ei, et, ec, es, ⟨ok, oa, ob, oc, od⟩⟩ = false := by simp [appOk, hso]
  have e2 : appD s ⟨ei, et, ec, es, ⟨ok, oa, ob, oc, od⟩⟩ = ⟨0, 0, [], [], ⟨0, 0, 0⟩⟩ := by simp [appD, hso]
  have HA1 := Lib.hid e1; have HA2 := Lib.hid e2
  clear e1 e2
  go_wp2_with fail
  refine bodyPost_ret (by simp [results, Tryz.results79, go_sem, CR2, FR2, LR2]; try rfl) rfl ?_
  refine ⟨_, rfl, xT, _, by (rw [HA1.out]; try rfl), ?_⟩
  rw [HA2.out]
  exact ⟨_, _, rfl, OwnI.nil _ _ _ _, OwnI.nil _ _ _ _⟩
 have HSO := Lib.hid hso
 clear hso
 go_wp2_with fail
 refine (l17Copy_k (HS.out.ext E2) (stateOk_small2 HSO.out)).mono ?_
 rintro e9 w3 ⟨_, rfl, hx3, p2, p3, rfl, g2, g3⟩
 obtain ⟨c2, m4, j4, rfl⟩ := g2.shape
 obtain ⟨c3, m5, j5, rfl⟩ := g3.shape
 have hz3 := hx3.size
 obtain ⟨w4, hW4⟩ : ∃ w4, w4 = w3.alloc (.cells #[.int .i64 s.Index, .int .i64 s.Time, .slice c2 m4 j4, .slice c3 m5 j5, .int .i64 s.Lease.Holder, .int .i64 s.Lease.Epoch, .int .i64 s.Lease.Until] 62) := ⟨_, rfl⟩
 have X4 : Ext w2 w4 := by rw [hW4]; exact hx3.alloc _
 have CH4 : Chg w2.heap.size w3 w4 := by rw [hW4]; exact (Chg.refl _ _).alloc _
 have KO4 : Blk w4 w3.heap.size 62 #[.int .i64 s.Index, .int .i64 s.Time, .slice c2 m4 j4, .slice c3 m5 j5, .int .i64 s.Lease.Holder, .int .i64 s.Lease.Epoch, .int .i64 s.Lease.Until] := by rw [hW4]; exact Blk.new _ _ _
 have HW4 := Lib.hid hW4
 have hz4 := X4.size
 have E4 : Ext w w4 := E2.trans X4
 clear hW4
 have KS3 := KS2.ext hx3; have KE3 := KE2.ext hx3; have KR3 := KR2.ext hx3
 clear CS2 FS2 LS2 CE2 FE2 LE2 CR2 FR2 LR2
 have CS3 := KS3.cell; have FS3 := KS3.frozen; have LS3 := KS3.lt; have CE3 := KE3.cell; have FE3 := KE3.frozen; have LE3 := KE3.lt; have CR3 := KR3.cell; have FR3 := KR3.frozen; have LR3 := KR3.lt
 go_wp2_with fail
 rw [← HW4.out]
 have KS4 := KS2.ext X4; have KE4 := KE2.ext X4; have KR4 := KR2.ext X4
 clear CS3 FS3 LS3 CE3 FE3 LE3 CR3 FR3 LR3
 refine (sEffectOf_k (HS.out.ext E4) ei et ec es ok oa ob oc od).mono ?_
 rintro e9 w5 ⟨rfl, hx5⟩
 have E5 : Ext w w5 := E4.trans hx5
 have hz5 := hx5.size
 have CH5 : Chg w2.heap.size w3 w5 := CH4.ext hx5
 have KS5 := KS4.ext hx5; have KE5 := KE4.ext hx5; have KR5 := KR4.ext hx5; have KO5 := KO4.ext hx5
 clear KS2 KE2 KR2 KS3 KE3 KR3
 have CS5 := KS5.cell; have FS5 := KS5.frozen; have LS5 := KS5.lt; have CE5 := KE5.cell; have FE5 := KE5.frozen; have LE5 := KE5.lt; have CR5 := KR5.cell; have FR5 := KR5.frozen; have LR5 := KR5.lt; have CO5 := KO5.cell; have FO5 := KO5.frozen; have LO5 := KO5.lt
 cases hn : nextIn s ⟨ei, et, ec, es, ⟨ok, oa, ob, oc, od⟩⟩
 ·
  have e1 : appOk s ⟨ei, et, ec, es, ⟨ok, oa, ob, oc, od⟩⟩ = false := by simp [appOk, HSO.out, hn]
  have e2 : appD s ⟨ei, et, ec, es, ⟨ok, oa, ob, oc, od⟩⟩ = s := by simp [appD, HSO.out, hn]
  have e3 : effAt s ⟨ei, et, ec, es, ⟨ok, oa, ob, oc, od⟩⟩ = -1 := by simp [effAt, HSO.out, hn]
  have HA1 := Lib.hid e1; have HA2 := Lib.hid e2
  rw [e3]
  clear e1 e2 e3
  go_wp2_with fail
  refine bodyPost_ret (by simp [results, Tryz.results79, go_sem, CR5, FR5, LR5]; try rfl) rfl ?_
  refine ⟨_, rfl, xT, _, by (rw [HA1.out]; try rfl), ?_⟩
  rw [HA2.out]
  exact ⟨_, _, rfl, (g2.keep chgT).mono oM, (g3.keep chgT).mono oM⟩
 have HNI := Lib.hid hn
 have e1 : appOk s ⟨ei, et, ec, es, ⟨ok, oa, ob, oc, od⟩⟩ = true := by simp [appOk, HSO.out, hn]
 have e2 : appD s ⟨ei, et, ec, es, ⟨ok, oa, ob, oc, od⟩⟩ = stepS s ⟨ei, et, ec, es, ⟨ok, oa, ob, oc, od⟩⟩ := by simp [appD, HSO.out, hn]
 have e3 : effAt s ⟨ei, et, ec, es, ⟨ok, oa, ob, oc, od⟩⟩ = effS s ⟨ei, et, ec, es, ⟨ok, oa, ob, oc, od⟩⟩ := by simp [effAt, HSO.out, hn]
 have HA1 := Lib.hid e1; have HA2 := Lib.hid e2
 have ho : opOk ⟨ok, oa, ob, oc, od⟩ = true := (entryOk_parts (nextIn_parts hn).1).2.2.2
 have HOO := Lib.hid ho
 rw [e3]
 have hop : ok = 1 ∨ ok = 2 ∨ ok = 3 ∨ ok = 4 ∨ ok = 5 := opOk_kind ho
 have X15 : Ext W1 w5 := hx2.trans (X4.trans hx5)
 have HOP := Lib.hid hop
 clear e1 e2 e3 hn ho hop
 cases hd : doesS s ⟨ei, et, ec, es, ⟨ok, oa, ob, oc, od⟩⟩
 ·
  have e1 : effS s ⟨ei, et, ec, es, ⟨ok, oa, ob, oc, od⟩⟩ = 0 := by simp [effS, hd]
  have e2 : stepS s ⟨ei, et, ec, es, ⟨ok, oa, ob, oc, od⟩⟩ = ⟨ei, et, s.Pairs, s.Jobs, s.Lease⟩ := step_none HSO.out HOP.out hd
  have HA3 := Lib.hid (HA2.out.trans e2)
  rw [e1]
  clear e1 e2 hd HA2
  go_wp2_with fail
  refine bodyPost_ret (by simp [results, Tryz.results79, go_sem, CR5, FR5, LR5]; try rfl) rfl ?_
  refine ⟨_, rfl, xT, _, by (rw [HA1.out]; try rfl), ?_⟩
  rw [HA3.out]
  exact ⟨_, _, rfl, (g2.keep chgT).mono oM, (g3.keep chgT).mono oM⟩
 have e1 : effS s ⟨ei, et, ec, es, ⟨ok, oa, ob, oc, od⟩⟩ = ok := by simp [effS, hd]
 rw [e1]
 have HD := Lib.hid hd
 clear e1 hd
 have hop := HOP.out
 rcases hop with hk | hk | hk | hk | hk
 all_goals subst hk
 ·
  go_wp2_with fail
  obtain ⟨w6, hW6⟩ : ∃ w6, w6 = (w5.setCell ⟨w3.heap.size, 0, none⟩ (.int .i64 ei)).setCell ⟨w3.heap.size, 1, none⟩ (.int .i64 et) := ⟨_, rfl⟩
  rw [← hW6]
  have hg2 : W1.heap.size ≤ w3.heap.size := by omega
  have XG6 : Ext W1 w6 := by rw [hW6]; exact (X15.setCell hg2 _).setCell hg2 _
  have CH6 : Chg w2.heap.size w3 w6 := by rw [hW6]; exact (CH5.setNew (Nat.le_refl _) _).setNew (Nat.le_refl _) _
  have KO6 : Blk w6 w3.heap.size 62 #[.int .i64 ei, .int .i64 et, .slice c2 m4 j4, .slice c3 m5 j5, .int .i64 s.Lease.Holder, .int .i64 s.Lease.Epoch, .int .i64 s.Lease.Until] := by rw [hW6]; have := (KO5.set_ 0 (.int .i64 ei)).set_ 1 (.int .i64 et); simpa using this
  have KS6 := KS1.ext XG6; have KE6 := KE1.ext XG6; have KR6 := KR1.ext XG6
  have hz6 : w5.heap.size = w6.heap.size := by rw [hW6]; simp
  have E6 := E1.trans XG6
  have hlo := KO6.lt
  clear hW6
  clear CS5 FS5 LS5 CE5 FE5 LE5 CR5 FR5 LR5 CO5 FO5 LO5
  have HA3 := Lib.hid (HA2.out.trans (step_put HSO.out HOO.out rfl))
  clear HA2
  simp only [] at HA3
  refine (sPut_c _ _ s.Pairs oa ob (H2.out.ext E6)).mono ?_
  rintro e9 w7 ⟨_, rfl, hx7, u9, rfl, gu⟩
  obtain ⟨ua, un, uc, rfl⟩ := gu.shape
  have CH7 : Chg w2.heap.size w3 w7 := CH6.ext hx7
  have E7 := E6.trans hx7
  have hz7 := hx7.size
  have KS7 := KS6.ext hx7; have KE7 := KE6.ext hx7; have KR7 := KR6.ext hx7; have KO7 := KO6.ext hx7
  have CS7 := KS7.cell; have FS7 := KS7.frozen; have LS7 := KS7.lt; have CE7 := KE7.cell; have FE7 := KE7.frozen; have LE7 := KE7.lt; have CR7 := KR7.cell; have FR7 := KR7.frozen; have LR7 := KR7.lt; have CO7 := KO7.cell; have FO7 := KO7.frozen; have LO7 := KO7.lt
  go_wp2_with fail
  refine bodyPost_ret (by simp [results, Tryz.results79, go_sem, CR7, FR7, LR7]; try rfl) rfl ?_
  refine ⟨_, rfl, xT, _, by (rw [HA1.out]; try rfl), ?_⟩
  rw [HA3.out]
  exact ⟨_, _, rfl, (gu.keep chgT).mono oM, (g3.keep chgT).mono oM⟩
 ·
  go_wp2_with fail
  obtain ⟨w6, hW6⟩ : ∃ w6, w6 = (w5.setCell ⟨w3.heap.size, 0, none⟩ (.int .i64 ei)).setCell ⟨w3.heap.size, 1, none⟩ (.int .i64 et) := ⟨_, rfl⟩
  rw [← hW6]
  have hg2 : W1.heap.size ≤ w3.heap.size := by omega
  have XG6 : Ext W1 w6 := by rw [hW6]; exact (X15.setCell hg2 _).setCell hg2 _
  have CH6 : Chg w2.heap.size w3 w6 := by rw [hW6]; exact (CH5.setNew (Nat.le_refl _) _).setNew (Nat.le_refl _) _
  have KO6 : Blk w6 w3.heap.size 62 #[.int .i64 ei, .int .i64 et, .slice c2 m4 j4, .slice c3 m5 j5, .int .i64 s.Lease.Holder, .int .i64 s.Lease.Epoch, .int .i64 s.Lease.Until] := by rw [hW6]; have := (KO5.set_ 0 (.int .i64 ei)).set_ 1 (.int .i64 et); simpa using this
  have KS6 := KS1.ext XG6; have KE6 := KE1.ext XG6; have KR6 := KR1.ext XG6
  have hz6 : w5.heap.size = w6.heap.size := by rw [hW6]; simp
  have E6 := E1.trans XG6
  have hlo := KO6.lt
  clear hW6
  clear CS5 FS5 LS5 CE5 FE5 LE5 CR5 FR5 LR5 CO5 FO5 LO5
  have HA3 := Lib.hid (HA2.out.trans (step_cut HSO.out rfl))
  clear HA2
  simp only [] at HA3
  refine (sCutOut_c _ _ s.Pairs oa (H2.out.ext E6)).mono ?_
  rintro e9 w7 ⟨_, rfl, hx7, u9, rfl, gu⟩
  obtain ⟨ua, un, uc, rfl⟩ := gu.shape
  have CH7 : Chg w2.heap.size w3 w7 := CH6.ext hx7
  have E7 := E6.trans hx7
  have hz7 := hx7.size
  have KS7 := KS6.ext hx7; have KE7 := KE6.ext hx7; have KR7 := KR6.ext hx7; have KO7 := KO6.ext hx7
  have CS7 := KS7.cell; have FS7 := KS7.frozen; have LS7 := KS7.lt; have CE7 := KE7.cell; have FE7 := KE7.frozen; have LE7 := KE7.lt; have CR7 := KR7.cell; have FR7 := KR7.frozen; have LR7 := KR7.lt; have CO7 := KO7.cell; have FO7 := KO7.frozen; have LO7 := KO7.lt
  go_wp2_with fail
  refine bodyPost_ret (by simp [results, Tryz.results79, go_sem, CR7, FR7, LR7]; try rfl) rfl ?_
  refine ⟨_, rfl, xT, _, by (rw [HA1.out]; try rfl), ?_⟩
  rw [HA3.out]
  exact ⟨_, _, rfl, (gu.keep chgT).mono oM, (g3.keep chgT).mono oM⟩
 ·
  go_wp2_with fail
  obtain ⟨w6, hW6⟩ : ∃ w6, w6 = (w5.setCell ⟨w3.heap.size, 0, none⟩ (.int .i64 ei)).setCell ⟨w3.heap.size, 1, none⟩ (.int .i64 et) := ⟨_, rfl⟩
  rw [← hW6]
  have hg2 : W1.heap.size ≤ w3.heap.size := by omega
  have XG6 : Ext W1 w6 := by rw [hW6]; exact (X15.setCell hg2 _).setCell hg2 _
  have CH6 : Chg w2.heap.size w3 w6 := by rw [hW6]; exact (CH5.setNew (Nat.le_refl _) _).setNew (Nat.le_refl _) _
  have KO6 : Blk w6 w3.heap.size 62 #[.int .i64 ei, .int .i64 et, .slice c2 m4 j4, .slice c3 m5 j5, .int .i64 s.Lease.Holder, .int .i64 s.Lease.Epoch, .int .i64 s.Lease.Until] := by rw [hW6]; have := (KO5.set_ 0 (.int .i64 ei)).set_ 1 (.int .i64 et); simpa using this
  have KS6 := KS1.ext XG6; have KE6 := KE1.ext XG6; have KR6 := KR1.ext XG6
  have hz6 : w5.heap.size = w6.heap.size := by rw [hW6]; simp
  have E6 := E1.trans XG6
  have hlo := KO6.lt
  clear hW6
  clear CS5 FS5 LS5 CE5 FE5 LE5 CR5 FR5 LR5 CO5 FO5 LO5
  have HA3 := Lib.hid (HA2.out.trans (step_add rfl))
  clear HA2
  simp only [] at HA3
  have ya3 : ∀ w', Ext W1 w' → w'.cell? ⟨_, 3, none⟩ = some (.slice a3 n3 k3) := fun w' hw => (KS1.ext hw).cell 3
  have yb4 : ∀ w', Ext W1 w' → w'.cell? ⟨_, 4, none⟩ = some (.int .i64 3) := fun w' hw => (KE1.ext hw).cell 4
  have yb5 : ∀ w', Ext W1 w' → w'.cell? ⟨_, 5, none⟩ = some (.int .i64 oa) := fun w' hw => (KE1.ext hw).cell 5
  have yb6 : ∀ w', Ext W1 w' → w'.cell? ⟨_, 6, none⟩ = some (.int .i64 ob) := fun w' hw => (KE1.ext hw).cell 6
  have yb7 : ∀ w', Ext W1 w' → w'.cell? ⟨_, 7, none⟩ = some (.int .i64 oc) := fun w' hw => (KE1.ext hw).cell 7
  have yb8 : ∀ w', Ext W1 w' → w'.cell? ⟨_, 8, none⟩ = some (.int .i64 od) := fun w' hw => (KE1.ext hw).cell 8
  go_region_held3 (fun w' => Ext W1 w') (exact xT) (first | (go_at_call 88; refine (l17Job_k _ 3 oa ob oc od).mono ?_; rintro e9 wa ⟨rfl, hxa⟩) | (go_at_call 87; refine (sJobAdded_c _ _ s.Jobs oa ob oc od 0 (H3.out.ext (E1.trans (by repeat' (first | (with_reducible exact Ext.refl _) | (with_reducible refine Ext.drewN ?_ _) | (with_reducible refine Ext.drew ?_) | (with_reducible refine Ext.alloc ?_ _) | (with_reducible refine Ext.setCell ?_ ?_ _) | (with_reducible refine Ext.trans ?_ hxb) | (with_reducible refine Ext.trans ?_ hxa) | (with_reducible assumption) | omega))))).mono ?_; rintro e9 wb ⟨_, rfl, hxb, u9, rfl, gu⟩; obtain ⟨ua, un, uc, rfl⟩ := gu.shape; have hxw : Ext w6 wb := (by repeat' (first | (with_reducible exact Ext.refl _) | (with_reducible refine Ext.drewN ?_ _) | (with_reducible refine Ext.drew ?_) | (with_reducible refine Ext.alloc ?_ _) | (with_reducible refine Ext.setCell ?_ ?_ _) | (with_reducible refine Ext.trans ?_ hxb) | (with_reducible refine Ext.trans ?_ hxa) | (with_reducible assumption) | omega)); have KOb := KO6.ext hxw; have COb := KOb.cell; have FOb := KOb.frozen; have LOb := KOb.lt))
  all_goals
   clear ya3 yb4 yb5 yb6 yb7 yb8
   have KRb := KR6.ext hxw; have CRb := KRb.cell; have FRb := KRb.frozen; have LRb := KRb.lt
   have CHb := CH6.ext hxw
   have hzb := hxw.size
   have hza : w6.heap.size ≤ wa.heap.size := by have := hxa.size; (try simp only [size_drew] at this); omega
   have hzq := hxb.size
   (try simp only [size_drew] at hzq)
   have Eb := E6.trans hxw
   go_wp2_with fail
   refine bodyPost_ret (by simp [results, Tryz.results79, go_sem, CRb, FRb, LRb]; try rfl) rfl ?_
   refine ⟨_, rfl, by (clear hxa hxb hxw E1 E2 E4 E5 E6 XG6 X15 hx2 hx3 X4 hx5; exact xT), _, by (rw [HA1.out]; try rfl), ?_⟩
   rw [HA3.out]
   exact ⟨_, _, rfl, (g2.keep chgT).mono oM, (gu.keep chgT).mono (by (try simp only [size_drew]); omega)⟩
 ·
  go_wp2_with fail
  obtain ⟨w6, hW6⟩ : ∃ w6, w6 = (w5.setCell ⟨w3.heap.size, 0, none⟩ (.int .i64 ei)).setCell ⟨w3.heap.size, 1, none⟩ (.int .i64 et) := ⟨_, rfl⟩
  rw [← hW6]
  have hg2 : W1.heap.size ≤ w3.heap.size := by omega
  have XG6 : Ext W1 w6 := by rw [hW6]; exact (X15.setCell hg2 _).setCell hg2 _
  have CH6 : Chg w2.heap.size w3 w6 := by rw [hW6]; exact (CH5.setNew (Nat.le_refl _) _).setNew (Nat.le_refl _) _
  have KO6 : Blk w6 w3.heap.size 62 #[.int .i64 ei, .int .i64 et, .slice c2 m4 j4, .slice c3 m5 j5, .int .i64 s.Lease.Holder, .int .i64 s.Lease.Epoch, .int .i64 s.Lease.Until] := by rw [hW6]; have := (KO5.set_ 0 (.int .i64 ei)).set_ 1 (.int .i64 et); simpa using this
  have KS6 := KS1.ext XG6; have KE6 := KE1.ext XG6; have KR6 := KR1.ext XG6
  have hz6 : w5.heap.size = w6.heap.size := by rw [hW6]; simp
  have E6 := E1.trans XG6
  have hlo := KO6.lt
  clear hW6
  clear CS5 FS5 LS5 CE5 FE5 LE5 CR5 FR5 LR5 CO5 FO5 LO5
  have hf : fires s ⟨ei, et, ec, es, ⟨4, oa, ob, oc, od⟩⟩ = true := by simpa [doesS] using HD.out
  have HA3 := Lib.hid (HA2.out.trans (step_fire HSO.out HNI.out rfl hf))
  clear HA2
  simp only [] at HA3
  have HF := Lib.hid hf
  clear hf
  refine (sJobAt_c _ _ s.Jobs oa (H3.out.ext E6) (stateOk_parts HSO.out).2.2.2.2.1).mono ?_
  rintro e9 w7 ⟨rfl, hx7⟩
  obtain ⟨J, hJ⟩ : ∃ J, J = jget s.Jobs oa := ⟨_, rfl⟩
  rw [← hJ] at HA3 ⊢
  clear hJ
  obtain ⟨w8, hW8⟩ : ∃ w8, w8 = w7.alloc (.cells #[.int .i64 J.Id, .int .i64 J.Due, .int .i64 J.Key, .int .i64 J.Value, .int .i64 J.Fired] 86) := ⟨_, rfl⟩
  have X8 : Ext w6 w8 := by rw [hW8]; exact hx7.alloc _
  have KJ8 : Blk w8 w7.heap.size 86 #[.int .i64 J.Id, .int .i64 J.Due, .int .i64 J.Key, .int .i64 J.Value, .int .i64 J.Fired] := by rw [hW8]; exact Blk.new _ _ _
  have HW8 := Lib.hid hW8
  have hs7 := hx7.size
  clear hW8
  have KS7 := KS6.ext hx7; have KE7 := KE6.ext hx7; have KR7 := KR6.ext hx7; have KO7 := KO6.ext hx7
  have CS7 := KS7.cell; have FS7 := KS7.frozen; have LS7 := KS7.lt; have CE7 := KE7.cell; have FE7 := KE7.frozen; have LE7 := KE7.lt; have CR7 := KR7.cell; have FR7 := KR7.frozen; have LR7 := KR7.lt; have CO7 := KO7.cell; have FO7 := KO7.frozen; have LO7 := KO7.lt
  go_wp2_with fail
  rw [← HW8.out]
  clear KS7 KE7 KR7 KO7
  clear CS7 FS7 LS7 CE7 FE7 LE7 CR7 FR7 LR7 CO7 FO7 LO7
  have CH8 : Chg w2.heap.size w3 w8 := CH6.ext X8
  have E8 := E6.trans X8
  have hz8 := X8.size
  have KS8 := KS6.ext X8; have KE8 := KE6.ext X8; have KR8 := KR6.ext X8; have KO8 := KO6.ext X8
  have CS8 := KS8.cell; have FS8 := KS8.frozen; have LS8 := KS8.lt; have CE8 := KE8.cell; have FE8 := KE8.frozen; have LE8 := KE8.lt; have CR8 := KR8.cell; have FR8 := KR8.frozen; have LR8 := KR8.lt; have CO8 := KO8.cell; have FO8 := KO8.frozen; have LO8 := KO8.lt
  refine (sJobFired_c _ _ s.Jobs oa ei (H3.out.ext E8)).mono ?_
  rintro e9 w9 ⟨_, rfl, hx9, u9, rfl, gj⟩
  obtain ⟨ua, un, uc, rfl⟩ := gj.shape
  have KJ9 := KJ8.ext hx9
  clear CS8 FS8 LS8 CE8 FE8 LE8 CR8 FR8 LR8 CO8 FO8 LO8
  have CH9 : Chg w2.heap.size w3 w9 := CH8.ext hx9
  have E9 := E8.trans hx9
  have hz9 := hx9.size
  have KS9 := KS8.ext hx9; have KE9 := KE8.ext hx9; have KR9 := KR8.ext hx9; have KO9 := KO8.ext hx9
  have CS9 := KS9.cell; have FS9 := KS9.frozen; have LS9 := KS9.lt; have CE9 := KE9.cell; have FE9 := KE9.frozen; have LE9 := KE9.lt; have CR9 := KR9.cell; have FR9 := KR9.frozen; have LR9 := KR9.lt; have CO9 := KO9.cell; have FO9 := KO9.frozen; have LO9 := KO9.lt
  have CJ9 := KJ9.cell; have LJ9 := KJ9.lt
  go_wp2_with fail
  obtain ⟨wx, hWx⟩ : ∃ wx, wx = w9.setCell ⟨w3.heap.size, 3, none⟩ (.slice ua un uc) := ⟨_, rfl⟩
  rw [← hWx]
  have XGx : Ext W1 wx := by rw [hWx]; exact (((XG6.trans X8).trans hx9).setCell hg2 _)
  have CHx : Chg w2.heap.size w3 wx := by rw [hWx]; exact CH9.setNew (Nat.le_refl _) _
  have KOx : Blk wx w3.heap.size 62 #[.int .i64 ei, .int .i64 et, .slice c2 m4 j4, .slice ua un uc, .int .i64 s.Lease.Holder, .int .i64 s.Lease.Epoch, .int .i64 s.Lease.Until] := by rw [hWx]; have := KO9.set_ 3 (.slice ua un uc); simpa using this
  have KJx : Blk wx w7.heap.size 86 #[.int .i64 J.Id, .int .i64 J.Due, .int .i64 J.Key, .int .i64 J.Value, .int .i64 J.Fired] := by rw [hWx]; exact KJ9.far (by show _ ≠ w3.heap.size; omega) _
  have gjx : OwnI w8.heap.size 86 5 wx (.slice ua un uc) (flJob (fireR s.Jobs oa ei)) := by rw [hWx]; exact gj.keep ((Chg.refl _ _).setLow oM _)
  have KSx := KS1.ext XGx; have KEx := KE1.ext XGx; have KRx := KR1.ext XGx
  have hzx : w9.heap.size = wx.heap.size := by rw [hWx]; simp
  have Ex := E1.trans XGx
  clear hWx CS9 FS9 LS9 CE9 FE9 LE9 CR9 FR9 LR9 CO9 FO9 LO9 CJ9 LJ9
  have CSx := KSx.cell; have FSx := KSx.frozen; have LSx := KSx.lt; have CEx := KEx.cell; have FEx := KEx.frozen; have LEx := KEx.lt; have CRx := KRx.cell; have FRx := KRx.frozen; have LRx := KRx.lt; have COx := KOx.cell; have FOx := KOx.frozen; have LOx := KOx.lt
  have CJx := KJx.cell; have LJx := KJx.lt
  go_wp2_with fail
  refine (sPut_c _ _ s.Pairs J.Key J.Value (H2.out.ext Ex)).mono ?_
  rintro e9 wy ⟨_, rfl, hxy, u9, rfl, gp⟩
  obtain ⟨va, vn, vc, rfl⟩ := gp.shape
  have gjy := Own.ext gjx hxy
  have gjy : OwnI w8.heap.size 86 5 wy (.slice ua un uc) (flJob (fireR s.Jobs oa ei)) := gjy
  clear CSx FSx LSx CEx FEx LEx CRx FRx LRx COx FOx LOx CJx LJx
  have CHy : Chg w2.heap.size w3 wy := CHx.ext hxy
  have Ey := Ex.trans hxy
  have hzy := hxy.size
  have KSy := KSx.ext hxy; have KEy := KEx.ext hxy; have KRy := KRx.ext hxy; have KOy := KOx.ext hxy
  have CSy := KSy.cell; have FSy := KSy.frozen; have LSy := KSy.lt; have CEy := KEy.cell; have FEy := KEy.frozen; have LEy := KEy.lt; have CRy := KRy.cell; have FRy := KRy.frozen; have LRy := KRy.lt; have COy := KOy.cell; have FOy := KOy.frozen; have LOy := KOy.lt
  go_wp2_with fail
  refine bodyPost_ret (by simp [results, Tryz.results79, go_sem, CRy, FRy, LRy]; try rfl) rfl ?_
  refine ⟨_, rfl, xT, _, by (rw [HA1.out]; try rfl), ?_⟩
  rw [HA3.out]
  exact ⟨_, _, rfl, (gp.keep chgT).mono oM, (gjy.keep chgT).mono oM⟩
 go_wp2_with fail
 obtain ⟨w6, hW6⟩ : ∃ w6, w6 = (w5.setCell ⟨w3.heap.size, 0, none⟩ (.int .i64 ei)).setCell ⟨w3.heap.size, 1, none⟩ (.int .i64 et) := ⟨_, rfl⟩
 rw [← hW6]
 have hg2 : W1.heap.size ≤ w3.heap.size := by omega
 have XG6 : Ext W1 w6 := by rw [hW6]; exact (X15.setCell hg2 _).setCell hg2 _
 have CH6 : Chg w2.heap.size w3 w6 := by rw [hW6]; exact (CH5.setNew (Nat.le_refl _) _).setNew (Nat.le_refl _) _
 have KO6 : Blk w6 w3.heap.size 62 #[.int .i64 ei, .int .i64 et, .slice c2 m4 j4, .slice c3 m5 j5, .int .i64 s.Lease.Holder, .int .i64 s.Lease.Epoch, .int .i64 s.Lease.Until] := by rw [hW6]; have := (KO5.set_ 0 (.int .i64 ei)).set_ 1 (.int .i64 et); simpa using this
 have KS6 := KS1.ext XG6; have KE6 := KE1.ext XG6; have KR6 := KR1.ext XG6
 have hz6 : w5.heap.size = w6.heap.size := by rw [hW6]; simp
 have E6 := E1.trans XG6
 have hlo := KO6.lt
 clear hW6
 clear CS5 FS5 LS5 CE5 FE5 LE5 CR5 FR5 LR5 CO5 FO5 LO5
 have HA3 := Lib.hid (HA2.out.trans (step_lease rfl))
 clear HA2
 simp only [] at HA3
 have hl : (⟨s.Lease.Holder, s.Lease.Epoch, s.Lease.Until⟩ : DLease) = s.Lease := rfl
 refine (sGranted_e _ _ _ _ ec et oa).mono ?_
 rintro e9 w7 ⟨rfl, hx7⟩
 rw [hl]
 obtain ⟨gl, hgl⟩ : ∃ gl, gl = grantR s.Lease ec et oa := ⟨_, rfl⟩
 rw [← hgl] at HA3 ⊢
 clear hgl hl
 have CH7 : Chg w2.heap.size w3 w7 := CH6.ext hx7
 have E7 := E6.trans hx7
 have hz7 := hx7.size
 have KS7 := KS6.ext hx7; have KE7 := KE6.ext hx7; have KR7 := KR6.ext hx7; have KO7 := KO6.ext hx7
 have CS7 := KS7.cell; have FS7 := KS7.frozen; have LS7 := KS7.lt; have CE7 := KE7.cell; have FE7 := KE7.frozen; have LE7 := KE7.lt; have CR7 := KR7.cell; have FR7 := KR7.frozen; have LR7 := KR7.lt; have CO7 := KO7.cell; have FO7 := KO7.frozen; have LO7 := KO7.lt
 go_wp2_with fail
 refine bodyPost_ret (by simp [results, Tryz.results79, go_sem, CR7, FR7, LR7]; try rfl) rfl ?_
 refine ⟨_, rfl, xT, _, by (rw [HA1.out]; try rfl), ?_⟩
 rw [HA3.out]
 exact ⟨_, _, rfl, (g2.keep chgT).mono oM, (g3.keep chgT).mono oM⟩
end Go.Proofs.YtfhaooaajpopmaaGreat
