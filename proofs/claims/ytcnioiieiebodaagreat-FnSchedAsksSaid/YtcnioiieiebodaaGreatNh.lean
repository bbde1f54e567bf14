/- Contracts and plain laws: SN2 SNi. -/
import Derived.Test.YtcnioiieiebodaaGreatMa
import Derived.Test.YtcnioiieiebodaaGreatNg
import Derived.Test.YtcnioiieiebodaaGreatMo
import Derived.Test.YtcnioiieiebodaaGreatMd
import Derived.Test.YtcnioiieiebodaaGreatMx
set_option linter.unusedSimpArgs false
set_option linter.unusedVariables false
-- Rows of polls and asks (the program).
set_option linter.unusedSimpArgs false
set_option linter.unusedVariables false
namespace Go.Proofs.YtcnioiieiebodaaGreat
open Go.RowKit Go.G8

set_option maxHeartbeats 4000000 in
set_option maxRecDepth 100000 in
theorem kindOf_poll (w : World) (i : Int) : Calls Tryz.prog 139 #[.iface 127 (.int .i64 i)] w (RetV w (.int .i64 8)) := by
 have t0 : ∀ w : World, (Instr.typeAssert (.iface 127 (.int .i64 i)) 166 45 true).run Tryz.prog w = .ok (.tuple #[.agg #[.int .i64 0, .int .i64 0, .int .i64 0, .int .i64 0, .int .i64 0, .int .i64 0, .int .i64 0], .bool false]) w := fun _ => by kernel_rfl
 have t1 : ∀ w : World, (Instr.typeAssert (.iface 127 (.int .i64 i)) 166 34 true).run Tryz.prog w = .ok (.tuple #[.agg #[.int .i64 0, .int .i64 0, .int .i64 0, .int .i64 0], .bool false]) w := fun _ => by kernel_rfl
 have t2 : ∀ w : World, (Instr.typeAssert (.iface 127 (.int .i64 i)) 166 193 true).run Tryz.prog w = .ok (.tuple #[.int .i64 0, .bool false]) w := fun _ => by kernel_rfl
 have t3 : ∀ w : World, (Instr.typeAssert (.iface 127 (.int .i64 i)) 166 68 true).run Tryz.prog w = .ok (.tuple #[.agg #[.int .i64 0, .int .i64 0, .slice none 0 0], .bool false]) w := fun _ => by kernel_rfl
 have t4 : ∀ w : World, (Instr.typeAssert (.iface 127 (.int .i64 i)) 166 194 true).run Tryz.prog w = .ok (.tuple #[.int .i64 0, .bool false]) w := fun _ => by kernel_rfl
 have t5 : ∀ w : World, (Instr.typeAssert (.iface 127 (.int .i64 i)) 166 196 true).run Tryz.prog w = .ok (.tuple #[.agg #[.int .i64 0, .int .i64 0, .int .i64 0, .int .i64 0], .bool false]) w := fun _ => by kernel_rfl
 have t6 : ∀ w : World, (Instr.typeAssert (.iface 127 (.int .i64 i)) 166 198 true).run Tryz.prog w = .ok (.tuple #[.agg #[.int .i64 0, .int .i64 0, .int .i64 0, .int .i64 0, .int .i64 0], .bool false]) w := fun _ => by kernel_rfl
 have t7 : ∀ w : World, (Instr.typeAssert (.iface 127 (.int .i64 i)) 166 127 true).run Tryz.prog w = .ok (.tuple #[.int .i64 i, .bool true]) w := fun _ => by kernel_rfl
 go_enter Tryz.func139, Tryz.ntmps139
 go_wp2_with fail
 go_ret
 exact ⟨rfl, by exact extT⟩
set_option maxHeartbeats 4000000 in
set_option maxRecDepth 100000 in
theorem valid_poll (w : World) (i : Int) : Calls Tryz.prog 285 #[.int .i64 i] w (RetV w (.bool (schedOk i))) := by
 have E0 : Ext w w := Ext.refl _
 go_enter Tryz.func285, Tryz.ntmps285
 go_wp2_with fail
 refine (schedOk_cP _ i).mono ?_
 rintro e9 w9 ⟨rfl, rfl⟩
 go_wp2_with fail
 go_ret
 exact ⟨by first | rfl | (simp [*]; done), by exact extT⟩
set_option maxHeartbeats 4000000 in
set_option maxRecDepth 100000 in
theorem fields_poll (w : World) (i : Int) : Calls Tryz.prog 284 #[.int .i64 i] w (Ret w fun r w' => OwnI w.heap.size 2 1 w' r [i]) := by
 have E0 : Ext w w := Ext.refl _
 go_enter Tryz.func284, Tryz.ntmps284
 go_wp2_with fail
 go_ret
 exact ⟨_, rfl, by exact extT, (show OwnI _ 2 1 _ _ [i] from OwnI.lit _ 2 [i] (by simp)).mono (by first | omega | (simp; done) | (simp; omega) | (simp only [szA]; omega))⟩
set_option maxHeartbeats 4000000 in
set_option maxRecDepth 100000 in
theorem encoded_poll (w : World) (i : Int) (h : schedOk i = true) : Calls Tryz.prog 99 #[.iface 127 (.int .i64 i)] w (Ret w fun r w' => OwnI w.heap.size 2 1 w' r (pollL i)) := by
 obtain ⟨i0, qi, qy0, qy1, qy2⟩ := info_parts info_Int64
 have H := Lib.hid h; clear h
 have m_valid : ∀ w : World, (method 166 127 (.int .i64 i) "loop.example/g00851/impl.valid").run Tryz.prog w = .ok (285, .int .i64 i) w := fun _ => by kernel_rfl
 have m_fields : ∀ w : World, (method 166 127 (.int .i64 i) "loop.example/g00851/impl.fields").run Tryz.prog w = .ok (284, .int .i64 i) w := fun _ => by kernel_rfl
 have E0 : Ext w w := Ext.refl _
 go_enter Tryz.func99, Tryz.ntmps99
 go_wp2_with fail
 refine (valid_poll _ i).mono ?_
 rintro e w1 ⟨rfl, hx1⟩
 have X1 : Ext w w1 := Ext.trans (by exact extT) hx1
 have hz1 := X1.size
 have hy1 := hx1.size; (try simp only [szA] at hy1)
 have E1 : Ext w w1 := E0.trans X1
 clear hx1 X1
 rw [H.out]
 go_wp2_with fail
 refine (kindOf_poll _ i).mono ?_
 rintro e w2 ⟨rfl, hx2⟩
 have X2 : Ext w1 w2 := Ext.trans (by exact extT) hx2
 have hz2 := X2.size
 have hy2 := hx2.size; (try simp only [szA] at hy2)
 have E2 : Ext w w2 := E1.trans X2
 clear hx2 X2 E1
 go_wp2_with fail
 refine (fields_poll _ i).mono ?_
 rintro e w3 ⟨_, rfl, hx3, Of⟩
 have Ol : OwnI w.heap.size 2 1 w3 (.slice (some ⟨w2.heap.size, 0, none⟩) 1 1) [8] := OwnI.ext1 (OwnI.mono (OwnI.lit _ 2 [8] (by simp)) (by first | omega | (simp; done) | (simp; omega) | (simp only [szA]; omega))) hx3
 have E3 : Ext w w3 := Ext.trans (by exact extT) hx3; have hz3 := E3.size
 obtain ⟨af, nf, kf, rfl⟩ := Of.shape
 go_wp2_with (first | (at_builtin; go_loud (refine wp_appendU rfl (.tmp 8) (.tmp 10) 79 (by rfl) 2 i0 _ 1 8 Tryz.underlying79 qi qy0 qy1 qy2 rfl (by decide) w.heap.size _ _ (by rfl) Ol _ _ (by rfl) Of.ints 1000 (by simp) (by omega) (by omega) (by first | omega | (simp; done) | (simp; omega) | (simp only [szA]; omega)) ?_; rotate_right; intro vv w9 On h3)))
 go_ret
 exact ⟨_, rfl, Ext.own E3 Ol (by omega) h3, On⟩
set_option maxHeartbeats 4000000 in
set_option maxRecDepth 100000 in
theorem pollRow_k (w : World) (i : Int) (h : schedOk i = true) : Calls Tryz.prog 56 #[.int .i64 i] w (Ret w fun r w' => OwnI w.heap.size 2 1 w' r (pollL i)) := by
 have E0 : Ext w w := Ext.refl _
 go_enter Tryz.func56, Tryz.ntmps56
 go_wp2_with fail
 refine (encoded_poll _ i h).mono ?_
 rintro e w1 ⟨_, rfl, hx1, Of⟩
 have X1 : Ext w w1 := Ext.trans (by exact extT) hx1
 have hz1 := X1.size
 have hy1 := hx1.size; (try simp only [szA] at hy1)
 have E1 : Ext w w1 := E0.trans X1
 clear hx1 X1
 go_wp2_with fail
 go_ret
 exact ⟨_, rfl, by exact extT, Of.mono (by first | omega | (simp; done) | (simp; omega) | (simp only [szA]; omega))⟩
set_option maxHeartbeats 4000000 in
set_option maxRecDepth 100000 in
theorem kindOf_Ask (w : World) (i q k a b c d : Int) : Calls Tryz.prog 139 #[.iface 45 (.agg #[.int .i64 i, .int .i64 q, .int .i64 k, .int .i64 a, .int .i64 b, .int .i64 c, .int .i64 d])] w (RetV w (.int .i64 1)) := by
 have t0 : ∀ w : World, (Instr.typeAssert (.iface 45 (.agg #[.int .i64 i, .int .i64 q, .int .i64 k, .int .i64 a, .int .i64 b, .int .i64 c, .int .i64 d])) 166 45 true).run Tryz.prog w = .ok (.tuple #[.agg #[.int .i64 i, .int .i64 q, .int .i64 k, .int .i64 a, .int .i64 b, .int .i64 c, .int .i64 d], .bool true]) w := fun _ => by kernel_rfl
 go_enter Tryz.func139, Tryz.ntmps139
 go_wp2_with fail
 go_ret
 exact ⟨rfl, by exact extT⟩
set_option maxHeartbeats 4000000 in
set_option maxRecDepth 100000 in
theorem valid_Ask (w : World) (i q k a b c d : Int) : Calls Tryz.prog 276 #[.agg #[.int .i64 i, .int .i64 q, .int .i64 k, .int .i64 a, .int .i64 b, .int .i64 c, .int .i64 d]] w (RetV w (.bool (askOk (⟨i, q, ⟨k, a, b, c, d⟩⟩ : DAsk)))) := by
 have E0 : Ext w w := Ext.refl _
 go_enter Tryz.func276, Tryz.ntmps276
 go_wp2_with fail
 refine (askOk_k _ i q k a b c d).mono ?_
 rintro e w1 ⟨rfl, hx1⟩
 have X1 : Ext w w1 := Ext.trans (by exact extT) hx1
 have hz1 := X1.size
 have hy1 := hx1.size; (try simp only [szA] at hy1)
 have KA1 : Blk w1 w.heap.size 45 #[.int .i64 i, .int .i64 q, .int .i64 k, .int .i64 a, .int .i64 b, .int .i64 c, .int .i64 d] := Blk.ext (Blk.cast (by exact blkT) setsT) hx1
 have E1 : Ext w w1 := E0.trans X1
 clear hx1 X1
 have CA1 := KA1.cell; have FA1 := KA1.frozen; have LA1 := KA1.lt
 go_wp2_with fail
 go_ret
 exact ⟨by first | rfl | (simp [*]; done), by exact extT⟩
set_option maxHeartbeats 4000000 in
set_option maxRecDepth 100000 in
theorem fields_Ask (w : World) (i q k a b c d : Int) : Calls Tryz.prog 275 #[.agg #[.int .i64 i, .int .i64 q, .int .i64 k, .int .i64 a, .int .i64 b, .int .i64 c, .int .i64 d]] w (Ret w fun r w' => OwnI w.heap.size 2 1 w' r ([i, q] ++ [k, a, b, c, d])) := by
 obtain ⟨i0, qi, qy0, qy1, qy2⟩ := info_parts info_Int64
 have E0 : Ext w w := Ext.refl _
 go_enter Tryz.func275, Tryz.ntmps275
 go_wp2_with fail
 have KA0 : Blk (w.alloc (.cells #[.int .i64 i, .int .i64 q, .int .i64 k, .int .i64 a, .int .i64 b, .int .i64 c, .int .i64 d] 45)) w.heap.size 45 #[.int .i64 i, .int .i64 q, .int .i64 k, .int .i64 a, .int .i64 b, .int .i64 c, .int .i64 d] := Blk.new _ _ _
 obtain ⟨w1, hw1⟩ : ∃ w1, w1 = w.alloc (.cells #[.int .i64 i, .int .i64 q, .int .i64 k, .int .i64 a, .int .i64 b, .int .i64 c, .int .i64 d] 45) := ⟨_, rfl⟩
 rw [← hw1] at KA0 ⊢
 have hx1 : Ext w w1 := by rw [hw1]; exact extT
 clear hw1
 have KA1 := KA0; clear KA0; have hz1 := hx1.size; have E1 := hx1; clear hx1
 have LA9 := KA1.lt
 have CA1 := KA1.cell; have FA1 := KA1.frozen; have LA1 := KA1.lt
 refine wp_region_held_drew (S := fun w' => Ext w1 w') (by kernel_rfl) (by (try dsimp only); first | exact Ext.drew (Ext.refl _) | exact extT) (fun hHeld => ?_)
 refine wpAnyH_take (i := 0) (v := ?_) rfl (by kernel_rfl) (by kernel_rfl) (by kernel_rfl) (fun _ _ _ h => h) (Or.inl ⟨by rfl, ?_⟩) (by assumption) ?_
 rotate_left
 focus (intro w hSw; (try dsimp only at hSw); go_simp <;> with_reducible rfl)
 (try simp only [redA, Act.put])
 refine wpAnyH_take (i := 1) (v := ?_) rfl (by kernel_rfl) (by kernel_rfl) (by kernel_rfl) (fun _ _ _ h => h) (Or.inl ⟨by rfl, ?_⟩) (by assumption) ?_
 rotate_left
 focus (intro w hSw; (try dsimp only at hSw); have hq := (KA1.ext hSw).cell; have hq2 := (KA1.ext hSw).lt; go_simp <;> with_reducible rfl)
 (try simp only [redA, Act.put])
 refine wpAnyH_take (i := 2) (v := ?_) rfl (by kernel_rfl) (by kernel_rfl) (by kernel_rfl) (fun _ _ _ h => h) (Or.inl ⟨by rfl, ?_⟩) (by assumption) ?_
 rotate_left
 focus (intro w hSw; (try dsimp only at hSw); go_simp <;> with_reducible rfl)
 (try simp only [redA, Act.put])
 refine wpAnyH_take (i := 3) (v := ?_) rfl (by kernel_rfl) (by kernel_rfl) (by kernel_rfl) (fun _ _ _ h => h) (Or.inl ⟨by rfl, ?_⟩) (by assumption) ?_
 rotate_left
 focus (intro w hSw; (try dsimp only at hSw); have hq := (KA1.ext hSw).cell; have hq2 := (KA1.ext hSw).lt; go_simp <;> with_reducible rfl)
 (try simp only [redA, Act.put])
 refine wpAnyH_take (i := 5) (v := ?_) rfl (by kernel_rfl) (by kernel_rfl) (by kernel_rfl) (fun _ _ _ h => h) (Or.inl ⟨by rfl, ?_⟩) (by assumption) ?_
 rotate_left
 focus (intro w hSw; (try dsimp only at hSw); go_simp <;> with_reducible rfl)
 (try simp only [redA, Act.put])
 refine wpAnyH_take (i := 6) (v := ?_) rfl (by kernel_rfl) (by kernel_rfl) (by kernel_rfl) (fun _ _ _ h => h) (Or.inl ⟨by rfl, ?_⟩) (by assumption) ?_
 rotate_left
 focus (intro w hSw; (try dsimp only at hSw); have hq := (KA1.ext hSw).cell; have hq2 := (KA1.ext hSw).lt; go_simp <;> with_reducible rfl)
 (try simp only [redA, Act.put])
 refine wpAnyH_ready (rs := [4, 7]) (by kernel_rfl) (by simp) ?_
 refine AllReadyH.cons rfl (fun Kz hKz => ?_) (AllReadyH.cons rfl (fun Kz hKz => ?_) AllReadyH.nil)
 ·
  skip
  (try simp only [redA])
  go_simp
  refine hKz.out _ _ (by (try dsimp only); exact extT) (fun hHeld => ?_)
  clear hKz Kz
  (try simp only [redA, Act.put])
  refine wpAnyH_ready (rs := [7]) (by kernel_rfl) (by simp) ?_
  refine AllReadyH.cons rfl (fun Kz hKz => ?_) AllReadyH.nil
  (try simp only [redA])
  go_simp
  go_at_call 272
  refine (numbers_k _ k a b c d).mono ?_
  rintro e w2 ⟨_, rfl, hx2, Or⟩
  have X2 : Ext w1 w2 := Ext.trans (by exact extT) hx2; have hz2 := X2.size; have hv2 := hx2.size; (try simp only [szA] at hv2)
  have Ol0 : OwnI w1.heap.size 2 1 (w1.alloc (.cells #[.int .i64 i, .int .i64 q] 2)) (.slice (some ⟨w1.heap.size, 0, none⟩) 2 2) [i, q] := OwnI.mono (OwnI.lit w1 2 [i, q] (by simp)) (by omega)
  have Ol := OwnI.ext1 Ol0 (Ext.trans (by exact extT) hx2); clear Ol0
  replace Or := OwnI.mono (B' := w.heap.size) Or (by first | omega | (simp; done) | (simp; omega) | (simp only [szA]; omega))
  clear hx2
  refine hKz.out _ _ (by (try dsimp only); exact extT) (fun hHeld => ?_)
  clear hKz Kz
  (try simp only [redA, Act.put])
  refine wpAnyH_ready (rs := [8]) (by kernel_rfl) (by simp) ?_
  refine AllReadyH.cons rfl (fun Kz hKz => ?_) AllReadyH.nil
  (try simp only [redA])
  rw [if_pos (by rfl)]; refine wp_appendI (.tmp 7) (.tmp 10) 79 (by rfl) 2 i0 _ 8 Tryz.underlying79 qi qy0 qy1 qy2 rfl w1.heap.size w.heap.size _ _ [i, q] [k, a, b, c, d] (by rfl) ?_ (by rfl) ?_ (by simp) 1000 (by simp) (by unfold maxLen; omega) (by omega) (by first | omega | (simp; done) | (simp; omega) | (simp only [szA]; omega)) ?_
  rotate_right
  case refine_1 => exact OwnI.ext1 Ol (by exact extT)
  case refine_2 => exact OwnI.ext1 Or (by exact extT)
  intro vv w3 On hxa
  have X3 : Ext w1 w3 := hxa _ (by exact extT) (by first | omega | (simp; done) | (simp; omega) | (simp only [szA]; omega)); have hz3 := X3.size; clear hxa
  refine hKz.out _ _ (by (try dsimp only); exact extT) (fun hHeld => ?_)
  clear hKz Kz
  (try simp only [redA, Act.put])
  refine wpAnyH_ready (rs := [9]) (by kernel_rfl) (by simp) ?_
  refine AllReadyH.cons rfl (fun Kz hKz => ?_) AllReadyH.nil
  (try simp only [redA])
  go_simp
  refine hKz.out _ _ (by (try dsimp only); exact extT) (fun hHeld => ?_)
  clear hKz Kz
  (try simp only [redA, Act.put])
  refine wpAnyH_done (by kernel_rfl) ?_ _
  have X39 := X3
  have hz3 := X3.size
  have KA3 : Blk w3 w.heap.size 45 #[.int .i64 i, .int .i64 q, .int .i64 k, .int .i64 a, .int .i64 b, .int .i64 c, .int .i64 d] := Blk.ext KA1 X3
  have E3 : Ext w w3 := E1.trans X3
  clear CA1 FA1 LA1
  have CA3 := KA3.cell; have FA3 := KA3.frozen; have LA3 := KA3.lt
  go_wp2_with fail
  go_ret
  exact ⟨_, rfl, by exact extT, On.mono (by first | omega | (simp; done) | (simp; omega) | (simp only [szA]; omega))⟩
 ·
  skip
  (try simp only [redA])
  go_simp
  go_at_call 272
  refine (numbers_k _ k a b c d).mono ?_
  rintro e w2 ⟨_, rfl, hx2, Or⟩
  have X2 : Ext w1 w2 := Ext.trans (by exact extT) hx2; have hz2 := X2.size; have hv2 := hx2.size; (try simp only [szA] at hv2)
  replace Or := OwnI.mono (B' := w.heap.size) Or (by first | omega | (simp; done) | (simp; omega) | (simp only [szA]; omega))
  clear hx2
  refine hKz.out _ _ (by (try dsimp only); exact extT) (fun hHeld => ?_)
  clear hKz Kz
  (try simp only [redA, Act.put])
  refine wpAnyH_ready (rs := [4]) (by kernel_rfl) (by simp) ?_
  refine AllReadyH.cons rfl (fun Kz hKz => ?_) AllReadyH.nil
  (try simp only [redA])
  go_simp
  refine hKz.out _ _ (by (try dsimp only); exact extT) (fun hHeld => ?_)
  clear hKz Kz
  (try simp only [redA, Act.put])
  refine wpAnyH_ready (rs := [8]) (by kernel_rfl) (by simp) ?_
  refine AllReadyH.cons rfl (fun Kz hKz => ?_) AllReadyH.nil
  (try simp only [redA])
  have Ol : OwnI w1.heap.size 2 1 (w2.alloc (.cells #[.int .i64 i, .int .i64 q] 2)) (.slice (some ⟨w2.heap.size, 0, none⟩) 2 2) [i, q] := OwnI.mono (OwnI.lit w2 2 [i, q] (by simp)) (by omega)
  rw [if_pos (by rfl)]; refine wp_appendI (.tmp 7) (.tmp 10) 79 (by rfl) 2 i0 _ 8 Tryz.underlying79 qi qy0 qy1 qy2 rfl w1.heap.size w.heap.size _ _ [i, q] [k, a, b, c, d] (by rfl) ?_ (by rfl) ?_ (by simp) 1000 (by simp) (by unfold maxLen; omega) (by omega) (by first | omega | (simp; done) | (simp; omega) | (simp only [szA]; omega)) ?_
  rotate_right
  case refine_1 => exact OwnI.ext1 Ol (by exact extT)
  case refine_2 => exact OwnI.ext1 Or (by exact extT)
  intro vv w3 On hxa
  have X3 : Ext w1 w3 := hxa _ (by exact extT) (by first | omega | (simp; done) | (simp; omega) | (simp only [szA]; omega)); have hz3 := X3.size; clear hxa
  refine hKz.out _ _ (by (try dsimp only); exact extT) (fun hHeld => ?_)
  clear hKz Kz
  (try simp only [redA, Act.put])
  refine wpAnyH_ready (rs := [9]) (by kernel_rfl) (by simp) ?_
  refine AllReadyH.cons rfl (fun Kz hKz => ?_) AllReadyH.nil
  (try simp only [redA])
  go_simp
  refine hKz.out _ _ (by (try dsimp only); exact extT) (fun hHeld => ?_)
  clear hKz Kz
  (try simp only [redA, Act.put])
  refine wpAnyH_done (by kernel_rfl) ?_ _
  have X39 := X3
  have hz3 := X3.size
  have KA3 : Blk w3 w.heap.size 45 #[.int .i64 i, .int .i64 q, .int .i64 k, .int .i64 a, .int .i64 b, .int .i64 c, .int .i64 d] := Blk.ext KA1 X3
  have E3 : Ext w w3 := E1.trans X3
  clear CA1 FA1 LA1
  have CA3 := KA3.cell; have FA3 := KA3.frozen; have LA3 := KA3.lt
  go_wp2_with fail
  go_ret
  exact ⟨_, rfl, by exact extT, On.mono (by first | omega | (simp; done) | (simp; omega) | (simp only [szA]; omega))⟩
set_option maxHeartbeats 4000000 in
set_option maxRecDepth 100000 in
theorem encoded_Ask (w : World) (i q k a b c d : Int) (h : askOk (⟨i, q, ⟨k, a, b, c, d⟩⟩ : DAsk) = true) : Calls Tryz.prog 99 #[.iface 45 (.agg #[.int .i64 i, .int .i64 q, .int .i64 k, .int .i64 a, .int .i64 b, .int .i64 c, .int .i64 d])] w (Ret w fun r w' => OwnI w.heap.size 2 1 w' r (askL (⟨i, q, ⟨k, a, b, c, d⟩⟩ : DAsk))) := by
 obtain ⟨i0, qi, qy0, qy1, qy2⟩ := info_parts info_Int64
 have H := Lib.hid h; clear h
 have m_valid : ∀ w : World, (method 166 45 (.agg #[.int .i64 i, .int .i64 q, .int .i64 k, .int .i64 a, .int .i64 b, .int .i64 c, .int .i64 d]) "loop.example/g00851/impl.valid").run Tryz.prog w = .ok (276, .agg #[.int .i64 i, .int .i64 q, .int .i64 k, .int .i64 a, .int .i64 b, .int .i64 c, .int .i64 d]) w := fun _ => by kernel_rfl
 have m_fields : ∀ w : World, (method 166 45 (.agg #[.int .i64 i, .int .i64 q, .int .i64 k, .int .i64 a, .int .i64 b, .int .i64 c, .int .i64 d]) "loop.example/g00851/impl.fields").run Tryz.prog w = .ok (275, .agg #[.int .i64 i, .int .i64 q, .int .i64 k, .int .i64 a, .int .i64 b, .int .i64 c, .int .i64 d]) w := fun _ => by kernel_rfl
 have E0 : Ext w w := Ext.refl _
 go_enter Tryz.func99, Tryz.ntmps99
 go_wp2_with fail
 refine (valid_Ask _ i q k a b c d).mono ?_
 rintro e w1 ⟨rfl, hx1⟩
 have X1 : Ext w w1 := Ext.trans (by exact extT) hx1
 have hz1 := X1.size
 have hy1 := hx1.size; (try simp only [szA] at hy1)
 have E1 : Ext w w1 := E0.trans X1
 clear hx1 X1
 rw [H.out]
 go_wp2_with fail
 refine (kindOf_Ask _ i q k a b c d).mono ?_
 rintro e w2 ⟨rfl, hx2⟩
 have X2 : Ext w1 w2 := Ext.trans (by exact extT) hx2
 have hz2 := X2.size
 have hy2 := hx2.size; (try simp only [szA] at hy2)
 have E2 : Ext w w2 := E1.trans X2
 clear hx2 X2 E1
 go_wp2_with fail
 refine (fields_Ask _ i q k a b c d).mono ?_
 rintro e w3 ⟨_, rfl, hx3, Of⟩
 have Ol : OwnI w.heap.size 2 1 w3 (.slice (some ⟨w2.heap.size, 0, none⟩) 1 1) [1] := OwnI.ext1 (OwnI.mono (OwnI.lit _ 2 [1] (by simp)) (by first | omega | (simp; done) | (simp; omega) | (simp only [szA]; omega))) hx3
 have E3 : Ext w w3 := Ext.trans (by exact extT) hx3; have hz3 := E3.size
 obtain ⟨af, nf, kf, rfl⟩ := Of.shape
 go_wp2_with (first | (at_builtin; go_loud (refine wp_appendU rfl (.tmp 8) (.tmp 10) 79 (by rfl) 2 i0 _ 1 8 Tryz.underlying79 qi qy0 qy1 qy2 rfl (by decide) w.heap.size _ _ (by rfl) Ol _ _ (by rfl) Of.ints 1000 (by simp) (by omega) (by omega) (by first | omega | (simp; done) | (simp; omega) | (simp only [szA]; omega)) ?_; rotate_right; intro vv w9 On h3)))
 go_ret
 exact ⟨_, rfl, Ext.own E3 Ol (by omega) h3, On⟩
set_option maxHeartbeats 4000000 in
set_option maxRecDepth 100000 in
theorem askRow_k (w : World) (i q k a b c d : Int) (h : askOk (⟨i, q, ⟨k, a, b, c, d⟩⟩ : DAsk) = true) : Calls Tryz.prog 57 #[.agg #[.int .i64 i, .int .i64 q, .int .i64 k, .int .i64 a, .int .i64 b, .int .i64 c, .int .i64 d]] w (Ret w fun r w' => OwnI w.heap.size 2 1 w' r (askL (⟨i, q, ⟨k, a, b, c, d⟩⟩ : DAsk))) := by
 have E0 : Ext w w := Ext.refl _
 go_enter Tryz.func57, Tryz.ntmps57
 go_wp2_with fail
 refine (encoded_Ask _ i q k a b c d h).mono ?_
 rintro e w1 ⟨_, rfl, hx1, Of⟩
 have X1 : Ext w w1 := Ext.trans (by exact extT) hx1
 have hz1 := X1.size
 have hy1 := hx1.size; (try simp only [szA] at hy1)
 have KA1 : Blk w1 w.heap.size 45 #[.int .i64 i, .int .i64 q, .int .i64 k, .int .i64 a, .int .i64 b, .int .i64 c, .int .i64 d] := Blk.ext (Blk.cast (by exact blkT) setsT) hx1
 have E1 : Ext w w1 := E0.trans X1
 clear hx1 X1
 have CA1 := KA1.cell; have FA1 := KA1.frozen; have LA1 := KA1.lt
 go_wp2_with fail
 go_ret
 exact ⟨_, rfl, by exact extT, Of.mono (by first | omega | (simp; done) | (simp; omega) | (simp only [szA]; omega))⟩

end Go.Proofs.YtcnioiieiebodaaGreat

-- SendsOf (impl.SendsOf).
set_option linter.unusedSimpArgs false
set_option linter.unusedVariables false
namespace Go.Proofs.YtcnioiieiebodaaGreat
open Go.RowKit Go.G8

theorem askBy_k {w : World} {v : Value} {s : DSched} (h : RdSched w v s) : Calls Tryz.prog 17 #[v] w (RetV w (.tuple #[.agg #[.int .i64 (askBy s).Client, .int .i64 (askBy s).Seq, .int .i64 (askBy s).Op.Kind, .int .i64 (askBy s).Op.A, .int .i64 (askBy s).Op.B, .int .i64 (askBy s).Op.C, .int .i64 (askBy s).Op.D], .bool (askByB s)])) := by
 obtain ⟨t2, rfl, h2⟩ := h
 refine (askBy_c w _ _ _ _ _ _ _ t2 _ _ _ _ _ _ _ _ h2).mono ?_
 rintro e w' ⟨_, rfl, hx, r0, z1, rfl, g, rfl⟩
 unfold IsAsk at g
 subst g
 exact ⟨rfl, hx⟩
set_option maxHeartbeats 4000000 in
set_option maxRecDepth 100000 in
theorem sendsOf_k_bad {w : World} {v : Value} {s : DSched} (h : RdSched w v s) (hb : schedOkS s = false) : Calls Tryz.prog 18 #[v] w (Ret w fun r w' => ∃ F, OwMsgs w.heap.size w' r (sendsL s) F) := by
 obtain ⟨a7, n7, k7, rfl⟩ := h.shape
 obtain ⟨bz, hbz⟩ : ∃ b : Bool, s.Busy = b := ⟨_, rfl⟩
 rw [hbz] at h ⊢
 have HB := Lib.hid hbz; clear hbz
 have hb0 := hb; have Hb := Lib.hid hb; clear hb
 obtain ⟨i0, qi, qy0, qy1, qy2⟩ := info_parts info_Msg
 have E0 : Ext w w := Ext.refl _
 go_enter Tryz.func18, Tryz.ntmps18
 go_wp2_with fail
 refine (schedOk_kS (h.ext (by exact extT))).mono ?_
 rintro e w1 ⟨rfl, hx1⟩
 have X1 : Ext w w1 := Ext.trans (by exact extT) hx1
 have hz1 := X1.size
 have hy1 := hx1.size; (try simp only [szA] at hy1)
 have KS1 : Blk w1 w.heap.size 32 #[.int .i64 s.Id, .int .i64 s.Seq, .int .i64 s.View.Jobs.Index, .int .i64 s.View.Jobs.Time, .int .i64 s.View.Jobs.Holder, .int .i64 s.View.Jobs.Epoch, .int .i64 s.View.Jobs.Until, .slice a7 n7 k7, .bool bz, .int .i64 s.Op.Kind, .int .i64 s.Op.A, .int .i64 s.Op.B, .int .i64 s.Op.C, .int .i64 s.Op.D, .int .i64 s.Index] := Blk.ext (Blk.cast (by exact blkT) setsT) hx1
 have E1 : Ext w w1 := E0.trans X1
 clear hx1 X1
 have CS1 := KS1.cell; have FS1 := KS1.frozen; have LS1 := KS1.lt
 rw [hb0]; clear hb0
 go_wp2_with fail
 go_ret
 rw [sends_bad Hb.out]
 exact ⟨_, rfl, by exact extT, OwMsgs.of (OwnNest.nil _ _ _ _ _)⟩
set_option maxHeartbeats 4000000 in
set_option maxRecDepth 100000 in
theorem sendsOf_k_idle {w : World} {v : Value} {s : DSched} (h : RdSched w v s) (hb : schedOkS s = true) (hbz : s.Busy = false) : Calls Tryz.prog 18 #[v] w (Ret w fun r w' => ∃ F, OwMsgs w.heap.size w' r (sendsL s) F) := by
 obtain ⟨a7, n7, k7, rfl⟩ := h.shape
 rw [hbz] at h ⊢
 have HB := Lib.hid hbz; clear hbz
 have hb0 := hb; have Hb := Lib.hid hb; clear hb
 obtain ⟨i0, qi, qy0, qy1, qy2⟩ := info_parts info_Msg
 have hid := (schedOkS_parts Hb.out).1; have HID := Lib.hid hid; clear hid
 have E0 : Ext w w := Ext.refl _
 go_enter Tryz.func18, Tryz.ntmps18
 go_wp2_with fail
 refine (schedOk_kS (h.ext (by exact extT))).mono ?_
 rintro e w1 ⟨rfl, hx1⟩
 have X1 : Ext w w1 := Ext.trans (by exact extT) hx1
 have XX1 := X1
 have hz1 := X1.size
 have hy1 := hx1.size; (try simp only [szA] at hy1)
 have KS1 : Blk w1 w.heap.size 32 #[.int .i64 s.Id, .int .i64 s.Seq, .int .i64 s.View.Jobs.Index, .int .i64 s.View.Jobs.Time, .int .i64 s.View.Jobs.Holder, .int .i64 s.View.Jobs.Epoch, .int .i64 s.View.Jobs.Until, .slice a7 n7 k7, .bool false, .int .i64 s.Op.Kind, .int .i64 s.Op.A, .int .i64 s.Op.B, .int .i64 s.Op.C, .int .i64 s.Op.D, .int .i64 s.Index] := Blk.ext (Blk.cast (by exact blkT) setsT) hx1
 have E1 : Ext w w1 := E0.trans X1
 clear hx1 X1
 have CS1 := KS1.cell; have FS1 := KS1.frozen; have LS1 := KS1.lt
 rw [hb0]; clear hb0
 go_wp2_with fail
 refine wp_region_held_drew (S := fun w' => Ext w1 w') (by kernel_rfl) (by (try dsimp only); first | exact Ext.drew (Ext.refl _) | exact extT) (fun hHeld => ?_)
 refine wpAnyH_take (i := 0) (v := ?_) rfl (by kernel_rfl) (by kernel_rfl) (by kernel_rfl) (fun _ _ _ h => h) (Or.inl ⟨by rfl, ?_⟩) (by assumption) ?_
 rotate_left
 focus (intro w hSw; (try dsimp only at hSw); go_simp <;> with_reducible rfl)
 (try simp only [redA, Act.put])
 refine wpAnyH_take (i := 1) (v := ?_) rfl (by kernel_rfl) (by kernel_rfl) (by kernel_rfl) (fun _ _ _ h => h) (Or.inl ⟨by rfl, ?_⟩) (by assumption) ?_
 rotate_left
 focus (intro w hSw; (try dsimp only at hSw); have hq := (KS1.ext hSw).cell; have hq2 := (KS1.ext hSw).lt; go_simp <;> with_reducible rfl)
 (try simp only [redA, Act.put])
 refine wpAnyH_take (i := 2) (v := ?_) rfl (by kernel_rfl) (by kernel_rfl) (by kernel_rfl) (fun _ _ _ h => h) (Or.inl ⟨by rfl, ?_⟩) (by assumption) ?_
 rotate_left
 focus (intro w hSw; (try dsimp only at hSw); go_simp <;> with_reducible rfl)
 (try simp only [redA, Act.put])
 refine wpAnyH_take (i := 3) (v := ?_) rfl (by kernel_rfl) (by kernel_rfl) (by kernel_rfl) (fun _ _ _ h => h) (Or.inl ⟨by rfl, ?_⟩) (by assumption) ?_
 rotate_left
 focus (intro w hSw; (try dsimp only at hSw); have hq := (KS1.ext hSw).cell; have hq2 := (KS1.ext hSw).lt; go_simp <;> with_reducible rfl)
 (try simp only [redA, Act.put])
 refine wpAnyH_ready (rs := [4]) (by kernel_rfl) (by simp) ?_
 refine AllReadyH.cons rfl (fun Kz hKz => ?_) AllReadyH.nil
 (try simp only [redA])
 go_simp
 go_at_call 56
 refine (pollRow_k _ s.Id HID.out).mono ?_
 rintro e w2 ⟨_, rfl, hx2, Op⟩
 have X2 : Ext w1 w2 := Ext.trans (by exact extT) hx2; have hz2 := X2.size; have hv2 := hx2.size; (try simp only [szA] at hv2)
 replace Op := OwnI.mono (B' := w.heap.size) Op (by first | omega | (simp; done) | (simp; omega) | (simp only [szA]; omega))
 clear hx2
 obtain ⟨ap, np, kp, rfl⟩ := Op.shape
 refine hKz.out _ _ (by (try dsimp only); exact extT) (fun hHeld => ?_)
 clear hKz Kz
 (try simp only [redA, Act.put])
 refine wpAnyH_take (i := 5) (v := ?_) rfl (by kernel_rfl) (by kernel_rfl) (by kernel_rfl) (fun _ _ _ h => h) (Or.inl ⟨by rfl, ?_⟩) (by assumption) ?_
 rotate_left
 focus (intro w hSw; (try dsimp only at hSw); go_simp <;> with_reducible rfl)
 (try simp only [redA, Act.put])
 refine wpAnyH_ready (rs := [6]) (by kernel_rfl) (by simp) ?_
 refine AllReadyH.cons rfl (fun Kz hKz => ?_) AllReadyH.nil
 (try simp only [redA])
 go_simp
 refine hKz.out _ _ (by (try dsimp only); exact extT) (fun hHeld => ?_)
 clear hKz Kz
 (try simp only [redA, Act.put])
 refine wpAnyH_ready (rs := [7]) (by kernel_rfl) (by simp) ?_
 refine AllReadyH.cons rfl (fun Kz hKz => ?_) AllReadyH.nil
 (try simp only [redA])
 go_simp
 refine hKz.out _ _ (by (try dsimp only); exact extT) (fun hHeld => ?_)
 clear hKz Kz
 (try simp only [redA, Act.put])
 refine wpAnyH_done (by kernel_rfl) ?_ _
 have X29 := X2
 have hz2 := X2.size
 have KS2 : Blk w2 w.heap.size 32 #[.int .i64 s.Id, .int .i64 s.Seq, .int .i64 s.View.Jobs.Index, .int .i64 s.View.Jobs.Time, .int .i64 s.View.Jobs.Holder, .int .i64 s.View.Jobs.Epoch, .int .i64 s.View.Jobs.Until, .slice a7 n7 k7, .bool false, .int .i64 s.Op.Kind, .int .i64 s.Op.A, .int .i64 s.Op.B, .int .i64 s.Op.C, .int .i64 s.Op.D, .int .i64 s.Index] := Blk.ext KS1 X2
 have E2 : Ext w w2 := E1.trans X2
 clear CS1 FS1 LS1
 have CS2 := KS2.cell; have FS2 := KS2.frozen; have LS2 := KS2.lt
 have OM0 : OwnNs w.heap.size 96 2 2 (w2.alloc (.cells #[.int .i64 s.Id, .int .i64 1, .slice ap np kp] 96)) (.slice (some ⟨w2.heap.size, 0, none⟩) 1 1) [([s.Id, 1], pollL s.Id)] [.slice ap np kp] := OwnNs.lit1 (B2 := w.heap.size) (r := ([s.Id, 1], pollL s.Id)) rfl Op (Nat.le_refl _) (by omega) _ rfl
 obtain ⟨w3, hwj⟩ : ∃ x, x = w2.alloc (.cells #[.int .i64 s.Id, .int .i64 1, .slice ap np kp] 96) := ⟨_, rfl⟩
 rw [← hwj] at OM0 ⊢
 have hx3 : Ext w2 w3 := by rw [hwj]; exact extT
 clear hwj Op
 have X3 : Ext w2 w3 := Ext.trans (by exact extT) hx3
 have XX3 := X3
 have hz3 := X3.size
 have hy3 := hx3.size; (try simp only [szA] at hy3)
 have KS3 : Blk w3 w.heap.size 32 #[.int .i64 s.Id, .int .i64 s.Seq, .int .i64 s.View.Jobs.Index, .int .i64 s.View.Jobs.Time, .int .i64 s.View.Jobs.Holder, .int .i64 s.View.Jobs.Epoch, .int .i64 s.View.Jobs.Until, .slice a7 n7 k7, .bool false, .int .i64 s.Op.Kind, .int .i64 s.Op.A, .int .i64 s.Op.B, .int .i64 s.Op.C, .int .i64 s.Op.D, .int .i64 s.Index] := Blk.ext (Blk.cast (by exact blkT) setsT) hx3
 clear KS2
 have E3 : Ext w w3 := E2.trans X3
 clear hx3 X3 E2
 clear CS2 FS2 LS2
 have CS3 := KS3.cell; have FS3 := KS3.frozen; have LS3 := KS3.lt
 go_wp2_with fail
 refine (askBy_k (h.ext (by exact extT))).mono ?_
 rintro e w4 ⟨rfl, hx4⟩
 have X4 : Ext w3 w4 := Ext.trans (by exact extT) hx4
 have XX4 := X4
 have hz4 := X4.size
 have hy4 := hx4.size; (try simp only [szA] at hy4)
 have KS4 : Blk w4 w.heap.size 32 #[.int .i64 s.Id, .int .i64 s.Seq, .int .i64 s.View.Jobs.Index, .int .i64 s.View.Jobs.Time, .int .i64 s.View.Jobs.Holder, .int .i64 s.View.Jobs.Epoch, .int .i64 s.View.Jobs.Until, .slice a7 n7 k7, .bool false, .int .i64 s.Op.Kind, .int .i64 s.Op.A, .int .i64 s.Op.B, .int .i64 s.Op.C, .int .i64 s.Op.D, .int .i64 s.Index] := Blk.ext (Blk.cast (by exact blkT) setsT) hx4
 clear KS3
 have E4 : Ext w w4 := E3.trans X4
 clear hx4 X4 E3
 clear CS3 FS3 LS3
 have CS4 := KS4.cell; have FS4 := KS4.frozen; have LS4 := KS4.lt
 have OM1 := OwnNs.ext OM0 (show Ext w3 w4 from XX4); clear OM0 XX4
 rw [show askByB s = false from by unfold askByB; rw [HB.out]; simp]
 go_wp2_with fail
 go_ret
 rw [sends_idle Hb.out HB.out]
 exact ⟨_, rfl, by exact extT, OwMsgs.of ⟨_, OwnNs.ext OM1 (by exact extT)⟩⟩
set_option maxHeartbeats 4000000 in
set_option maxRecDepth 100000 in
theorem sendsOf_k_busy {w : World} {v : Value} {s : DSched} (h : RdSched w v s) (hb : schedOkS s = true) (hbz : s.Busy = true) : Calls Tryz.prog 18 #[v] w (Ret w fun r w' => ∃ F, OwMsgs w.heap.size w' r (sendsL s) F) := by
 obtain ⟨a7, n7, k7, rfl⟩ := h.shape
 rw [hbz] at h ⊢
 have HB := Lib.hid hbz; clear hbz
 have hb0 := hb; have Hb := Lib.hid hb; clear hb
 obtain ⟨i0, qi, qy0, qy1, qy2⟩ := info_parts info_Msg
 have hid := (schedOkS_parts Hb.out).1; have HID := Lib.hid hid; clear hid
 have E0 : Ext w w := Ext.refl _
 go_enter Tryz.func18, Tryz.ntmps18
 go_wp2_with fail
 refine (schedOk_kS (h.ext (by exact extT))).mono ?_
 rintro e w1 ⟨rfl, hx1⟩
 have X1 : Ext w w1 := Ext.trans (by exact extT) hx1
 have XX1 := X1
 have hz1 := X1.size
 have hy1 := hx1.size; (try simp only [szA] at hy1)
 have KS1 : Blk w1 w.heap.size 32 #[.int .i64 s.Id, .int .i64 s.Seq, .int .i64 s.View.Jobs.Index, .int .i64 s.View.Jobs.Time, .int .i64 s.View.Jobs.Holder, .int .i64 s.View.Jobs.Epoch, .int .i64 s.View.Jobs.Until, .slice a7 n7 k7, .bool true, .int .i64 s.Op.Kind, .int .i64 s.Op.A, .int .i64 s.Op.B, .int .i64 s.Op.C, .int .i64 s.Op.D, .int .i64 s.Index] := Blk.ext (Blk.cast (by exact blkT) setsT) hx1
 have E1 : Ext w w1 := E0.trans X1
 clear hx1 X1
 have CS1 := KS1.cell; have FS1 := KS1.frozen; have LS1 := KS1.lt
 rw [hb0]; clear hb0
 go_wp2_with fail
 refine wp_region_held_drew (S := fun w' => Ext w1 w') (by kernel_rfl) (by (try dsimp only); first | exact Ext.drew (Ext.refl _) | exact extT) (fun hHeld => ?_)
 refine wpAnyH_take (i := 0) (v := ?_) rfl (by kernel_rfl) (by kernel_rfl) (by kernel_rfl) (fun _ _ _ h => h) (Or.inl ⟨by rfl, ?_⟩) (by assumption) ?_
 rotate_left
 focus (intro w hSw; (try dsimp only at hSw); go_simp <;> with_reducible rfl)
 (try simp only [redA, Act.put])
 refine wpAnyH_take (i := 1) (v := ?_) rfl (by kernel_rfl) (by kernel_rfl) (by kernel_rfl) (fun _ _ _ h => h) (Or.inl ⟨by rfl, ?_⟩) (by assumption) ?_
 rotate_left
 focus (intro w hSw; (try dsimp only at hSw); have hq := (KS1.ext hSw).cell; have hq2 := (KS1.ext hSw).lt; go_simp <;> with_reducible rfl)
 (try simp only [redA, Act.put])
 refine wpAnyH_take (i := 2) (v := ?_) rfl (by kernel_rfl) (by kernel_rfl) (by kernel_rfl) (fun _ _ _ h => h) (Or.inl ⟨by rfl, ?_⟩) (by assumption) ?_
 rotate_left
 focus (intro w hSw; (try dsimp only at hSw); go_simp <;> with_reducible rfl)
 (try simp only [redA, Act.put])
 refine wpAnyH_take (i := 3) (v := ?_) rfl (by kernel_rfl) (by kernel_rfl) (by kernel_rfl) (fun _ _ _ h => h) (Or.inl ⟨by rfl, ?_⟩) (by assumption) ?_
 rotate_left
 focus (intro w hSw; (try dsimp only at hSw); have hq := (KS1.ext hSw).cell; have hq2 := (KS1.ext hSw).lt; go_simp <;> with_reducible rfl)
 (try simp only [redA, Act.put])
 refine wpAnyH_ready (rs := [4]) (by kernel_rfl) (by simp) ?_
 refine AllReadyH.cons rfl (fun Kz hKz => ?_) AllReadyH.nil
 (try simp only [redA])
 go_simp
 go_at_call 56
 refine (pollRow_k _ s.Id HID.out).mono ?_
 rintro e w2 ⟨_, rfl, hx2, Op⟩
 have X2 : Ext w1 w2 := Ext.trans (by exact extT) hx2; have hz2 := X2.size; have hv2 := hx2.size; (try simp only [szA] at hv2)
 replace Op := OwnI.mono (B' := w.heap.size) Op (by first | omega | (simp; done) | (simp; omega) | (simp only [szA]; omega))
 clear hx2
 obtain ⟨ap, np, kp, rfl⟩ := Op.shape
 refine hKz.out _ _ (by (try dsimp only); exact extT) (fun hHeld => ?_)
 clear hKz Kz
 (try simp only [redA, Act.put])
 refine wpAnyH_take (i := 5) (v := ?_) rfl (by kernel_rfl) (by kernel_rfl) (by kernel_rfl) (fun _ _ _ h => h) (Or.inl ⟨by rfl, ?_⟩) (by assumption) ?_
 rotate_left
 focus (intro w hSw; (try dsimp only at hSw); go_simp <;> with_reducible rfl)
 (try simp only [redA, Act.put])
 refine wpAnyH_ready (rs := [6]) (by kernel_rfl) (by simp) ?_
 refine AllReadyH.cons rfl (fun Kz hKz => ?_) AllReadyH.nil
 (try simp only [redA])
 go_simp
 refine hKz.out _ _ (by (try dsimp only); exact extT) (fun hHeld => ?_)
 clear hKz Kz
 (try simp only [redA, Act.put])
 refine wpAnyH_ready (rs := [7]) (by kernel_rfl) (by simp) ?_
 refine AllReadyH.cons rfl (fun Kz hKz => ?_) AllReadyH.nil
 (try simp only [redA])
 go_simp
 refine hKz.out _ _ (by (try dsimp only); exact extT) (fun hHeld => ?_)
 clear hKz Kz
 (try simp only [redA, Act.put])
 refine wpAnyH_done (by kernel_rfl) ?_ _
 have X29 := X2
 have hz2 := X2.size
 have KS2 : Blk w2 w.heap.size 32 #[.int .i64 s.Id, .int .i64 s.Seq, .int .i64 s.View.Jobs.Index, .int .i64 s.View.Jobs.Time, .int .i64 s.View.Jobs.Holder, .int .i64 s.View.Jobs.Epoch, .int .i64 s.View.Jobs.Until, .slice a7 n7 k7, .bool true, .int .i64 s.Op.Kind, .int .i64 s.Op.A, .int .i64 s.Op.B, .int .i64 s.Op.C, .int .i64 s.Op.D, .int .i64 s.Index] := Blk.ext KS1 X2
 have E2 : Ext w w2 := E1.trans X2
 clear CS1 FS1 LS1
 have CS2 := KS2.cell; have FS2 := KS2.frozen; have LS2 := KS2.lt
 have OM0 : OwnNs w.heap.size 96 2 2 (w2.alloc (.cells #[.int .i64 s.Id, .int .i64 1, .slice ap np kp] 96)) (.slice (some ⟨w2.heap.size, 0, none⟩) 1 1) [([s.Id, 1], pollL s.Id)] [.slice ap np kp] := OwnNs.lit1 (B2 := w.heap.size) (r := ([s.Id, 1], pollL s.Id)) rfl Op (Nat.le_refl _) (by omega) _ rfl
 obtain ⟨w3, hwj⟩ : ∃ x, x = w2.alloc (.cells #[.int .i64 s.Id, .int .i64 1, .slice ap np kp] 96) := ⟨_, rfl⟩
 rw [← hwj] at OM0 ⊢
 have hx3 : Ext w2 w3 := by rw [hwj]; exact extT
 clear hwj Op
 have X3 : Ext w2 w3 := Ext.trans (by exact extT) hx3
 have XX3 := X3
 have hz3 := X3.size
 have hy3 := hx3.size; (try simp only [szA] at hy3)
 have KS3 : Blk w3 w.heap.size 32 #[.int .i64 s.Id, .int .i64 s.Seq, .int .i64 s.View.Jobs.Index, .int .i64 s.View.Jobs.Time, .int .i64 s.View.Jobs.Holder, .int .i64 s.View.Jobs.Epoch, .int .i64 s.View.Jobs.Until, .slice a7 n7 k7, .bool true, .int .i64 s.Op.Kind, .int .i64 s.Op.A, .int .i64 s.Op.B, .int .i64 s.Op.C, .int .i64 s.Op.D, .int .i64 s.Index] := Blk.ext (Blk.cast (by exact blkT) setsT) hx3
 clear KS2
 have E3 : Ext w w3 := E2.trans X3
 clear hx3 X3 E2
 clear CS2 FS2 LS2
 have CS3 := KS3.cell; have FS3 := KS3.frozen; have LS3 := KS3.lt
 go_wp2_with fail
 refine (askBy_k (h.ext (by exact extT))).mono ?_
 rintro e w4 ⟨rfl, hx4⟩
 have X4 : Ext w3 w4 := Ext.trans (by exact extT) hx4
 have XX4 := X4
 have hz4 := X4.size
 have hy4 := hx4.size; (try simp only [szA] at hy4)
 have KS4 : Blk w4 w.heap.size 32 #[.int .i64 s.Id, .int .i64 s.Seq, .int .i64 s.View.Jobs.Index, .int .i64 s.View.Jobs.Time, .int .i64 s.View.Jobs.Holder, .int .i64 s.View.Jobs.Epoch, .int .i64 s.View.Jobs.Until, .slice a7 n7 k7, .bool true, .int .i64 s.Op.Kind, .int .i64 s.Op.A, .int .i64 s.Op.B, .int .i64 s.Op.C, .int .i64 s.Op.D, .int .i64 s.Index] := Blk.ext (Blk.cast (by exact blkT) setsT) hx4
 clear KS3
 have E4 : Ext w w4 := E3.trans X4
 clear hx4 X4 E3
 clear CS3 FS3 LS3
 have CS4 := KS4.cell; have FS4 := KS4.frozen; have LS4 := KS4.lt
 have OM1 := OwnNs.ext OM0 (show Ext w3 w4 from XX4); clear OM0 XX4
 rw [show askByB s = true from by unfold askByB; rw [Hb.out, HB.out]; rfl, show askBy s = ⟨s.Id, s.Seq, s.Op⟩ from by unfold askBy; rw [if_pos (by rw [Hb.out, HB.out]; rfl)]]
 have HA : Hid (askOk ⟨s.Id, s.Seq, ⟨s.Op.Kind, s.Op.A, s.Op.B, s.Op.C, s.Op.D⟩⟩ = true) := Lib.hid (asks_ok Hb.out HB.out)
 have hfo := OwnNs.foot OM1
 have hwn : w.heap.size ≤ w4.heap.size := by omega
 go_wp2_with fail
 refine wp_region_held_drew (S := (fun w' => Ext w w' ∧ Blk w' w.heap.size 32 #[.int .i64 s.Id, .int .i64 s.Seq, .int .i64 s.View.Jobs.Index, .int .i64 s.View.Jobs.Time, .int .i64 s.View.Jobs.Holder, .int .i64 s.View.Jobs.Epoch, .int .i64 s.View.Jobs.Until, .slice a7 n7 k7, .bool true, .int .i64 s.Op.Kind, .int .i64 s.Op.A, .int .i64 s.Op.B, .int .i64 s.Op.C, .int .i64 s.Op.D, .int .i64 s.Index] ∧ Blk w' w4.heap.size 45 #[.int .i64 s.Id, .int .i64 s.Seq, .int .i64 s.Op.Kind, .int .i64 s.Op.A, .int .i64 s.Op.B, .int .i64 s.Op.C, .int .i64 s.Op.D])) (by kernel_rfl) (by (try dsimp only); exact ⟨by exact extT, Blk.cast (by exact blkT) setsT, Blk.cast (by exact blkT) setsT⟩) (fun hHeld => ?_)
 refine wpAnyH_take (i := 0) (v := ?_) rfl (by kernel_rfl) (by kernel_rfl) (by kernel_rfl) (fun _ _ _ h => h) (Or.inl ⟨by rfl, ?_⟩) (by assumption) ?_
 rotate_left
 focus (intro w hSw; (try dsimp only at hSw); go_simp <;> with_reducible rfl)
 (try simp only [redA, Act.put])
 refine wpAnyH_take (i := 1) (v := ?_) rfl (by kernel_rfl) (by kernel_rfl) (by kernel_rfl) (fun _ _ _ h => h) (Or.inl ⟨by rfl, ?_⟩) (by assumption) ?_
 rotate_left
 focus (intro w hSw; (try dsimp only at hSw); go_simp <;> with_reducible rfl)
 (try simp only [redA, Act.put])
 refine wpAnyH_take (i := 2) (v := ?_) rfl (by kernel_rfl) (by kernel_rfl) (by kernel_rfl) (fun _ _ _ h => h) (Or.inl ⟨by rfl, ?_⟩) (by assumption) ?_
 rotate_left
 focus (intro w hSw; (try dsimp only at hSw); have hq := hSw.2.1.cell; have hq2 := hSw.2.1.lt; go_simp <;> with_reducible rfl)
 (try simp only [redA, Act.put])
 refine wpAnyH_take (i := 3) (v := ?_) rfl (by kernel_rfl) (by kernel_rfl) (by kernel_rfl) (fun _ _ _ h => h) (Or.inl ⟨by rfl, ?_⟩) (by assumption) ?_
 rotate_left
 focus (intro w hSw; (try dsimp only at hSw); have hq := hSw.2.2.cell; have hq2 := hSw.2.2.lt; go_simp <;> with_reducible rfl)
 (try simp only [redA, Act.put])
 refine wpAnyH_ready (rs := [4]) (by kernel_rfl) (by simp) ?_
 refine AllReadyH.cons rfl (fun Kz hKz => ?_) AllReadyH.nil
 (try simp only [redA])
 go_simp
 go_at_call 57
 refine (askRow_k _ s.Id s.Seq s.Op.Kind s.Op.A s.Op.B s.Op.C s.Op.D HA.out).mono ?_
 rintro e w5 ⟨_, rfl, hx5, Oz⟩
 have KS5 : Blk w5 w.heap.size 32 #[.int .i64 s.Id, .int .i64 s.Seq, .int .i64 s.View.Jobs.Index, .int .i64 s.View.Jobs.Time, .int .i64 s.View.Jobs.Holder, .int .i64 s.View.Jobs.Epoch, .int .i64 s.View.Jobs.Until, .slice a7 n7 k7, .bool true, .int .i64 s.Op.Kind, .int .i64 s.Op.A, .int .i64 s.Op.B, .int .i64 s.Op.C, .int .i64 s.Op.D, .int .i64 s.Index] := Blk.ext (Blk.cast (by exact blkT) setsT) hx5
 have KK5 : Blk w5 w4.heap.size 45 #[.int .i64 s.Id, .int .i64 s.Seq, .int .i64 s.Op.Kind, .int .i64 s.Op.A, .int .i64 s.Op.B, .int .i64 s.Op.C, .int .i64 s.Op.D] := Blk.ext (Blk.cast (by exact blkT) setsT) hx5
 have hz5 := hx5.size; (try simp only [szA] at hz5)
 have E5 : Ext w w5 := Ext.trans (by exact extT) hx5
 have OM2 := OwnNs.ext OM1 (Ext.trans (show Ext w4 _ from by exact extT) hx5)
 replace Oz := OwnI.mono (B' := w4.heap.size) Oz (by first | omega | (simp; done) | (simp; omega) | (simp only [szA]; omega))
 obtain ⟨ar, nr, kr, rfl⟩ := Oz.shape
 clear hx5 OM1
 refine hKz.out _ _ (by (try dsimp only); exact ⟨by exact extT, Blk.cast (by exact blkT) setsT, Blk.cast (by exact blkT) setsT⟩) (fun hHeld => ?_)
 clear hKz Kz
 (try simp only [redA, Act.put])
 refine wpAnyH_take (i := 5) (v := ?_) rfl (by kernel_rfl) (by kernel_rfl) (by kernel_rfl) (fun _ _ _ h => h) (Or.inl ⟨by rfl, ?_⟩) (by assumption) ?_
 rotate_left
 focus (intro w hSw; (try dsimp only at hSw); go_simp <;> with_reducible rfl)
 (try simp only [redA, Act.put])
 refine wpAnyH_ready (rs := [6]) (by kernel_rfl) (by simp) ?_
 refine AllReadyH.cons rfl (fun Kz hKz => ?_) AllReadyH.nil
 (try simp only [redA])
 go_simp
 refine hKz.out _ _ (by (try dsimp only); exact ⟨by exact extT, Blk.cast (by exact blkT) setsT, Blk.cast (by exact blkT) setsT⟩) (fun hHeld => ?_)
 clear hKz Kz
 (try simp only [redA, Act.put])
 refine wpAnyH_ready (rs := [7]) (by kernel_rfl) (by simp) ?_
 refine AllReadyH.cons rfl (fun Kz hKz => ?_) AllReadyH.nil
 (try simp only [redA])
 have OO := OwnNs.ext OM2 ((Ext.refl w5).alloc (.cells #[.int .i64 s.Id, .int .i64 0, .slice ar nr kr] 96))
 rw [if_pos (by rfl)]
 refine wp_append_row0 (n := 2) (r := ([s.Id, 0], askL ⟨s.Id, s.Seq, s.Op⟩)) (.tmp 22) (.tmp 28) 48 (by rfl) i0 _ 40 Tryz.underlying48 qi qy0 qy1 qy2 rfl (by rfl) OO _ (by rfl) _ (by exact Blk.new _ _ _) (by rfl) rfl (Own.ext Oz ((Ext.refl _).alloc _)) hwn (fun k hk => (hfo k hk).2) 1001 (by simp) (by unfold maxLen; omega) (by omega) (by (try simp only [World.size_alloc]); omega) ?_
 intro gx cp w6 hown1 hga hxa hua
 have E6 : Ext w w6 := hxa w (by exact extT) (Nat.le_refl _)
 have KS6 : Blk w6 w.heap.size 32 #[.int .i64 s.Id, .int .i64 s.Seq, .int .i64 s.View.Jobs.Index, .int .i64 s.View.Jobs.Time, .int .i64 s.View.Jobs.Holder, .int .i64 s.View.Jobs.Epoch, .int .i64 s.View.Jobs.Until, .slice a7 n7 k7, .bool true, .int .i64 s.Op.Kind, .int .i64 s.Op.A, .int .i64 s.Op.B, .int .i64 s.Op.C, .int .i64 s.Op.D, .int .i64 s.Index] := Blk.app (Blk.cast (by exact blkT) setsT) OO.2.2.1 (by decide) hga
 have KK6 : Blk w6 w4.heap.size 45 #[.int .i64 s.Id, .int .i64 s.Seq, .int .i64 s.Op.Kind, .int .i64 s.Op.A, .int .i64 s.Op.B, .int .i64 s.Op.C, .int .i64 s.Op.D] := Blk.app (Blk.cast (by exact blkT) setsT) OO.2.2.1 (by decide) hga
 clear hga hxa hua OO OM2
 refine hKz.out _ _ (by (try dsimp only); exact ⟨by exact extT, Blk.cast (by exact blkT) setsT, Blk.cast (by exact blkT) setsT⟩) (fun hHeld => ?_)
 clear hKz Kz
 (try simp only [redA, Act.put])
 refine wpAnyH_ready (rs := [8]) (by kernel_rfl) (by simp) ?_
 refine AllReadyH.cons rfl (fun Kz hKz => ?_) AllReadyH.nil
 (try simp only [redA])
 go_simp
 refine hKz.out _ _ (by (try dsimp only); exact ⟨by exact extT, Blk.cast (by exact blkT) setsT, Blk.cast (by exact blkT) setsT⟩) (fun hHeld => ?_)
 clear hKz Kz
 (try simp only [redA, Act.put])
 refine wpAnyH_done (by kernel_rfl) ?_ _
 go_wp2_with fail
 go_ret
 rw [sends_busy Hb.out HB.out]
 exact ⟨_, rfl, by exact extT, OwMsgs.of ⟨_, OwnNs.ext hown1 (by exact extT)⟩⟩
theorem sendsOf_k {w : World} {v : Value} {s : DSched} (h : RdSched w v s) : Calls Tryz.prog 18 #[v] w (Ret w fun r w' => ∃ F, OwMsgs w.heap.size w' r (sendsL s) F) := by
 cases hb : schedOkS s
 ·
  exact sendsOf_k_bad h hb
 cases hbz : s.Busy
 ·
  exact sendsOf_k_idle h hb hbz
 ·
  exact sendsOf_k_busy h hb hbz

end Go.Proofs.YtcnioiieiebodaaGreat
