/- The statement FnExactSendsOf: the walk and the row. -/
import Derived.Test.YthihnangjghloaaLa
import Derived.Test.YthihnangjghloaaLy
import Derived.Test.YthihnangjghloaaLz
import Derived.Test.YthihnangjghloaaLx
import Derived.Test.YthihnangjghloaaLc
set_option linter.unusedSimpArgs false
set_option linter.unusedVariables false
-- The statement's walk: FnExactSendsOf.
set_option linter.unusedSimpArgs false
set_option linter.unusedVariables false
namespace Go.Proofs.Ythihnangjghloaa
open Go.RowKit Go.G8

set_option maxHeartbeats 16000000 in
set_option maxRecDepth 100000 in
theorem law_SendsOf (w : World) (c0_0 : Int) (c0_1 : Int) (c0_2 : Int) (c0_3 : Int) (c0_4 : Int) (c0_5 : Int) (c0_6 : Int) (s0_7 : Value) (l0_7 : List DDue) (c0_8 : Bool) (c0_9 : Int) (c0_10 : Int) (c0_11 : Int) (c0_12 : Int) (c0_13 : Int) (c0_14 : Int) (h0_7 : Ints 2 w s0_7 (dues l0_7)) : Calls Try.prog 5 #[.agg #[.int .i64 c0_0, .int .i64 c0_1, .int .i64 c0_2, .int .i64 c0_3, .int .i64 c0_4, .int .i64 c0_5, .int .i64 c0_6, s0_7, .bool c0_8, .int .i64 c0_9, .int .i64 c0_10, .int .i64 c0_11, .int .i64 c0_12, .int .i64 c0_13, .int .i64 c0_14]] w (RetV w (.bool true)) := by
 obtain ⟨a0_7, n0_7, k0_7, rfl⟩ := h0_7.shape
 have h0 : RdSched w (.agg #[.int .i64 c0_0, .int .i64 c0_1, .int .i64 c0_2, .int .i64 c0_3, .int .i64 c0_4, .int .i64 c0_5, .int .i64 c0_6, .slice a0_7 n0_7 k0_7, .bool c0_8, .int .i64 c0_9, .int .i64 c0_10, .int .i64 c0_11, .int .i64 c0_12, .int .i64 c0_13, .int .i64 c0_14]) ⟨c0_0, c0_1, ⟨⟨c0_2, c0_3, c0_4, c0_5, c0_6, l0_7⟩⟩, c0_8, ⟨c0_9, c0_10, c0_11, c0_12, c0_13⟩, c0_14⟩ := ⟨_, rfl, h0_7⟩
 obtain ⟨S, hS⟩ : ∃ S : DSched, S = ⟨c0_0, c0_1, ⟨⟨c0_2, c0_3, c0_4, c0_5, c0_6, l0_7⟩⟩, c0_8, ⟨c0_9, c0_10, c0_11, c0_12, c0_13⟩, c0_14⟩ := ⟨_, rfl⟩
 rw [← hS] at h0
 go_enter Try.func5, Try.ntmps5
 go_wp2_with fail
 refine (sz_Sched (h0.ext (by (first | exact extT | omega))) (by omega) (by omega)).mono ?_
 rintro e w1 ⟨v1, rfl, hx1, hv1⟩
 have X1 : Ext w w1 := by (first | exact extT | omega)
 have Ba : Blk w1 w.heap.size 61 #[.int .i64 c0_0, .int .i64 c0_1, .int .i64 c0_2, .int .i64 c0_3, .int .i64 c0_4, .int .i64 c0_5, .int .i64 c0_6, .slice a0_7 n0_7 k0_7, .bool c0_8, .int .i64 c0_9, .int .i64 c0_10, .int .i64 c0_11, .int .i64 c0_12, .int .i64 c0_13, .int .i64 c0_14] := (Blk.new w 61 #[.int .i64 c0_0, .int .i64 c0_1, .int .i64 c0_2, .int .i64 c0_3, .int .i64 c0_4, .int .i64 c0_5, .int .i64 c0_6, .slice a0_7 n0_7 k0_7, .bool c0_8, .int .i64 c0_9, .int .i64 c0_10, .int .i64 c0_11, .int .i64 c0_12, .int .i64 c0_13, .int .i64 c0_14]).ext hx1
 have MBa := Ba.lt
 have Z1 := X1.size
 have E1 : Ext w w1 := X1
 clear hx1
 have CBa := Ba.cell; have LBa := Ba.lt
 rcases hv1 with ⟨rfl, qz⟩ | ⟨rfl, qz⟩
 ·
  go_wp2; go_ret; exact ⟨rfl, by (first | exact extT | omega)⟩
 have q0 : S.View.Jobs.Open.length ≤ 1048576 := by omega
 have nx := numSched_le (s := S) q0
 have nb := nSends S
 clear hS h0_7
 go_wp2_with fail
 refine (to_Sched (h0.ext (by (first | exact extT | omega))) q0).mono ?_
 rintro e w2 ⟨_, rfl, hx2, Fu, gu⟩
 obtain ⟨au7, nu7, ku7, rfl⟩ := gu.rd.shape
 have lu := gu.low; (try simp only [World.size_alloc] at lu)
 have X2 : Ext w1 w2 := by (first | exact extT | omega)
 have Z2 := X2.size
 have E2 : Ext w w2 := E1.trans X2
 have Ba := Ba.ext X2
 clear hx2
 clear CBa LBa
 have CBa := Ba.cell; have LBa := Ba.lt
 go_wp2_with fail
 refine (sSendsOf_k ((gu.rd).ext (by (first | exact extT | omega)))).mono ?_
 rintro e w3 ⟨_, rfl, hx3, Fw, gw⟩
 obtain ⟨aw0, nw0, kw0, rfl⟩ := gw.rd.shape
 have lw := gw.low; (try simp only [World.size_alloc] at lw)
 have X3 : Ext w2 w3 := by (first | exact extT | omega)
 have Z3 := X3.size
 have E3 : Ext w w3 := E2.trans X3
 have Ba := Ba.ext X3
 have gu := gu.ext X3
 clear hx3
 clear CBa LBa
 have CBa := Ba.cell; have LBa := Ba.lt
 as_aux_lemma =>
  go_wp2_with fail
  refine (to_Sched (h0.ext (by (first | exact extT | omega))) q0).mono ?_
  rintro e w4 ⟨_, rfl, hx4, Fx, gx⟩
  obtain ⟨ax7, nx7, kx7, rfl⟩ := gx.rd.shape
  have lx := gx.low; (try simp only [World.size_alloc] at lx)
  have X4 : Ext w3 w4 := by (first | exact extT | omega)
  have Z4 := X4.size
  have E4 : Ext w w4 := E3.trans X4
  have Ba := Ba.ext X4
  have gw := gw.ext X4
  clear hx4
  clear CBa LBa
  have CBa := Ba.cell; have LBa := Ba.lt
  as_aux_lemma =>
   go_wp2_with fail
   refine (sendsOf_k ((gx.rd).ext (by (first | exact extT | omega)))).mono ?_
   rintro e w5 ⟨_, rfl, hx5, Fg, gg⟩
   obtain ⟨ag0, ng0, kg0, rfl⟩ := gg.rd.shape
   have lg := gg.low; (try simp only [World.size_alloc] at lg)
   have X5 : Ext w4 w5 := by (first | exact extT | omega)
   have Bx : Blk w5 w4.heap.size 65 #[.int .i64 S.Id, .int .i64 S.Seq, .int .i64 S.View.Jobs.Index, .int .i64 S.View.Jobs.Time, .int .i64 S.View.Jobs.Holder, .int .i64 S.View.Jobs.Epoch, .int .i64 S.View.Jobs.Until, .slice ax7 nx7 kx7, .bool S.Busy, .int .i64 S.Op.Kind, .int .i64 S.Op.A, .int .i64 S.Op.B, .int .i64 S.Op.C, .int .i64 S.Op.D, .int .i64 S.Index] := (Blk.new w4 65 #[.int .i64 S.Id, .int .i64 S.Seq, .int .i64 S.View.Jobs.Index, .int .i64 S.View.Jobs.Time, .int .i64 S.View.Jobs.Holder, .int .i64 S.View.Jobs.Epoch, .int .i64 S.View.Jobs.Until, .slice ax7 nx7 kx7, .bool S.Busy, .int .i64 S.Op.Kind, .int .i64 S.Op.A, .int .i64 S.Op.B, .int .i64 S.Op.C, .int .i64 S.Op.D, .int .i64 S.Index]).ext hx5
   have MBx := Bx.lt
   have Z5 := X5.size
   have E5 : Ext w w5 := E4.trans X5
   have Ba := Ba.ext X5
   have gw := gw.ext X5
   have gx := gx.ext X5
   clear hx5
   clear CBa LBa
   have CBa := Ba.cell; have LBa := Ba.lt
   have CBx := Bx.cell; have LBx := Bx.lt
   as_aux_lemma =>
    go_wp2_with fail
    refine (eq_Msgs ((gg.rd).ext (by (first | exact extT | omega))) ((gw.rd).ext (by (first | exact extT | omega)))).mono ?_
    rintro e w6 ⟨rfl, hx6⟩
    have X6 : Ext w5 w6 := by (first | exact extT | omega)
    have Z6 := X6.size
    have E6 : Ext w w6 := E5.trans X6
    have Ba := Ba.ext X6
    have gw := gw.ext X6
    have gx := gx.ext X6
    have Bx := Bx.ext X6
    have gg := gg.ext X6
    clear hx6
    clear CBa LBa CBx LBx
    have CBa := Ba.cell; have LBa := Ba.lt
    have CBx := Bx.cell; have LBx := Bx.lt
    as_aux_lemma =>
     go_wp2_with fail
     have ya0 : ∀ w', Ext w6 w' → w'.cell? ⟨_, 0, none⟩ = some (.int .i64 c0_0) := fun w' hw => (Ba.ext hw).cell 0
     have ya1 : ∀ w', Ext w6 w' → w'.cell? ⟨_, 1, none⟩ = some (.int .i64 c0_1) := fun w' hw => (Ba.ext hw).cell 1
     have ya2 : ∀ w', Ext w6 w' → w'.cell? ⟨_, 2, none⟩ = some (.int .i64 c0_2) := fun w' hw => (Ba.ext hw).cell 2
     have ya3 : ∀ w', Ext w6 w' → w'.cell? ⟨_, 3, none⟩ = some (.int .i64 c0_3) := fun w' hw => (Ba.ext hw).cell 3
     have ya4 : ∀ w', Ext w6 w' → w'.cell? ⟨_, 4, none⟩ = some (.int .i64 c0_4) := fun w' hw => (Ba.ext hw).cell 4
     have ya5 : ∀ w', Ext w6 w' → w'.cell? ⟨_, 5, none⟩ = some (.int .i64 c0_5) := fun w' hw => (Ba.ext hw).cell 5
     have ya6 : ∀ w', Ext w6 w' → w'.cell? ⟨_, 6, none⟩ = some (.int .i64 c0_6) := fun w' hw => (Ba.ext hw).cell 6
     have ya7 : ∀ w', Ext w6 w' → w'.cell? ⟨_, 7, none⟩ = some (.slice a0_7 n0_7 k0_7) := fun w' hw => (Ba.ext hw).cell 7
     have ya8 : ∀ w', Ext w6 w' → w'.cell? ⟨_, 8, none⟩ = some (.bool c0_8) := fun w' hw => (Ba.ext hw).cell 8
     have ya9 : ∀ w', Ext w6 w' → w'.cell? ⟨_, 9, none⟩ = some (.int .i64 c0_9) := fun w' hw => (Ba.ext hw).cell 9
     have ya10 : ∀ w', Ext w6 w' → w'.cell? ⟨_, 10, none⟩ = some (.int .i64 c0_10) := fun w' hw => (Ba.ext hw).cell 10
     have ya11 : ∀ w', Ext w6 w' → w'.cell? ⟨_, 11, none⟩ = some (.int .i64 c0_11) := fun w' hw => (Ba.ext hw).cell 11
     have ya12 : ∀ w', Ext w6 w' → w'.cell? ⟨_, 12, none⟩ = some (.int .i64 c0_12) := fun w' hw => (Ba.ext hw).cell 12
     have ya13 : ∀ w', Ext w6 w' → w'.cell? ⟨_, 13, none⟩ = some (.int .i64 c0_13) := fun w' hw => (Ba.ext hw).cell 13
     have ya14 : ∀ w', Ext w6 w' → w'.cell? ⟨_, 14, none⟩ = some (.int .i64 c0_14) := fun w' hw => (Ba.ext hw).cell 14
     have yb0 : ∀ w', Ext w6 w' → w'.cell? ⟨_, 0, none⟩ = some (.int .i64 S.Id) := fun w' hw => (Bx.ext hw).cell 0
     have yb1 : ∀ w', Ext w6 w' → w'.cell? ⟨_, 1, none⟩ = some (.int .i64 S.Seq) := fun w' hw => (Bx.ext hw).cell 1
     have yb2 : ∀ w', Ext w6 w' → w'.cell? ⟨_, 2, none⟩ = some (.int .i64 S.View.Jobs.Index) := fun w' hw => (Bx.ext hw).cell 2
     have yb3 : ∀ w', Ext w6 w' → w'.cell? ⟨_, 3, none⟩ = some (.int .i64 S.View.Jobs.Time) := fun w' hw => (Bx.ext hw).cell 3
     have yb4 : ∀ w', Ext w6 w' → w'.cell? ⟨_, 4, none⟩ = some (.int .i64 S.View.Jobs.Holder) := fun w' hw => (Bx.ext hw).cell 4
     have yb5 : ∀ w', Ext w6 w' → w'.cell? ⟨_, 5, none⟩ = some (.int .i64 S.View.Jobs.Epoch) := fun w' hw => (Bx.ext hw).cell 5
     have yb6 : ∀ w', Ext w6 w' → w'.cell? ⟨_, 6, none⟩ = some (.int .i64 S.View.Jobs.Until) := fun w' hw => (Bx.ext hw).cell 6
     have yb7 : ∀ w', Ext w6 w' → w'.cell? ⟨_, 7, none⟩ = some (.slice ax7 nx7 kx7) := fun w' hw => (Bx.ext hw).cell 7
     have yb8 : ∀ w', Ext w6 w' → w'.cell? ⟨_, 8, none⟩ = some (.bool S.Busy) := fun w' hw => (Bx.ext hw).cell 8
     have yb9 : ∀ w', Ext w6 w' → w'.cell? ⟨_, 9, none⟩ = some (.int .i64 S.Op.Kind) := fun w' hw => (Bx.ext hw).cell 9
     have yb10 : ∀ w', Ext w6 w' → w'.cell? ⟨_, 10, none⟩ = some (.int .i64 S.Op.A) := fun w' hw => (Bx.ext hw).cell 10
     have yb11 : ∀ w', Ext w6 w' → w'.cell? ⟨_, 11, none⟩ = some (.int .i64 S.Op.B) := fun w' hw => (Bx.ext hw).cell 11
     have yb12 : ∀ w', Ext w6 w' → w'.cell? ⟨_, 12, none⟩ = some (.int .i64 S.Op.C) := fun w' hw => (Bx.ext hw).cell 12
     have yb13 : ∀ w', Ext w6 w' → w'.cell? ⟨_, 13, none⟩ = some (.int .i64 S.Op.D) := fun w' hw => (Bx.ext hw).cell 13
     have yb14 : ∀ w', Ext w6 w' → w'.cell? ⟨_, 14, none⟩ = some (.int .i64 S.Index) := fun w' hw => (Bx.ext hw).cell 14
     clear CBa LBa CBx LBx
     go_region_held3 (fun w' => Ext w6 w') (first | exact Ext.drew (Ext.refl _) | exact Ext.trans (by assumption) hx7 | exact Ext.trans (by assumption) hx8) (first | (go_at_call 19; refine (to_Sched (h0.ext (Ext.trans E6 (by assumption))) q0).mono ?_; rintro e w7 ⟨_, rfl, hx7, Fz, gz⟩; obtain ⟨az7, nz7, kz7, rfl⟩ := gz.rd.shape) | (go_at_call 21; refine (eq_Sched ((gx.rd).ext (by assumption)) gz.rd).mono ?_; rintro e w8 ⟨rfl, hx8⟩))
     have X8 : Ext w6 w8 := by assumption
     clear ya0 yb0 ya1 yb1 ya2 yb2 ya3 yb3 ya4 yb4 ya5 yb5 ya6 yb6 ya7 yb7 ya8 yb8 ya9 yb9 ya10 yb10 ya11 yb11 ya12 yb12 ya13 yb13 ya14 yb14 hx8
     have Z8 := X8.size; have E8 : Ext w w8 := E6.trans X8
     have Ba := Ba.ext X8
     have gw := gw.ext X8
     have gx := gx.ext X8
     have Bx := Bx.ext X8
     have gg := gg.ext X8
     have CBa := Ba.cell; have LBa := Ba.lt
     have CBx := Bx.cell; have LBx := Bx.lt
     as_aux_lemma =>
      go_wp2_with fail
      refine (mark_Sched (gx.ext (by (first | exact extT | omega))) (by omega) (by have := nx; omega)).mono ?_
      rintro e w9 ⟨rfl, hx9, gxm⟩
      have X9 : Upd w8 w9 Fx := (Ext.upd (by (first | exact extT | omega)) _).trans hx9
      have Z9 := X9.size
      have E9 : Ext w w9 := E8.upd_below X9 (fun k hk => by have := lx k hk; omega)
      have Ba := Ba.upd X9 (fun hk => by have := lx _ hk; omega)
      have gw := gw.upd X9 (fun k hk hk' => by have := lx k hk'; have := lw k hk; omega)
      have Bx := Bx.upd X9 (fun hk => by have := lx _ hk; omega)
      have gg := gg.upd X9 (fun k hk hk' => by have := lx k hk'; have := lg k hk; omega)
      obtain ⟨K, hK⟩ : ∃ z : Int, z = 1 + ((numSched (S) : Nat) : Int) := ⟨_, rfl⟩
      rw [← hK]
      have pK : 0 ≤ K := by omega
      have rK : K ≤ 1000000000 := by have := nx; omega
      have HK := Lib.hid hK
      clear hK
      have dK : decide (K < 0) = false := by simp; omega
      clear hx9
      clear CBa LBa CBx LBx
      have CBa := Ba.cell; have LBa := Ba.lt
      have CBx := Bx.cell; have LBx := Bx.lt
      as_aux_lemma =>
       go_wp2_with fail
       refine (eq_Msgs ((gg.rd).ext (by (first | exact extT | omega))) ((gw.rd).ext (by (first | exact extT | omega)))).mono ?_
       rintro e w10 ⟨rfl, hx10⟩
       have X10 : Ext w9 w10 := by (first | exact extT | omega)
       have Z10 := X10.size
       have E10 : Ext w w10 := E9.trans X10
       have Ba := Ba.ext X10
       have gw := gw.ext X10
       have Bx := Bx.ext X10
       have gg := gg.ext X10
       clear hx10
       clear CBa LBa CBx LBx
       have CBa := Ba.cell; have LBa := Ba.lt
       have CBx := Bx.cell; have LBx := Bx.lt
       as_aux_lemma =>
        go_wp2_with fail
        refine (mark_Msgs (gg.ext (by (first | exact extT | omega))) (by omega) (by have := nb; omega)).mono ?_
        rintro e w11 ⟨rfl, hx11, gm⟩
        have X11 : Upd w10 w11 Fg := (Ext.upd (by (first | exact extT | omega)) _).trans hx11
        have Z11 := X11.size
        have E11 : Ext w w11 := E10.upd_below X11 (fun k hk => by have := lg k hk; omega)
        have Ba := Ba.upd X11 (fun hk => by have := lg _ hk; omega)
        have gw := gw.upd X11 (fun k hk hk' => by have := lg k hk'; have := lw k hk; omega)
        have Bx := Bx.upd X11 (fun hk => by have := lg _ hk; omega)
        obtain ⟨N, hN⟩ : ∃ z : Int, z = 1 + ((numMsgs (sendsL S) : Nat) : Int) := ⟨_, rfl⟩
        rw [← hN]
        have pN : 0 ≤ N := by omega
        have rN : N ≤ 1000000000 := by have := nb; omega
        have HN := Lib.hid hN
        clear hN
        have dN : decide (N < 0) = false := by simp; omega
        clear hx11
        clear CBa LBa CBx LBx
        have CBa := Ba.cell; have LBa := Ba.lt
        have CBx := Bx.cell; have LBx := Bx.lt
        as_aux_lemma =>
         go_wp2_with fail
         refine (held_Msgs (gm.ext (by (first | exact extT | omega))) (by omega) (by have := nb; omega)).mono ?_
         rintro e w12 ⟨rfl, hx12⟩
         rw [← HN.out]
         have X12 : Ext w11 w12 := by (first | exact extT | omega)
         have Z12 := X12.size
         have E12 : Ext w w12 := E11.trans X12
         have Ba := Ba.ext X12
         have gw := gw.ext X12
         have Bx := Bx.ext X12
         have gm := gm.ext X12
         clear hx12
         clear CBa LBa CBx LBx
         have CBa := Ba.cell; have LBa := Ba.lt
         have CBx := Bx.cell; have LBx := Bx.lt
         as_aux_lemma =>
          go_wp2_with fail
          refine (to_Sched (h0.ext (by (first | exact extT | omega))) q0).mono ?_
          rintro e w13 ⟨_, rfl, hx13, Fy, gy⟩
          obtain ⟨ay7, ny7, ky7, rfl⟩ := gy.rd.shape
          have ly := gy.low; (try simp only [World.size_alloc] at ly)
          have X13 : Ext w12 w13 := by (first | exact extT | omega)
          have Z13 := X13.size
          have E13 : Ext w w13 := E12.trans X13
          have Ba := Ba.ext X13
          have gw := gw.ext X13
          have Bx := Bx.ext X13
          have gm := gm.ext X13
          clear hx13
          clear CBa LBa CBx LBx
          have CBa := Ba.cell; have LBa := Ba.lt
          have CBx := Bx.cell; have LBx := Bx.lt
          go_wp2_with fail
          refine (sendsOf_k ((gy.rd).ext (by (first | exact extT | omega)))).mono ?_
          rintro e w14 ⟨_, rfl, hx14, Fh, gh⟩
          obtain ⟨ah0, nh0, kh0, rfl⟩ := gh.rd.shape
          have lh := gh.low; (try simp only [World.size_alloc] at lh)
          have X14 : Ext w13 w14 := by (first | exact extT | omega)
          have Z14 := X14.size
          have E14 : Ext w w14 := E13.trans X14
          have Ba := Ba.ext X14
          have gw := gw.ext X14
          have Bx := Bx.ext X14
          have gm := gm.ext X14
          have gy := gy.ext X14
          clear hx14
          clear CBa LBa CBx LBx
          have CBa := Ba.cell; have LBa := Ba.lt
          have CBx := Bx.cell; have LBx := Bx.lt
          as_aux_lemma =>
           go_wp2_with fail
           refine (eq_Msgs ((gh.rd).ext (by (first | exact extT | omega))) ((gw.rd).ext (by (first | exact extT | omega)))).mono ?_
           rintro e w15 ⟨rfl, hx15⟩
           have X15 : Ext w14 w15 := by (first | exact extT | omega)
           have Z15 := X15.size
           have E15 : Ext w w15 := E14.trans X15
           have Ba := Ba.ext X15
           have gw := gw.ext X15
           have Bx := Bx.ext X15
           have gm := gm.ext X15
           have gh := gh.ext X15
           clear hx15
           clear CBa LBa CBx LBx
           have CBa := Ba.cell; have LBa := Ba.lt
           have CBx := Bx.cell; have LBx := Bx.lt
           go_wp2_with fail
           refine (held_Msgs (gm.ext (by (first | exact extT | omega))) (by omega) (by have := nb; omega)).mono ?_
           rintro e w16 ⟨rfl, hx16⟩
           rw [← HN.out]
           have X16 : Ext w15 w16 := by (first | exact extT | omega)
           have Z16 := X16.size
           have E16 : Ext w w16 := E15.trans X16
           have Ba := Ba.ext X16
           have gw := gw.ext X16
           have Bx := Bx.ext X16
           have gm := gm.ext X16
           have gh := gh.ext X16
           clear hx16
           clear CBa LBa CBx LBx
           have CBa := Ba.cell; have LBa := Ba.lt
           have CBx := Bx.cell; have LBx := Bx.lt
           go_wp2
           go_ret
           exact ⟨rfl, E16⟩
end Go.Proofs.Ythihnangjghloaa

-- The statement FnExactSendsOf: for every input the law returns true.
namespace Go.Proofs.Ythihnangjghloaa.fnExactSendsOf
open Go.ChangeShapes Go.WideShapes Go.ChangeAt Go.RowKit Go.G8
open Go.Proofs.Ythihnangjghloaa.facts (b2)

set_option maxRecDepth 100000 in
theorem lifted (os : Os) (started : os.Started) (H : Type) (enc : TypeId × Value → H) :
  ReturnsInHanded {} Try.checked os 5 .any (Rows.fnExactSendsOfSpec.pre6 enc Try.prog Try.f5 Rows.fnExactSendsOfRow.domain false) (Rows.fnExactSendsOfSpec.post enc Try.prog Try.f5 false true false false) := by
 refine returnsInHanded_of_change (C := Try.checked) own started (by kernel_rfl) Try.func5
  (ChangeSpec.witness6 (enc := enc) (C := Try.checked) false ⟨#[], #[.agg #[.int .i64 0, .int .i64 0, .int .i64 0, .int .i64 0, .int .i64 0, .int .i64 0, .int .i64 0, .slice none 0 0, .bool false, .int .i64 0, .int .i64 0, .int .i64 0, .int .i64 0, .int .i64 0, .int .i64 0]], []⟩ 8 (by kernel_rfl) (by kernel_rfl) (by kernel_rfl) (by kernel_rfl)) ?_
 intro W base args ds gs before hval0 hW _ _
 have hval : ∀ (j : Nat) t v, Try.f5.params[j]? = some t → args[j]? = some v → Value.okWide Try.prog W .any base t v := hval0
 have hW' := hW
 obtain ⟨p, q, hA0, hV, rfl, hfz, hnd⟩ := hW
 have hA : DataW.TrodAll enc Try.prog W 0 (fun _ => true) true Try.f5.params.toList args.toList ds p := hA0
 rw [Try.params5] at hA hval
 obtain ⟨v0, vs0, d0, ds0, p0, q0, hargs, rfl, rfl, h0, r0⟩ := trodAll_cons hA
 obtain ⟨rfl, rfl, rfl⟩ := trodAll_nil r0
 obtain rfl : args = #[v0] := by cases args; simp_all
 obtain ⟨rfl, rfl⟩ := trodVars_none hV
 have k0 := h0
 have lt0 : ∀ x ∈ p0, x.block < W.heap.size := by obtain ⟨m, hm⟩ := k0; exact DataW.trod_lt m _ _ _ hm
 have hv0 := hval 0 61 v0 rfl rfl
 unfold Value.okWide at hv0
 rw [Try.underlying61] at hv0
 obtain ⟨cs0, rfl, _, _⟩ := hv0
 obtain ⟨m0, hm0⟩ := h0
 obtain ⟨c0_0, c0_1, c0_2, c0_3, c0_4, c0_5, c0_6, s0_7, l0_7, c0_8, c0_9, c0_10, c0_11, c0_12, c0_13, c0_14, e0, g0_7⟩ := rl_Sched hm0
 obtain rfl : cs0 = #[.int .i64 c0_0, .int .i64 c0_1, .int .i64 c0_2, .int .i64 c0_3, .int .i64 c0_4, .int .i64 c0_5, .int .i64 c0_6, s0_7, .bool c0_8, .int .i64 c0_9, .int .i64 c0_10, .int .i64 c0_11, .int .i64 c0_12, .int .i64 c0_13, .int .i64 c0_14] := by cases cs0; simp_all [Value.cells]
 clear hA0 hval0
 refine (law_SendsOf W _ _ _ _ _ _ _ _ _ _ _ _ _ _ _ _ g0_7).mono fun e W' ⟨he, bel0⟩ => ?_
 have bel : Below W.heap.size W W' := bel0
 subst he
 exact ⟨_, rfl, _, _, _, [], _, [], hW', trodAll_mk1 (shut_bool Try.underlying4 _), (trodAll_cons_mk (Below.trod laidOut (by kernel_rfl) (of_decide_eq_true (by kernel_rfl)) k0 bel lt0) trodAll_mk0), rfl, bel.frame _, fun h => by cases h⟩

theorem k0 : (Rows.fnExactSendsOfRow.wf (OpenSpec.ofChange Rows.fnExactSendsOfSpec)) = true := by kernel_rfl
theorem k1 : (laidOutB Try.checked.prog) = true := facts.k1
theorem k2 : (mapsRowed Try.checked.prog) = true := facts.k2
theorem k3 : (Try.f5.params.all (Try.checked.prog.readableRec ·)) = true := by kernel_rfl
theorem k4 : (namedTie Try.checked.prog Rows.fnExactSendsOfRow.named Rows.fnExactSendsOfSpec.vars) = true := by kernel_rfl
theorem k5 : ((Rows.fnExactSendsOfRow.stops == [])) = true := by kernel_rfl
theorem k6 : ((Try.checked.prog.stops == [])) = true := facts.k6
theorem k7 : ((Rows.fnExactSendsOfRow.knobs == [])) = true := by kernel_rfl
theorem k8 : ((Try.checked.prog.stopKnobs == [])) = true := facts.k8
theorem k9 : ((Rows.fnExactSendsOfRow.inPlace == Try.checked.prog.inPlace 5)) = true := by kernel_rfl
theorem k10 : ((Rows.fnExactSendsOfRow.unfollowed == Try.checked.prog.unfollowed 5)) = true := by kernel_rfl
theorem k11 : ((Rows.fnExactSendsOfRow.recurses == Try.checked.prog.recurses 5)) = true := by kernel_rfl
theorem k12 : ((Rows.fnExactSendsOfRow.named == Try.checked.prog.varsNamed 5)) = true := by kernel_rfl
theorem k13 : ((Rows.fnExactSendsOfRow.maps == (Try.f5.params.toList ++ Rows.fnExactSendsOfSpec.plain.varTypes Try.checked.prog).any (Try.checked.prog.mapsRec ·))) = true := by kernel_rfl
theorem k14 : ((Rows.fnExactSendsOfRow.ifaces == (Try.f5.params.toList ++ Rows.fnExactSendsOfSpec.plain.varTypes Try.checked.prog).any (Try.checked.prog.ifacesRec ·))) = true := by kernel_rfl
theorem k15 : ((Rows.fnExactSendsOfRow.mapsOut == Try.checked.prog.mapsAmong Try.f5.resultTypes.toList)) = true := by kernel_rfl
theorem k16 : ((Rows.fnExactSendsOfRow.loops == (Try.f5.params.toList ++ Rows.fnExactSendsOfSpec.plain.varTypes Try.checked.prog).any (Try.checked.prog.loopsFrom ·))) = true := by kernel_rfl
theorem k17 : ((Rows.fnExactSendsOfRow.wideKeys == (Try.f5.params.toList ++ Rows.fnExactSendsOfSpec.plain.varTypes Try.checked.prog ++ Try.f5.resultTypes.toList).any (Try.checked.prog.wideKeysFrom ·))) = true := by kernel_rfl
theorem k18 : (Rows.fnExactSendsOfSpec.vars.all (Try.checked.prog.varReadable ·)) = true := by kernel_rfl
theorem k19 : (Try.f5.resultTypes.all (fun t => Try.checked.prog.readableRec t && decide (t < Try.checked.prog.types.size))) = true := by kernel_rfl
theorem k20 : ((Rows.fnExactSendsOfRow.ifacesOut == Try.f5.resultTypes.toList.any (Try.checked.prog.ifacesRec ·))) = true := by kernel_rfl
theorem k21 : ((Rows.fnExactSendsOfRow.loopsOut == Try.f5.resultTypes.toList.any (Try.checked.prog.loopsFrom ·))) = true := by kernel_rfl
theorem k22 : ((Rows.fnExactSendsOfRow.plainKeys == Try.checked.prog.plainKeys)) = true := facts.k22
theorem k23 : (Rows.fnExactSendsOfRow.shortTexts.isNone) = true := by kernel_rfl
theorem k24 : (Try.checked.prog.stopsHeard) = true := facts.k24
theorem k25 : (Try.checked.prog.mayEnter) = true := facts.k25
theorem k26 : ((Rows.fnExactSendsOfRow.lifted == Try.checked.prog.liftsFinal)) = true := facts.k26
theorem k27 : ((Try.checked.prog.make == some Rows.fnExactSendsOfRow.make)) = true := facts.k27
theorem k28 : ((Rows.fnExactSendsOfRow.kinds == (if Rows.fnExactSendsOfRow.domain.isEmpty then [] else Try.f5.params.toList.map fun t => match Try.checked.prog.underlying t with | some (.int k) => some k | _ => none))) = true := by kernel_rfl
theorem k29 : ((Rows.fnExactSendsOfRow.pinned == Rows.fnExactSendsOfRow.pinnedBy)) = true := by kernel_rfl
theorem k30 : ((Rows.fnExactSendsOfRow.veiled == (Try.f5.params.toList ++ Rows.fnExactSendsOfSpec.plain.varTypes Try.checked.prog ++ Try.f5.resultTypes.toList).any (Try.checked.prog.veiledRec ·))) = true := by kernel_rfl
theorem k31 : (Rows.fnExactSendsOfRow.veiledFits Try.checked.prog Try.f5.params.toList (Try.f5.params.toList ++ Rows.fnExactSendsOfSpec.plain.varTypes Try.checked.prog ++ Try.f5.resultTypes.toList)) = true := by kernel_rfl
set_option maxRecDepth 100000 in
theorem closed : joinedFacts Try.checked.prog 5 Try.f5 Rows.fnExactSendsOfSpec Rows.fnExactSendsOfRow = true := by
 unfold joinedFacts
 exact (b2 (b2 (b2 (b2 (b2 (b2 (b2 (b2 (b2 (b2 (b2 (b2 (b2 (b2 (b2 (b2 (b2 (b2 (b2 (b2 (b2 (b2 (b2 (b2 (b2 (b2 (b2 (b2 (b2 (b2 (b2 k0 k1) k2) k3) k4) k5) k6) k7) k8) k9) k10) k11) k12) k13) k14) k15) k16) k17) k18) k19) k20) k21) k22) k23) k24) k25) k26) k27) k28) k29) k30) k31)

theorem proved : Rows.FnExactSendsOfSaid :=
 OpenClaim.holds_of_wide 5 Try.f5 rfl rfl rfl rfl rfl rfl rfl ⟨rfl, rfl, rfl, rfl, rfl⟩ rfl rfl rfl rfl rfl (by as_aux_lemma => kernel_rfl) Try.func5 closed
  (of_decide_eq_true (by as_aux_lemma => kernel_rfl)) (by as_aux_lemma => (unfold Func.isWrapper; rw [if_neg (of_decide_eq_false (by kernel_rfl))]; exact ⟨rfl, rfl⟩))
  (fun os started H enc _ => lifted os started H enc)
end Go.Proofs.Ythihnangjghloaa.fnExactSendsOf
