/- The statement FnExactNowIn: the walk and the row. -/
import Derived.Test.YticiijpcdagbdaaGreatGa
import Derived.Test.YticiijpcdagbdaaGreatB10
import Derived.Test.YticiijpcdagbdaaGreatB11
import Derived.Test.YticiijpcdagbdaaGreatB3
import Derived.Test.YticiijpcdagbdaaGreatGc
import Derived.Test.YticiijpcdagbdaaGreatB12
set_option linter.unusedSimpArgs false
set_option linter.unusedVariables false
set_option maxHeartbeats 40000000
set_option maxRecDepth 100000
namespace Go.G8
open Go.RowKit
open Go.Proofs.YticiijpcdagbdaaGreat
def nodeB (n : Int) : Bool := inb n 0 5
noncomputable def upInB (d : DWorld) (n : Int) : Bool := worldOk d && (nodeB n && upAt d n.toNat)
noncomputable def nowInI (d : DWorld) (n : Int) : Int := if worldOk d && nodeB n then d.Clocks[n.toNat]?.getD 0 else -1
theorem worldOk_up {d : DWorld} (h : worldOk d = true) : d.Up.length = 6 := by
 unfold worldOk at h
 simp only [Bool.and_eq_true, decide_eq_true_eq] at h
 exact h.2.1
theorem worldOk_clocks {d : DWorld} (h : worldOk d = true) : d.Clocks.length = 6 := by
 unfold worldOk clocksOk at h
 simp only [Bool.and_eq_true, decide_eq_true_eq] at h
 exact h.1.1
end Go.G8
namespace Go.Proofs.YticiijpcdagbdaaGreat
open Go.RowKit Go.G8
theorem nodeOk_c (w : World) (n : Int) : Calls Tryz.prog 58 #[.int .i64 n] w fun e w' => e = .returned (.bool (nodeB n)) ∧ w = w' := by
 go_enter Tryz.func58, Tryz.ntmps58
 go_wp2_with (first | (go_at_call 146; refine (between_c _ n 0 5).mono ?_; rintro e9 w9 ⟨rfl, rfl⟩))
 go_ret
 exact ⟨rfl, rfl⟩
theorem l22Node_c (w : World) (n : Int) : Calls Tryz.prog 57 #[.int .i64 n] w fun e w' => e = .returned (.bool (nodeB n)) ∧ w = w' := by
 go_enter Tryz.func57, Tryz.ntmps57
 go_wp2_with (first | (go_at_call 145; refine (l1In_c _ n 0 5).mono ?_; rintro e9 w9 ⟨rfl, rfl⟩))
 go_ret
 exact ⟨rfl, rfl⟩
theorem UpIn_k {w : World} {v : Value} {d : DWorld} (h : RdWorld w v d) (n : Int) :
  Calls Tryz.prog 13 #[v, .int .i64 n] w (RetV w (.bool (upInB d n))) := by
 have HH := Lib.hid h
 obtain ⟨p0, p1, p2, p3, p4, p5, p6, t7, t8, rfl, l0, l1, l2, l3, l4, l5, l6, g0, g1, g2, g3, g4, g5, g6, g7, g8⟩ := h
 obtain ⟨ua, uc, rfl, huc, hum, -⟩ := Sl.bools g8
 unfold maxLen at hum
 obtain ⟨un, hun⟩ : ∃ x, x = d.Up.length := ⟨_, rfl⟩
 rw [← hun] at huc ⊢
 have HUN := Lib.hid hun; clear hun
 obtain ⟨L, hL⟩ : ∃ L : List Value, L = (p0 ++ (p1 ++ (p2 ++ (p3 ++ (p4 ++ (p5 ++ (p6 ++ ([t7] ++ ([Value.slice ua un uc] ++ []))))))))) := ⟨_, rfl⟩
 have hLn : L.length = 73 := by rw [hL]; simp [l0, l1, l2, l3, l4, l5, l6]
 rw [← hL]
 have HV := Lib.hid (show RdWorld w (.agg L.toArray) d from by rw [hL, HUN.out]; exact HH.out)
 have h8 := g8
 rw [← HUN.out] at h8
 obtain ⟨W0, hW0⟩ : ∃ W0, W0 = w.alloc (.cells L.toArray 106) := ⟨_, rfl⟩
 have E0 : Ext w W0 := by rw [hW0]; exact (Ext.refl _).alloc _
 have BL : Bk W0 w.heap.size 106 L := by rw [hW0]; exact Bk.new _ _ _
 have RL : W0.rangeAt w.heap.size 0 L := Bk.range (A := []) (C := []) (Bk.cast BL (by simp)) rfl
 have BD : Bk W0 w.heap.size 106 (p0 ++ (p1 ++ (p2 ++ (p3 ++ (p4 ++ (p5 ++ (p6 ++ ([t7] ++ ([Value.slice ua un uc] ++ []))))))))) := Bk.cast BL hL
 have LW := BL.lt
 have cC : W0.cell? ⟨w.heap.size, 71, none⟩ = some t7 := Bk.cellAt (A := (p0 ++ p1 ++ p2 ++ p3 ++ p4 ++ p5 ++ p6)) (C := ([Value.slice ua un uc] ++ [])) (Bk.c BD) (by simp [l0, l1, l2, l3, l4, l5, l6])
 have cU : W0.cell? ⟨w.heap.size, 72, none⟩ = some (.slice ua un uc) := Bk.cellAt (A := (p0 ++ p1 ++ p2 ++ p3 ++ p4 ++ p5 ++ p6 ++ [t7])) (C := []) (Bk.c BD) (by simp [l0, l1, l2, l3, l4, l5, l6])
 clear hL BL BD
 go_enter Tryz.func13, Tryz.ntmps13
 go_upto_region 1 with (fail)
 rw [← hW0]
 clear hW0
 have g7 : Ints 1 w t7 d.Clocks := g7
 have gc := g7
 obtain ⟨ta, tn, tk, rfl, htl, htc, htm, htp⟩ := gc.open_
 simp only [Nat.mul_one] at htl htp
 unfold maxLen at htm
 have HTL := Lib.hid htl; have HTP := Lib.hid htp; clear htl htp
 go_wp2_with (first | (refine wpList_load_mid rfl 106 _ rfl w.heap.size 0 (by rfl) L _ (rangeAt_ext RL (by exact extT)) Tryz.underlying106 rfl (by rw [hLn]; kernel_rfl) ?_))
 refine (worldOk_k (HV.out.ext (by exact extT))).mono ?_
 rintro e w1 ⟨rfl, hx1⟩
 have X1 : Ext W0 w1 := hx1; clear hx1
 cases b1 : worldOk d
 ·
  go_wp2_with (fail)
  go_ret
  exact ⟨by rw [show upInB d n = false from by unfold upInB; simp [b1]]; try rfl, by exact extT⟩
 have B1 := Lib.hid b1; clear b1
 go_wp2_with fail
 refine (nodeOk_c _ n).mono ?_
 rintro e9 w9 ⟨rfl, rfl⟩
 cases b2 : nodeB n
 ·
  go_wp2_with (fail)
  go_ret
  exact ⟨by rw [show upInB d n = false from by unfold upInB; simp [b2]]; try rfl, by exact extT⟩
 have hn := inb_true.1 (show inb n 0 5 = true from b2)
 have B2 := Lib.hid b2; clear b2
 obtain ⟨m, hm⟩ : ∃ m : Nat, (m : Int) = n := ⟨n.toNat, by omega⟩
 subst hm
 have hm6 : m < 6 := by omega
 obtain ⟨ub, uo, uc2, eu, -, -, hub, hup⟩ := up_cells (show RdBoolS w _ d.Up from by rw [HUN.out] at h8; exact h8) (worldOk_up B1.out)
 have hu6 : un = 6 := by rw [HUN.out]; exact worldOk_up B1.out
 rw [← HUN.out] at eu
 have HU6 := Lib.hid hu6; clear hu6
 rw [HU6.out] at eu
 cases eu
 have hb : m < un := by have := HU6.out; omega
 have u0 := X1.cell (E0.cell (hup m hm6))
 have cU1 := X1.cell cU
 clear hup h8
 have HD := Lib.hid (show upInB d m = upAt d m from by unfold upInB; rw [B1.out, B2.out]; simp)
 go_wp2_with fail
 go_ret
 exact ⟨by rw [HD.out]; try rfl, by exact extT⟩
theorem NowIn_k {w : World} {v : Value} {d : DWorld} (h : RdWorld w v d) (n : Int) :
  Calls Tryz.prog 15 #[v, .int .i64 n] w (RetV w (.int .i64 (nowInI d n))) := by
 have HH := Lib.hid h
 obtain ⟨p0, p1, p2, p3, p4, p5, p6, t7, t8, rfl, l0, l1, l2, l3, l4, l5, l6, g0, g1, g2, g3, g4, g5, g6, g7, g8⟩ := h
 obtain ⟨ua, uc, rfl, huc, hum, -⟩ := Sl.bools g8
 unfold maxLen at hum
 obtain ⟨un, hun⟩ : ∃ x, x = d.Up.length := ⟨_, rfl⟩
 rw [← hun] at huc ⊢
 have HUN := Lib.hid hun; clear hun
 obtain ⟨L, hL⟩ : ∃ L : List Value, L = (p0 ++ (p1 ++ (p2 ++ (p3 ++ (p4 ++ (p5 ++ (p6 ++ ([t7] ++ ([Value.slice ua un uc] ++ []))))))))) := ⟨_, rfl⟩
 have hLn : L.length = 73 := by rw [hL]; simp [l0, l1, l2, l3, l4, l5, l6]
 rw [← hL]
 have HV := Lib.hid (show RdWorld w (.agg L.toArray) d from by rw [hL, HUN.out]; exact HH.out)
 have h8 := g8
 rw [← HUN.out] at h8
 obtain ⟨W0, hW0⟩ : ∃ W0, W0 = w.alloc (.cells L.toArray 106) := ⟨_, rfl⟩
 have E0 : Ext w W0 := by rw [hW0]; exact (Ext.refl _).alloc _
 have BL : Bk W0 w.heap.size 106 L := by rw [hW0]; exact Bk.new _ _ _
 have RL : W0.rangeAt w.heap.size 0 L := Bk.range (A := []) (C := []) (Bk.cast BL (by simp)) rfl
 have BD : Bk W0 w.heap.size 106 (p0 ++ (p1 ++ (p2 ++ (p3 ++ (p4 ++ (p5 ++ (p6 ++ ([t7] ++ ([Value.slice ua un uc] ++ []))))))))) := Bk.cast BL hL
 have LW := BL.lt
 have cC : W0.cell? ⟨w.heap.size, 71, none⟩ = some t7 := Bk.cellAt (A := (p0 ++ p1 ++ p2 ++ p3 ++ p4 ++ p5 ++ p6)) (C := ([Value.slice ua un uc] ++ [])) (Bk.c BD) (by simp [l0, l1, l2, l3, l4, l5, l6])
 have cU : W0.cell? ⟨w.heap.size, 72, none⟩ = some (.slice ua un uc) := Bk.cellAt (A := (p0 ++ p1 ++ p2 ++ p3 ++ p4 ++ p5 ++ p6 ++ [t7])) (C := []) (Bk.c BD) (by simp [l0, l1, l2, l3, l4, l5, l6])
 clear hL BL BD
 go_enter Tryz.func15, Tryz.ntmps15
 go_upto_region 1 with (fail)
 rw [← hW0]
 clear hW0
 have g7 : Ints 1 w t7 d.Clocks := g7
 have gc := g7
 obtain ⟨ta, tn, tk, rfl, htl, htc, htm, htp⟩ := gc.open_
 simp only [Nat.mul_one] at htl htp
 unfold maxLen at htm
 have HTL := Lib.hid htl; have HTP := Lib.hid htp; clear htl htp
 go_wp2_with (first | (refine wpList_load_mid rfl 106 _ rfl w.heap.size 0 (by rfl) L _ (rangeAt_ext RL (by exact extT)) Tryz.underlying106 rfl (by rw [hLn]; kernel_rfl) ?_))
 refine (worldOk_k (HV.out.ext (by exact extT))).mono ?_
 rintro e w1 ⟨rfl, hx1⟩
 have X1 : Ext W0 w1 := hx1; clear hx1
 cases b1 : worldOk d
 ·
  go_wp2_with (fail)
  go_ret
  exact ⟨by rw [show nowInI d n = -1 from by unfold nowInI; simp [b1]]; try rfl, by exact extT⟩
 have B1 := Lib.hid b1; clear b1
 go_wp2_with fail
 refine (nodeOk_c _ n).mono ?_
 rintro e9 w9 ⟨rfl, rfl⟩
 cases b2 : nodeB n
 ·
  go_wp2_with (fail)
  go_ret
  exact ⟨by rw [show nowInI d n = -1 from by unfold nowInI; simp [b2]]; try rfl, by exact extT⟩
 have hn := inb_true.1 (show inb n 0 5 = true from b2)
 have B2 := Lib.hid b2; clear b2
 obtain ⟨m, hm⟩ : ∃ m : Nat, (m : Int) = n := ⟨n.toNat, by omega⟩
 subst hm
 have hm6 : m < 6 := by omega
 have ht6 : tn = 6 := by rw [← HTL.out]; exact worldOk_clocks B1.out
 have HT6 := Lib.hid ht6; clear ht6
 have hb : m < tn := by have := HT6.out; omega
 obtain ⟨tb, tq, rfl, htb, hx⟩ := HTP.out m hb
 obtain ⟨x, hx1, hx2⟩ := hx 0 dC
 simp only [Nat.add_zero] at hx1 hx2
 have u0 := X1.cell (E0.cell hx2)
 have cC1 := X1.cell cC
 have HD := Lib.hid (show nowInI d m = x from by unfold nowInI; rw [B1.out, B2.out]; simp [hx1])
 clear hx hx1 hx2 HTP
 go_wp2_with fail
 go_ret
 exact ⟨by rw [HD.out]; try rfl, by exact extT⟩
theorem sUpIn_k {w : World} {v : Value} {d : DWorld} (h : RdWorld w v d) (n : Int) :
  Calls Tryz.prog 12 #[v, .int .i64 n] w (RetV w (.bool (upInB d n))) := by
 have HH := Lib.hid h
 obtain ⟨p0, p1, p2, p3, p4, p5, p6, t7, t8, rfl, l0, l1, l2, l3, l4, l5, l6, g0, g1, g2, g3, g4, g5, g6, g7, g8⟩ := h
 obtain ⟨ua, uc, rfl, huc, hum, -⟩ := Sl.bools g8
 unfold maxLen at hum
 obtain ⟨un, hun⟩ : ∃ x, x = d.Up.length := ⟨_, rfl⟩
 rw [← hun] at huc ⊢
 have HUN := Lib.hid hun; clear hun
 obtain ⟨L, hL⟩ : ∃ L : List Value, L = (p0 ++ (p1 ++ (p2 ++ (p3 ++ (p4 ++ (p5 ++ (p6 ++ ([t7] ++ ([Value.slice ua un uc] ++ []))))))))) := ⟨_, rfl⟩
 have hLn : L.length = 73 := by rw [hL]; simp [l0, l1, l2, l3, l4, l5, l6]
 rw [← hL]
 have HV := Lib.hid (show RdWorld w (.agg L.toArray) d from by rw [hL, HUN.out]; exact HH.out)
 have h8 := g8
 rw [← HUN.out] at h8
 obtain ⟨W0, hW0⟩ : ∃ W0, W0 = w.alloc (.cells L.toArray 106) := ⟨_, rfl⟩
 have E0 : Ext w W0 := by rw [hW0]; exact (Ext.refl _).alloc _
 have BL : Bk W0 w.heap.size 106 L := by rw [hW0]; exact Bk.new _ _ _
 have RL : W0.rangeAt w.heap.size 0 L := Bk.range (A := []) (C := []) (Bk.cast BL (by simp)) rfl
 have BD : Bk W0 w.heap.size 106 (p0 ++ (p1 ++ (p2 ++ (p3 ++ (p4 ++ (p5 ++ (p6 ++ ([t7] ++ ([Value.slice ua un uc] ++ []))))))))) := Bk.cast BL hL
 have LW := BL.lt
 have cC : W0.cell? ⟨w.heap.size, 71, none⟩ = some t7 := Bk.cellAt (A := (p0 ++ p1 ++ p2 ++ p3 ++ p4 ++ p5 ++ p6)) (C := ([Value.slice ua un uc] ++ [])) (Bk.c BD) (by simp [l0, l1, l2, l3, l4, l5, l6])
 have cU : W0.cell? ⟨w.heap.size, 72, none⟩ = some (.slice ua un uc) := Bk.cellAt (A := (p0 ++ p1 ++ p2 ++ p3 ++ p4 ++ p5 ++ p6 ++ [t7])) (C := []) (Bk.c BD) (by simp [l0, l1, l2, l3, l4, l5, l6])
 clear hL BL BD
 go_enter Tryz.func12, Tryz.ntmps12
 go_upto_region 1 with (fail)
 rw [← hW0]
 clear hW0
 have g7 : Ints 1 w t7 d.Clocks := g7
 have gc := g7
 obtain ⟨ta, tn, tk, rfl, htl, htc, htm, htp⟩ := gc.open_
 simp only [Nat.mul_one] at htl htp
 unfold maxLen at htm
 have HTL := Lib.hid htl; have HTP := Lib.hid htp; clear htl htp
 go_wp2_with (first | (refine wpList_load_mid rfl 106 _ rfl w.heap.size 0 (by rfl) L _ (rangeAt_ext RL (by exact extT)) Tryz.underlying106 rfl (by rw [hLn]; kernel_rfl) ?_))
 refine (sWorldOk_k (HV.out.ext (by exact extT))).mono ?_
 rintro e w1 ⟨rfl, hx1⟩
 have X1 : Ext W0 w1 := hx1; clear hx1
 cases b1 : worldOk d
 ·
  go_wp2_with (fail)
  go_ret
  exact ⟨by rw [show upInB d n = false from by unfold upInB; simp [b1]]; try rfl, by exact extT⟩
 have B1 := Lib.hid b1; clear b1
 go_wp2_with fail
 refine (l22Node_c _ n).mono ?_
 rintro e9 w9 ⟨rfl, rfl⟩
 cases b2 : nodeB n
 ·
  go_wp2_with (fail)
  go_ret
  exact ⟨by rw [show upInB d n = false from by unfold upInB; simp [b2]]; try rfl, by exact extT⟩
 have hn := inb_true.1 (show inb n 0 5 = true from b2)
 have B2 := Lib.hid b2; clear b2
 obtain ⟨m, hm⟩ : ∃ m : Nat, (m : Int) = n := ⟨n.toNat, by omega⟩
 subst hm
 have hm6 : m < 6 := by omega
 obtain ⟨ub, uo, uc2, eu, -, -, hub, hup⟩ := up_cells (show RdBoolS w _ d.Up from by rw [HUN.out] at h8; exact h8) (worldOk_up B1.out)
 have hu6 : un = 6 := by rw [HUN.out]; exact worldOk_up B1.out
 rw [← HUN.out] at eu
 have HU6 := Lib.hid hu6; clear hu6
 rw [HU6.out] at eu
 cases eu
 have hb : m < un := by have := HU6.out; omega
 have u0 := X1.cell (E0.cell (hup m hm6))
 have cU1 := X1.cell cU
 clear hup h8
 have HD := Lib.hid (show upInB d m = upAt d m from by unfold upInB; rw [B1.out, B2.out]; simp)
 go_wp2_with fail
 go_ret
 exact ⟨by rw [HD.out]; try rfl, by exact extT⟩
theorem sNowIn_k {w : World} {v : Value} {d : DWorld} (h : RdWorld w v d) (n : Int) :
  Calls Tryz.prog 14 #[v, .int .i64 n] w (RetV w (.int .i64 (nowInI d n))) := by
 have HH := Lib.hid h
 obtain ⟨p0, p1, p2, p3, p4, p5, p6, t7, t8, rfl, l0, l1, l2, l3, l4, l5, l6, g0, g1, g2, g3, g4, g5, g6, g7, g8⟩ := h
 obtain ⟨ua, uc, rfl, huc, hum, -⟩ := Sl.bools g8
 unfold maxLen at hum
 obtain ⟨un, hun⟩ : ∃ x, x = d.Up.length := ⟨_, rfl⟩
 rw [← hun] at huc ⊢
 have HUN := Lib.hid hun; clear hun
 obtain ⟨L, hL⟩ : ∃ L : List Value, L = (p0 ++ (p1 ++ (p2 ++ (p3 ++ (p4 ++ (p5 ++ (p6 ++ ([t7] ++ ([Value.slice ua un uc] ++ []))))))))) := ⟨_, rfl⟩
 have hLn : L.length = 73 := by rw [hL]; simp [l0, l1, l2, l3, l4, l5, l6]
 rw [← hL]
 have HV := Lib.hid (show RdWorld w (.agg L.toArray) d from by rw [hL, HUN.out]; exact HH.out)
 have h8 := g8
 rw [← HUN.out] at h8
 obtain ⟨W0, hW0⟩ : ∃ W0, W0 = w.alloc (.cells L.toArray 106) := ⟨_, rfl⟩
 have E0 : Ext w W0 := by rw [hW0]; exact (Ext.refl _).alloc _
 have BL : Bk W0 w.heap.size 106 L := by rw [hW0]; exact Bk.new _ _ _
 have RL : W0.rangeAt w.heap.size 0 L := Bk.range (A := []) (C := []) (Bk.cast BL (by simp)) rfl
 have BD : Bk W0 w.heap.size 106 (p0 ++ (p1 ++ (p2 ++ (p3 ++ (p4 ++ (p5 ++ (p6 ++ ([t7] ++ ([Value.slice ua un uc] ++ []))))))))) := Bk.cast BL hL
 have LW := BL.lt
 have cC : W0.cell? ⟨w.heap.size, 71, none⟩ = some t7 := Bk.cellAt (A := (p0 ++ p1 ++ p2 ++ p3 ++ p4 ++ p5 ++ p6)) (C := ([Value.slice ua un uc] ++ [])) (Bk.c BD) (by simp [l0, l1, l2, l3, l4, l5, l6])
 have cU : W0.cell? ⟨w.heap.size, 72, none⟩ = some (.slice ua un uc) := Bk.cellAt (A := (p0 ++ p1 ++ p2 ++ p3 ++ p4 ++ p5 ++ p6 ++ [t7])) (C := []) (Bk.c BD) (by simp [l0, l1, l2, l3, l4, l5, l6])
 clear hL BL BD
 go_enter Tryz.func14, Tryz.ntmps14
 go_upto_region 1 with (fail)
 rw [← hW0]
 clear hW0
 have g7 : Ints 1 w t7 d.Clocks := g7
 have gc := g7
 obtain ⟨ta, tn, tk, rfl, htl, htc, htm, htp⟩ := gc.open_
 simp only [Nat.mul_one] at htl htp
 unfold maxLen at htm
 have HTL := Lib.hid htl; have HTP := Lib.hid htp; clear htl htp
 go_wp2_with (first | (refine wpList_load_mid rfl 106 _ rfl w.heap.size 0 (by rfl) L _ (rangeAt_ext RL (by exact extT)) Tryz.underlying106 rfl (by rw [hLn]; kernel_rfl) ?_))
 refine (sWorldOk_k (HV.out.ext (by exact extT))).mono ?_
 rintro e w1 ⟨rfl, hx1⟩
 have X1 : Ext W0 w1 := hx1; clear hx1
 cases b1 : worldOk d
 ·
  go_wp2_with (fail)
  go_ret
  exact ⟨by rw [show nowInI d n = -1 from by unfold nowInI; simp [b1]]; try rfl, by exact extT⟩
 have B1 := Lib.hid b1; clear b1
 go_wp2_with fail
 refine (l22Node_c _ n).mono ?_
 rintro e9 w9 ⟨rfl, rfl⟩
 cases b2 : nodeB n
 ·
  go_wp2_with (fail)
  go_ret
  exact ⟨by rw [show nowInI d n = -1 from by unfold nowInI; simp [b2]]; try rfl, by exact extT⟩
 have hn := inb_true.1 (show inb n 0 5 = true from b2)
 have B2 := Lib.hid b2; clear b2
 obtain ⟨m, hm⟩ : ∃ m : Nat, (m : Int) = n := ⟨n.toNat, by omega⟩
 subst hm
 have hm6 : m < 6 := by omega
 have ht6 : tn = 6 := by rw [← HTL.out]; exact worldOk_clocks B1.out
 have HT6 := Lib.hid ht6; clear ht6
 have hb : m < tn := by have := HT6.out; omega
 obtain ⟨tb, tq, rfl, htb, hx⟩ := HTP.out m hb
 obtain ⟨x, hx1, hx2⟩ := hx 0 dC
 simp only [Nat.add_zero] at hx1 hx2
 have u0 := X1.cell (E0.cell hx2)
 have cC1 := X1.cell cC
 have HD := Lib.hid (show nowInI d m = x from by unfold nowInI; rw [B1.out, B2.out]; simp [hx1])
 clear hx hx1 hx2 HTP
 go_wp2_with fail
 go_ret
 exact ⟨by rw [HD.out]; try rfl, by exact extT⟩
theorem law_NowIn (w : World) (v : Value) (d : DWorld) (h0 : RdWorld w v d) (n : Int) :
  Calls Tryz.prog 5 #[v, .int .i64 n] w (RetV w (.bool true)) := by
 obtain ⟨L, rfl, hL, -⟩ := h0.cells
 obtain ⟨W0, hW0⟩ : ∃ W0, W0 = w.alloc (.cells L.toArray 65) := ⟨_, rfl⟩
 have E0 : Ext w W0 := by rw [hW0]; exact (Ext.refl _).alloc _
 have RL : W0.rangeAt w.heap.size 0 L := by rw [hW0]; exact Bk.range (A := []) (C := []) (Bk.cast (Bk.new _ _ _) (by simp)) rfl
 go_enter Tryz.func5, Tryz.ntmps5
 go_upto_region 1 with (fail)
 rw [← hW0]; clear hW0
 go_wp2_with (first | (refine wpList_load_mid rfl 65 _ rfl (w.heap.size) 0 (by rfl) L _ (rangeAt_ext RL (by exact extT)) Tryz.underlying65 rfl (by rw [hL]; kernel_rfl) ?_))
 refine (sz_World (h0.ext (by exact extT)) (left := 1048576) oM oM).mono ?_
 rintro e w1 ⟨v1, rfl, hx1, hv1⟩
 have X1 : Ext W0 w1 := hx1; clear hx1
 rcases hv1 with ⟨rfl, hq⟩ | ⟨rfl, hq⟩
 ·
  clear hq
  go_wp2_with fail
  go_ret
  exact ⟨rfl, by exact extT⟩
 obtain ⟨z, hz⟩ : ∃ z, z = (1048576 : Int) - (sznWorld d : Nat) := ⟨_, rfl⟩
 rw [← hz]
 have hd : decide (z < 0) = false := by simp; omega
 have hs : sznWorld d ≤ 1048576 := by omega
 clear hz hq
 go_wp2_with (first | (refine wpList_load_mid rfl 65 _ rfl (w.heap.size) 0 (by rfl) L _ (rangeAt_ext RL (by exact extT)) Tryz.underlying65 rfl (by rw [hL]; kernel_rfl) ?_))
 refine (to_World (h0.ext (by exact extT)) hs).mono ?_
 rintro e w2 ⟨u2, rfl, hx2, F2, o2⟩
 have X2 : Ext W0 w2 := X1.trans hx2; clear hx2
 go_wp2_with fail
 refine (sNowIn_k (o2.rd.ext (by exact extT)) n).mono ?_
 rintro e w3 ⟨rfl, hx3⟩
 have X3 : Ext W0 w3 := X2.trans hx3; clear hx3 o2
 obtain ⟨r, hr⟩ : ∃ r, r = nowInI d n := ⟨_, rfl⟩
 rw [← hr]; have HR := Lib.hid hr; clear hr
 as_aux_lemma =>
 go_wp2_with (first | (refine wpList_load_mid rfl 65 _ rfl (w.heap.size) 0 (by rfl) L _ (rangeAt_ext RL (by exact extT)) Tryz.underlying65 rfl (by rw [hL]; kernel_rfl) ?_))
 refine (to_World (h0.ext (by exact extT)) hs).mono ?_
 rintro e w4 ⟨u4, rfl, hx4, F4, o4⟩
 have X4 : Ext W0 w4 := X3.trans hx4; clear hx4
 obtain ⟨M, rfl, hM, oneM⟩ := o4.rd.cells
 go_wp2_with (first | (refine wpList_load_mid rfl 106 _ rfl (w4.heap.size) 0 (by rfl) M _ (rangeAt_ext RM (by exact extT)) Tryz.underlying106 rfl (by rw [hM]; kernel_rfl) ?_) | (refine wpList_store_part rfl 106 _ _ rfl w4.heap.size 0 (.agg M.toArray) M (by rfl) (by rfl) rfl 106 [] [Value.slice none 0 0, Value.slice none 0 0, Value.slice none 0 0, Value.slice none 0 0, Value.int .i64 0, Value.int .i64 0, Value.int .i64 0, Value.slice none 0 0, Value.int .i64 0, Value.int .i64 0, Value.int .i64 0, Value.slice none 0 0, Value.bool false, Value.int .i64 0, Value.int .i64 0, Value.slice none 0 0, Value.slice none 0 0, Value.int .i64 0, Value.slice none 0 0, Value.slice none 0 0, Value.slice none 0 0, Value.int .i64 0, Value.int .i64 0, Value.slice none 0 0, Value.slice none 0 0, Value.int .i64 0, Value.int .i64 0, Value.int .i64 0, Value.int .i64 0, Value.int .i64 0, Value.int .i64 0, Value.int .i64 0, Value.int .i64 0, Value.int .i64 0, Value.int .i64 0, Value.int .i64 0, Value.int .i64 0, Value.int .i64 0, Value.slice none 0 0, Value.bool false, Value.int .i64 0, Value.int .i64 0, Value.int .i64 0, Value.int .i64 0, Value.int .i64 0, Value.int .i64 0, Value.int .i64 0, Value.int .i64 0, Value.int .i64 0, Value.int .i64 0, Value.int .i64 0, Value.int .i64 0, Value.int .i64 0, Value.slice none 0 0, Value.bool false, Value.int .i64 0, Value.int .i64 0, Value.int .i64 0, Value.int .i64 0, Value.int .i64 0, Value.int .i64 0, Value.int .i64 0, Value.slice none 0 0, Value.slice none 0 0, Value.int .i64 0, Value.int .i64 0, Value.slice none 0 0, Value.slice none 0 0, Value.int .i64 0, Value.slice none 0 0, Value.slice none 0 0, Value.slice none 0 0, Value.slice none 0 0] [] (Bk.cast (Bk.new w4 106 [Value.slice none 0 0, Value.slice none 0 0, Value.slice none 0 0, Value.slice none 0 0, Value.int .i64 0, Value.int .i64 0, Value.int .i64 0, Value.slice none 0 0, Value.int .i64 0, Value.int .i64 0, Value.int .i64 0, Value.slice none 0 0, Value.bool false, Value.int .i64 0, Value.int .i64 0, Value.slice none 0 0, Value.slice none 0 0, Value.int .i64 0, Value.slice none 0 0, Value.slice none 0 0, Value.slice none 0 0, Value.int .i64 0, Value.int .i64 0, Value.slice none 0 0, Value.slice none 0 0, Value.int .i64 0, Value.int .i64 0, Value.int .i64 0, Value.int .i64 0, Value.int .i64 0, Value.int .i64 0, Value.int .i64 0, Value.int .i64 0, Value.int .i64 0, Value.int .i64 0, Value.int .i64 0, Value.int .i64 0, Value.int .i64 0, Value.slice none 0 0, Value.bool false, Value.int .i64 0, Value.int .i64 0, Value.int .i64 0, Value.int .i64 0, Value.int .i64 0, Value.int .i64 0, Value.int .i64 0, Value.int .i64 0, Value.int .i64 0, Value.int .i64 0, Value.int .i64 0, Value.int .i64 0, Value.int .i64 0, Value.slice none 0 0, Value.bool false, Value.int .i64 0, Value.int .i64 0, Value.int .i64 0, Value.int .i64 0, Value.int .i64 0, Value.int .i64 0, Value.int .i64 0, Value.slice none 0 0, Value.slice none 0 0, Value.int .i64 0, Value.int .i64 0, Value.slice none 0 0, Value.slice none 0 0, Value.int .i64 0, Value.slice none 0 0, Value.slice none 0 0, Value.slice none 0 0, Value.slice none 0 0]) (by simp)) rfl (by rw [hM]; rfl) (by rw [hM]; kernel_rfl) oneM ?_; intro V5 hV5 B5; have X5 : Ext W0 V5 := Ext.ofSet hV5 (by exact extT) (by have := X4.size; omega); have o5 := o4.keep (Chg.ofSet hV5 (Chg.ext (Chg.refl _ _) ((Ext.refl _).alloc _)) (Or.inr (Nat.le_refl _))); have RM : V5.rangeAt w4.heap.size 0 M := Bk.range (A := []) (C := []) (Bk.cast B5 (by simp)) rfl; clear hV5 B5 o4))
 refine (NowIn_k (o5.rd.ext (by exact extT)) n).mono ?_
 rintro e w6 ⟨rfl, hx6⟩
 have X6 : Ext W0 w6 := X5.trans hx6
 rw [← HR.out]
 have RM6 := rangeAt_ext RM hx6; have h6 := o5.rd.ext hx6; clear hx6 RM o5
 as_aux_lemma =>
 have hr1 : (r != r) = false := by simp
 go_upto_region 10 with (fail)
 have RL6 := rangeAt_ext RL X6
 have g0 := h0.ext (E0.trans X6)
 refine wp_region_held_drew (S := fun w' => Ext w6 w') (by kernel_rfl) (by (try dsimp only); exact extT) (fun hHeld => ?_)
 refine wpAnyH_take (i := 0) (v := .agg M.toArray) rfl (by kernel_rfl) (by kernel_rfl) (by kernel_rfl) (fun _ _ _ h => h) (yieldsIf_load_mid (by rfl) 106 _ rfl (w4.heap.size) 0 (by rfl) M _ (fun _ hSw => rangeAt_ext RM6 hSw) Tryz.underlying106 rfl (by rw [hM]; kernel_rfl)) (by assumption) ?_
 (try simp only [redA, Act.put])
 refine wpAnyH_take (i := 1) (v := .agg L.toArray) rfl (by kernel_rfl) (by kernel_rfl) (by kernel_rfl) (fun _ _ _ h => h) (yieldsIf_load_mid (by rfl) 65 _ rfl (w.heap.size) 0 (by rfl) L _ (fun _ hSw => rangeAt_ext RL6 hSw) Tryz.underlying65 rfl (by rw [hL]; kernel_rfl)) (by assumption) ?_
 (try simp only [redA, Act.put])
 refine wr1 2 fun Kz hKz => ?_
 (try simp only [redA])
 go_simp
 go_at_call 9
 refine (to_World (g0.ext (by exact extT)) hs).mono ?_
 rintro e w7 ⟨u7, rfl, hx7, F7, o7⟩
 have Y7 : Ext w6 w7 := Ext.trans (by exact extT) hx7
 clear hx7
 refine hKz.out _ _ (by (try dsimp only); exact extT) (fun hHeld => ?_)
 clear hKz Kz
 (try simp only [redA, Act.put])
 refine wr1 3 fun Kz hKz => ?_
 (try simp only [redA])
 go_simp
 go_at_call 11
 refine (eq_World (h6.ext (by exact extT)) (o7.rd.ext (by exact extT))).mono ?_
 rintro e w8 ⟨rfl, hx8⟩
 have Y8 : Ext w6 w8 := Ext.trans (by exact extT) hx8
 clear hx8
 refine hKz.out _ _ (by (try dsimp only); exact extT) (fun hHeld => ?_)
 clear hKz Kz
 (try simp only [redA, Act.put])
 refine wt 4 ?_
 (try simp only [redA, Act.put])
 refine wpAnyH_done (by kernel_rfl) ?_ _
 go_wp2_with fail
 go_ret
 exact ⟨rfl, by exact extT⟩
end Go.Proofs.YticiijpcdagbdaaGreat
namespace Go.Proofs.YticiijpcdagbdaaGreat.fnExactNowIn
open Go.ChangeShapes Go.WideShapes Go.ChangeAt Go.RowKit Go.G8
open Go.Proofs.YticiijpcdagbdaaGreat.facts (b2)
theorem lifted (os : Os) (started : os.Started) (H : Type) (enc : TypeId × Value → H) :
  ReturnsInHanded {} Tryz.checked os 5 .any (Rows.fnExactNowInSpec.pre6 enc Tryz.prog Tryz.f5 Rows.fnExactNowInRow.domain false) (Rows.fnExactNowInSpec.post enc Tryz.prog Tryz.f5 false true false false) := by
 refine returnsInHanded_of_change (C := Tryz.checked) own started (by kernel_rfl) Tryz.func5
  (ChangeSpec.witness6 (enc := enc) (C := Tryz.checked) false ⟨#[], #[.agg #[.slice none 0 0, .slice none 0 0, .slice none 0 0, .slice none 0 0, .int .i64 0, .int .i64 0, .int .i64 0, .slice none 0 0, .int .i64 0, .int .i64 0, .int .i64 0, .slice none 0 0, .bool false, .int .i64 0, .int .i64 0, .slice none 0 0, .slice none 0 0, .int .i64 0, .slice none 0 0, .slice none 0 0, .slice none 0 0, .int .i64 0, .int .i64 0, .slice none 0 0, .slice none 0 0, .int .i64 0, .int .i64 0, .int .i64 0, .int .i64 0, .int .i64 0, .int .i64 0, .int .i64 0, .int .i64 0, .int .i64 0, .int .i64 0, .int .i64 0, .int .i64 0, .int .i64 0, .slice none 0 0, .bool false, .int .i64 0, .int .i64 0, .int .i64 0, .int .i64 0, .int .i64 0, .int .i64 0, .int .i64 0, .int .i64 0, .int .i64 0, .int .i64 0, .int .i64 0, .int .i64 0, .int .i64 0, .slice none 0 0, .bool false, .int .i64 0, .int .i64 0, .int .i64 0, .int .i64 0, .int .i64 0, .int .i64 0, .int .i64 0, .slice none 0 0, .slice none 0 0, .int .i64 0, .int .i64 0, .slice none 0 0, .slice none 0 0, .int .i64 0, .slice none 0 0, .slice none 0 0, .slice none 0 0, .slice none 0 0], .int .i64 0], []⟩ 8 (by kernel_rfl) (by kernel_rfl) (by kernel_rfl) (by kernel_rfl)) ?_
 intro W base args ds gs before hval0 hW _ _
 have hval : ∀ (j : Nat) t v, Tryz.f5.params[j]? = some t → args[j]? = some v → Value.okWide Tryz.prog W .any base t v := hval0
 have hW' := hW
 obtain ⟨p, q, hA0, hV, rfl, hfz, hnd⟩ := hW
 have hA : DataW.TrodAll enc Tryz.prog W 0 (fun _ => true) true Tryz.f5.params.toList args.toList ds p := hA0
 rw [Tryz.params5] at hA hval
 obtain ⟨v0, vs0, d0, ds0, p0, q0, hargs, rfl, rfl, h0, r0⟩ := trodAll_cons hA
 obtain ⟨v1, vs1, d1, ds1, p1, q1, rfl, rfl, rfl, h1, r1⟩ := trodAll_cons r0
 obtain ⟨rfl, rfl, rfl⟩ := trodAll_nil r1
 obtain rfl : args = #[v0, v1] := by cases args; simp_all
 obtain ⟨rfl, rfl⟩ := trodVars_none hV
 have k0 := h0
 have lt0 : ∀ x ∈ p0, x.block < W.heap.size := by obtain ⟨m, hm⟩ := k0; exact DataW.trod_lt m _ _ _ hm
 have hv0 := hval 0 65 v0 rfl rfl
 unfold Value.okWide at hv0
 rw [Tryz.underlying65] at hv0
 obtain ⟨cs0, rfl, _, _⟩ := hv0
 obtain ⟨m0, hm0⟩ := h0
 obtain ⟨d0', g0⟩ := rk_World hm0
 have g0 : RdWorld W (.agg cs0) d0' := by simpa [Value.cells] using g0
 obtain ⟨a1, rfl, rfl, rfl, w1⟩ := open_int Tryz.underlying2 (hval 1 2 v1 rfl rfl) h1
 clear hA0 hval0
 refine (law_NowIn W _ d0' g0 a1).mono fun e W' ⟨he, bel0⟩ => ?_
 have bel : Below W.heap.size W W' := bel0
 subst he
 exact ⟨_, rfl, _, _, _, [], _, [], hW', trodAll_mk1 (shut_bool Tryz.underlying4 _), (trodAll_cons_mk (Below.trod laidOut (by kernel_rfl) (of_decide_eq_true (by kernel_rfl)) k0 bel lt0) (trodAll_cons_mk (shut_int Tryz.underlying2 w1) trodAll_mk0)), rfl, bel.frame _, fun h => by cases h⟩
theorem k0 : (Rows.fnExactNowInRow.wf (OpenSpec.ofChange Rows.fnExactNowInSpec)) = true := by kernel_rfl
theorem k1 : (laidOutB Tryz.checked.prog) = true := facts.k1
theorem k2 : (mapsRowed Tryz.checked.prog) = true := facts.k2
theorem k3 : (Tryz.f5.params.all (Tryz.checked.prog.readableRec ·)) = true := by kernel_rfl
theorem k4 : (namedTie Tryz.checked.prog Rows.fnExactNowInRow.named Rows.fnExactNowInSpec.vars) = true := by kernel_rfl
theorem k5 : ((Rows.fnExactNowInRow.stops == [])) = true := by kernel_rfl
theorem k6 : ((Tryz.checked.prog.stops == [])) = true := facts.k6
theorem k7 : ((Rows.fnExactNowInRow.knobs == [])) = true := by kernel_rfl
theorem k8 : ((Tryz.checked.prog.stopKnobs == [])) = true := facts.k8
theorem k9 : ((Rows.fnExactNowInRow.inPlace == Tryz.checked.prog.inPlace 5)) = true := by kernel_rfl
theorem k10 : ((Rows.fnExactNowInRow.unfollowed == Tryz.checked.prog.unfollowed 5)) = true := by kernel_rfl
theorem k11 : ((Rows.fnExactNowInRow.recurses == Tryz.checked.prog.recurses 5)) = true := by kernel_rfl
theorem k12 : ((Rows.fnExactNowInRow.named == Tryz.checked.prog.varsNamed 5)) = true := by kernel_rfl
theorem k13 : ((Rows.fnExactNowInRow.maps == (Tryz.f5.params.toList ++ Rows.fnExactNowInSpec.plain.varTypes Tryz.checked.prog).any (Tryz.checked.prog.mapsRec ·))) = true := by kernel_rfl
theorem k14 : ((Rows.fnExactNowInRow.ifaces == (Tryz.f5.params.toList ++ Rows.fnExactNowInSpec.plain.varTypes Tryz.checked.prog).any (Tryz.checked.prog.ifacesRec ·))) = true := by kernel_rfl
theorem k15 : ((Rows.fnExactNowInRow.mapsOut == Tryz.checked.prog.mapsAmong Tryz.f5.resultTypes.toList)) = true := by kernel_rfl
theorem k16 : ((Rows.fnExactNowInRow.loops == (Tryz.f5.params.toList ++ Rows.fnExactNowInSpec.plain.varTypes Tryz.checked.prog).any (Tryz.checked.prog.loopsFrom ·))) = true := by kernel_rfl
theorem k17 : ((Rows.fnExactNowInRow.wideKeys == (Tryz.f5.params.toList ++ Rows.fnExactNowInSpec.plain.varTypes Tryz.checked.prog ++ Tryz.f5.resultTypes.toList).any (Tryz.checked.prog.wideKeysFrom ·))) = true := by kernel_rfl
theorem k18 : (Rows.fnExactNowInSpec.vars.all (Tryz.checked.prog.varReadable ·)) = true := by kernel_rfl
theorem k19 : (Tryz.f5.resultTypes.all (fun t => Tryz.checked.prog.readableRec t && decide (t < Tryz.checked.prog.types.size))) = true := by kernel_rfl
theorem k20 : ((Rows.fnExactNowInRow.ifacesOut == Tryz.f5.resultTypes.toList.any (Tryz.checked.prog.ifacesRec ·))) = true := by kernel_rfl
theorem k21 : ((Rows.fnExactNowInRow.loopsOut == Tryz.f5.resultTypes.toList.any (Tryz.checked.prog.loopsFrom ·))) = true := by kernel_rfl
theorem k22 : ((Rows.fnExactNowInRow.plainKeys == Tryz.checked.prog.plainKeys)) = true := facts.k22
theorem k23 : (Rows.fnExactNowInRow.shortTexts.isNone) = true := by kernel_rfl
theorem k24 : (Tryz.checked.prog.stopsHeard) = true := facts.k24
theorem k25 : (Tryz.checked.prog.mayEnter) = true := facts.k25
theorem k26 : ((Rows.fnExactNowInRow.lifted == Tryz.checked.prog.liftsFinal)) = true := facts.k26
theorem k27 : ((Tryz.checked.prog.make == some Rows.fnExactNowInRow.make)) = true := facts.k27
theorem k28 : ((Rows.fnExactNowInRow.kinds == (if Rows.fnExactNowInRow.domain.isEmpty then [] else Tryz.f5.params.toList.map fun t => match Tryz.checked.prog.underlying t with | some (.int k) => some k | _ => none))) = true := by kernel_rfl
theorem k29 : ((Rows.fnExactNowInRow.pinned == Rows.fnExactNowInRow.pinnedBy)) = true := by kernel_rfl
theorem k30 : ((Rows.fnExactNowInRow.veiled == (Tryz.f5.params.toList ++ Rows.fnExactNowInSpec.plain.varTypes Tryz.checked.prog ++ Tryz.f5.resultTypes.toList).any (Tryz.checked.prog.veiledRec ·))) = true := by kernel_rfl
theorem k31 : (Rows.fnExactNowInRow.veiledFits Tryz.checked.prog Tryz.f5.params.toList (Tryz.f5.params.toList ++ Rows.fnExactNowInSpec.plain.varTypes Tryz.checked.prog ++ Tryz.f5.resultTypes.toList)) = true := by kernel_rfl
theorem closed : joinedFacts Tryz.checked.prog 5 Tryz.f5 Rows.fnExactNowInSpec Rows.fnExactNowInRow = true := by
 unfold joinedFacts
 exact (b2 (b2 (b2 (b2 (b2 (b2 (b2 (b2 (b2 (b2 (b2 (b2 (b2 (b2 (b2 (b2 (b2 (b2 (b2 (b2 (b2 (b2 (b2 (b2 (b2 (b2 (b2 (b2 (b2 (b2 (b2 k0 k1) k2) k3) k4) k5) k6) k7) k8) k9) k10) k11) k12) k13) k14) k15) k16) k17) k18) k19) k20) k21) k22) k23) k24) k25) k26) k27) k28) k29) k30) k31)
theorem proved : Rows.FnExactNowInSaid :=
 OpenClaim.holds_of_wide 5 Tryz.f5 rfl rfl rfl rfl rfl rfl rfl ⟨rfl, rfl, rfl, rfl, rfl⟩ rfl rfl rfl rfl rfl (by as_aux_lemma => kernel_rfl) Tryz.func5 closed
  (of_decide_eq_true (by as_aux_lemma => kernel_rfl)) (by as_aux_lemma => (unfold Func.isWrapper; rw [if_neg (of_decide_eq_false (by kernel_rfl))]; exact ⟨rfl, rfl⟩))
  (fun os started H enc _ => lifted os started H enc)
end Go.Proofs.YticiijpcdagbdaaGreat.fnExactNowIn
