/- The statement's walk: FnExactNewStore. -/
import Derived.Test.YtghfklophkekjaaS5
namespace Go.Proofs.Ytghfklophkekjaa
open Go.RowKit Go.G8

theorem tot_newDisk : tot 0 (nestInt64S (newDisk 8).Kept) = 0 ∧ tot 1 (nestWrite (newDisk 8).Wait) = 0 := by simp [newDisk, inb, nestInt64S, nestWrite, tot]
set_option maxHeartbeats 4000000 in
set_option maxRecDepth 100000 in
theorem law_NewStore (w : World) : Calls Try.prog 5 #[] w (RetV w (.bool true)) := by
  obtain ⟨ht0, ht1⟩ := tot_newDisk
  have HT0 := Lib.hid ht0; have HT1 := Lib.hid ht1
  clear ht0 ht1
  go_enter Try.func5, Try.ntmps5
  go_wp2_with fail
  refine (sNewStore_c _).mono ?_
  rintro e w1 ⟨_, rfl, hx1, tw0, tw1, sw0, sw1, rfl, gw0, gw1, dw⟩
  obtain ⟨aw0, nw0, kw0, rfl⟩ := gw0.nest.shape
  obtain ⟨aw1, nw1, kw1, rfl⟩ := gw1.nest.shape
  have fw0 := gw0.foot; have fw1 := gw1.foot
  have E1 : Ext w w1 := hx1
  have Z1 := E1.size
  clear hx1
  go_wp2_with fail
  refine (newStore_c _).mono ?_
  rintro e w2 ⟨_, rfl, hx2, tg0, tg1, sg0, sg1, rfl, gg0, gg1, dg⟩
  obtain ⟨ag0, ng0, kg0, rfl⟩ := gg0.nest.shape
  obtain ⟨ag1, ng1, kg1, rfl⟩ := gg1.nest.shape
  have fg0 := gg0.foot; have fg1 := gg1.foot
  (try simp only [World.size_alloc] at fg0 fg1)
  have X2 : Ext w1 w2 := Ext.trans ((Ext.refl _).alloc _) hx2
  have Bw : Blk w2 w1.heap.size 55 #[.slice aw0 nw0 kw0, .slice aw1 nw1 kw1, .int .i64 0, .int .i64 0, .slice none 0 0, .slice none 0 0, .int .i64 0, .int .i64 0, .int .i64 0, .int .i64 0, .int .i64 0, .int .i64 0] := (Blk.new w1 _ _).ext hx2
  have Z2 := X2.size; have E2 := E1.trans X2
  have gw0 := gw0.ext X2
  have gw1 := gw1.ext X2
  clear hx2
  have CBw := Bw.cell; have LBw := Bw.lt
  go_wp2_with fail
  refine (eqStore_c _ _ _ _ _ _ _ _ _ _ _ [] _ _ [] _ _ _ _ _ _ (gg0.nest.ext (by repeat' (first | (with_reducible exact Ext.refl _) | (with_reducible assumption) | (with_reducible refine Ext.drewN ?_ _) | (with_reducible refine Ext.drew ?_) | (with_reducible refine Ext.alloc ?_ _) | (with_reducible refine Ext.setCell ?_ ?_ _) | (with_reducible refine Ext.setRow ?_ ?_ _) | (with_reducible exact Nat.le_refl _) | (with_reducible refine Ext.trans ?_ (by assumption)) | omega))) (gw0.nest.ext (by repeat' (first | (with_reducible exact Ext.refl _) | (with_reducible assumption) | (with_reducible refine Ext.drewN ?_ _) | (with_reducible refine Ext.drew ?_) | (with_reducible refine Ext.alloc ?_ _) | (with_reducible refine Ext.setCell ?_ ?_ _) | (with_reducible refine Ext.setRow ?_ ?_ _) | (with_reducible exact Nat.le_refl _) | (with_reducible refine Ext.trans ?_ (by assumption)) | omega))) (gg1.nest.ext (by repeat' (first | (with_reducible exact Ext.refl _) | (with_reducible assumption) | (with_reducible refine Ext.drewN ?_ _) | (with_reducible refine Ext.drew ?_) | (with_reducible refine Ext.alloc ?_ _) | (with_reducible refine Ext.setCell ?_ ?_ _) | (with_reducible refine Ext.setRow ?_ ?_ _) | (with_reducible exact Nat.le_refl _) | (with_reducible refine Ext.trans ?_ (by assumption)) | omega))) (gw1.nest.ext (by repeat' (first | (with_reducible exact Ext.refl _) | (with_reducible assumption) | (with_reducible refine Ext.drewN ?_ _) | (with_reducible refine Ext.drew ?_) | (with_reducible refine Ext.alloc ?_ _) | (with_reducible refine Ext.setCell ?_ ?_ _) | (with_reducible refine Ext.setRow ?_ ?_ _) | (with_reducible exact Nat.le_refl _) | (with_reducible refine Ext.trans ?_ (by assumption)) | omega))) (Ints.nil 2 _) (Ints.nil 2 _) (Ints.nil 5 _) (Ints.nil 5 _)).mono ?_
  rintro e w3 ⟨rfl, hx3⟩
  have X3 : Ext w2 w3 := Ext.trans ((Ext.refl _).alloc _) hx3
  have Bg : Blk w3 w2.heap.size 55 #[.slice ag0 ng0 kg0, .slice ag1 ng1 kg1, .int .i64 0, .int .i64 0, .slice none 0 0, .slice none 0 0, .int .i64 0, .int .i64 0, .int .i64 0, .int .i64 0, .int .i64 0, .int .i64 0] := (Blk.new w2 _ _).ext hx3
  have Z3 := X3.size; have E3 := E2.trans X3
  clear CBw LBw
  have gw0 := gw0.ext X3
  have gw1 := gw1.ext X3
  have gg0 := gg0.ext X3
  have gg1 := gg1.ext X3
  have Bw := Bw.ext X3
  clear hx3
  have CBw := Bw.cell; have LBw := Bw.lt
  have CBg := Bg.cell; have LBg := Bg.lt
  go_wp2_with fail
  refine (markStore_c _ _ _ _ _ _ _ _ _ _ _ [] 0 rfl _ [] 0 rfl _ _ _ _ _ _ 1 (gg0.ext (by repeat' (first | (with_reducible exact Ext.refl _) | (with_reducible assumption) | (with_reducible refine Ext.drewN ?_ _) | (with_reducible refine Ext.drew ?_) | (with_reducible refine Ext.alloc ?_ _) | (with_reducible refine Ext.setCell ?_ ?_ _) | (with_reducible refine Ext.setRow ?_ ?_ _) | (with_reducible exact Nat.le_refl _) | (with_reducible refine Ext.trans ?_ (by assumption)) | omega))) (gg1.ext (by repeat' (first | (with_reducible exact Ext.refl _) | (with_reducible assumption) | (with_reducible refine Ext.drewN ?_ _) | (with_reducible refine Ext.drew ?_) | (with_reducible refine Ext.alloc ?_ _) | (with_reducible refine Ext.setCell ?_ ?_ _) | (with_reducible refine Ext.setRow ?_ ?_ _) | (with_reducible exact Nat.le_refl _) | (with_reducible refine Ext.trans ?_ (by assumption)) | omega))) (OwnI.nil _ _ _ _) (OwnI.nil _ _ _ _) dg (fun k _ hk => by simp [feet, Value.ownBlock] at hk) (fun k hk => by simp [feet, Value.ownBlock] at hk) (by omega) (by rw [HT0.out, HT1.out]; omega)).mono ?_
  rintro e w4 ⟨rfl, hx4, gm0, gm1, -, -⟩
  have X4 : Upd w3 w4 _ := (Ext.upd (by repeat' (first | (with_reducible exact Ext.refl _) | (with_reducible assumption) | (with_reducible refine Ext.drewN ?_ _) | (with_reducible refine Ext.drew ?_) | (with_reducible refine Ext.alloc ?_ _) | (with_reducible refine Ext.setCell ?_ ?_ _) | (with_reducible refine Ext.setRow ?_ ?_ _) | (with_reducible exact Nat.le_refl _) | (with_reducible refine Ext.trans ?_ (by assumption)) | omega)) _).trans hx4
  have hft : ∀ k, k ∈ feet (Value.slice ag0 ng0 kg0 :: sg0) ++ feet (Value.slice ag1 ng1 kg1 :: sg1) ++ (feet [Value.slice none 0 0] ++ feet [Value.slice none 0 0]) → w1.heap.size + 1 ≤ k ∧ k < w2.heap.size := by
    intro k hk
    rcases List.mem_append.1 hk with hk | hk
    · rcases List.mem_append.1 hk with h | h
      · exact fg0 k h
      · exact fg1 k h
    · simp [feet, Value.ownBlock] at hk
  have Z4 := X4.size
  have E4 : Ext w w4 := E3.upd_below X4 (fun k hk => by have := hft k hk; omega)
  clear CBw LBw CBg LBg
  have gw0 := OwnNs.upd gw0 X4 (fun k h1 h2 => by have := hft k h2; have := fw0 k h1; omega)
  have gw1 := OwnNs.upd gw1 X4 (fun k h1 h2 => by have := hft k h2; have := fw1 k h1; omega)
  have Bw := Bw.upd X4 (fun hk => by have := hft _ hk; omega)
  have Bg := Bg.upd X4 (fun hk => by have := hft _ hk; omega)
  clear hx4
  have CBw := Bw.cell; have LBw := Bw.lt
  have CBg := Bg.cell; have LBg := Bg.lt
  obtain ⟨N, hN⟩ : ∃ z : Int, z = 1 + ((tot 0 (nestInt64S (newDisk 8).Kept) : Nat) : Int) + ((tot 1 (nestWrite (newDisk 8).Wait) : Nat) : Int) + ((0 * 2 : Nat) : Int) + ((0 * 5 : Nat) : Int) := ⟨_, rfl⟩
  rw [← hN]
  have pN : 0 ≤ N := by omega
  have HN := Lib.hid hN
  clear hN
  have dN : decide (N < 0) = false := by simp; omega
  go_wp2_with fail
  refine (heldStore_c _ _ (nestInt64S (newDisk 8).Kept) _ (nestWrite (newDisk 8).Wait) _ _ _ 0 _ 0 _ _ _ _ _ _ 1 (gm0.nest.ext (by repeat' (first | (with_reducible exact Ext.refl _) | (with_reducible assumption) | (with_reducible refine Ext.drewN ?_ _) | (with_reducible refine Ext.drew ?_) | (with_reducible refine Ext.alloc ?_ _) | (with_reducible refine Ext.setCell ?_ ?_ _) | (with_reducible refine Ext.setRow ?_ ?_ _) | (with_reducible exact Nat.le_refl _) | (with_reducible refine Ext.trans ?_ (by assumption)) | omega))) (gm1.nest.ext (by repeat' (first | (with_reducible exact Ext.refl _) | (with_reducible assumption) | (with_reducible refine Ext.drewN ?_ _) | (with_reducible refine Ext.drew ?_) | (with_reducible refine Ext.alloc ?_ _) | (with_reducible refine Ext.setCell ?_ ?_ _) | (with_reducible refine Ext.setRow ?_ ?_ _) | (with_reducible exact Nat.le_refl _) | (with_reducible refine Ext.trans ?_ (by assumption)) | omega))) (by simpa [run] using Ints.nil 2 _) (by simpa [run] using Ints.nil 5 _) (by omega) (by rw [HT0.out, HT1.out]; omega)).mono ?_
  rintro e w5 ⟨rfl, hx5⟩
  rw [← HN.out]
  have X5 : Ext w4 w5 := by repeat' (first | (with_reducible exact Ext.refl _) | (with_reducible assumption) | (with_reducible refine Ext.drewN ?_ _) | (with_reducible refine Ext.drew ?_) | (with_reducible refine Ext.alloc ?_ _) | (with_reducible refine Ext.setCell ?_ ?_ _) | (with_reducible refine Ext.setRow ?_ ?_ _) | (with_reducible exact Nat.le_refl _) | (with_reducible refine Ext.trans ?_ (by assumption)) | omega)
  have Z5 := X5.size; have E5 := E4.trans X5
  clear CBw LBw CBg LBg
  have gw0 := gw0.ext X5
  have gw1 := gw1.ext X5
  have gm0 := gm0.ext X5
  have gm1 := gm1.ext X5
  have Bw := Bw.ext X5
  have Bg := Bg.ext X5
  clear hx5
  have CBw := Bw.cell; have LBw := Bw.lt
  have CBg := Bg.cell; have LBg := Bg.lt
  go_wp2_with fail
  refine (newStore_c _).mono ?_
  rintro e w6 ⟨_, rfl, hx6, th0, th1, sh0, sh1, rfl, gh0, gh1, dh⟩
  obtain ⟨ah0, nh0, kh0, rfl⟩ := gh0.nest.shape
  obtain ⟨ah1, nh1, kh1, rfl⟩ := gh1.nest.shape
  have X6 : Ext w5 w6 := by repeat' (first | (with_reducible exact Ext.refl _) | (with_reducible assumption) | (with_reducible refine Ext.drewN ?_ _) | (with_reducible refine Ext.drew ?_) | (with_reducible refine Ext.alloc ?_ _) | (with_reducible refine Ext.setCell ?_ ?_ _) | (with_reducible refine Ext.setRow ?_ ?_ _) | (with_reducible exact Nat.le_refl _) | (with_reducible refine Ext.trans ?_ (by assumption)) | omega)
  have Z6 := X6.size; have E6 := E5.trans X6
  clear CBw LBw CBg LBg
  have gw0 := gw0.ext X6
  have gw1 := gw1.ext X6
  have gm0 := gm0.ext X6
  have gm1 := gm1.ext X6
  have Bw := Bw.ext X6
  have Bg := Bg.ext X6
  clear hx6
  have CBw := Bw.cell; have LBw := Bw.lt
  have CBg := Bg.cell; have LBg := Bg.lt
  go_wp2_with fail
  refine (eqStore_c _ _ _ _ _ _ _ _ _ _ _ [] _ _ [] _ _ _ _ _ _ (gh0.nest.ext (by repeat' (first | (with_reducible exact Ext.refl _) | (with_reducible assumption) | (with_reducible refine Ext.drewN ?_ _) | (with_reducible refine Ext.drew ?_) | (with_reducible refine Ext.alloc ?_ _) | (with_reducible refine Ext.setCell ?_ ?_ _) | (with_reducible refine Ext.setRow ?_ ?_ _) | (with_reducible exact Nat.le_refl _) | (with_reducible refine Ext.trans ?_ (by assumption)) | omega))) (gw0.nest.ext (by repeat' (first | (with_reducible exact Ext.refl _) | (with_reducible assumption) | (with_reducible refine Ext.drewN ?_ _) | (with_reducible refine Ext.drew ?_) | (with_reducible refine Ext.alloc ?_ _) | (with_reducible refine Ext.setCell ?_ ?_ _) | (with_reducible refine Ext.setRow ?_ ?_ _) | (with_reducible exact Nat.le_refl _) | (with_reducible refine Ext.trans ?_ (by assumption)) | omega))) (gh1.nest.ext (by repeat' (first | (with_reducible exact Ext.refl _) | (with_reducible assumption) | (with_reducible refine Ext.drewN ?_ _) | (with_reducible refine Ext.drew ?_) | (with_reducible refine Ext.alloc ?_ _) | (with_reducible refine Ext.setCell ?_ ?_ _) | (with_reducible refine Ext.setRow ?_ ?_ _) | (with_reducible exact Nat.le_refl _) | (with_reducible refine Ext.trans ?_ (by assumption)) | omega))) (gw1.nest.ext (by repeat' (first | (with_reducible exact Ext.refl _) | (with_reducible assumption) | (with_reducible refine Ext.drewN ?_ _) | (with_reducible refine Ext.drew ?_) | (with_reducible refine Ext.alloc ?_ _) | (with_reducible refine Ext.setCell ?_ ?_ _) | (with_reducible refine Ext.setRow ?_ ?_ _) | (with_reducible exact Nat.le_refl _) | (with_reducible refine Ext.trans ?_ (by assumption)) | omega))) (Ints.nil 2 _) (Ints.nil 2 _) (Ints.nil 5 _) (Ints.nil 5 _)).mono ?_
  rintro e w7 ⟨rfl, hx7⟩
  have X7 : Ext w6 w7 := Ext.trans ((Ext.refl _).alloc _) hx7
  have Z7 := X7.size; have E7 := E6.trans X7
  clear CBw LBw CBg LBg
  have gm0 := gm0.ext X7
  have gm1 := gm1.ext X7
  have Bw := Bw.ext X7
  have Bg := Bg.ext X7
  clear hx7
  have CBw := Bw.cell; have LBw := Bw.lt
  have CBg := Bg.cell; have LBg := Bg.lt
  go_wp2_with fail
  refine (heldStore_c _ _ (nestInt64S (newDisk 8).Kept) _ (nestWrite (newDisk 8).Wait) _ _ _ 0 _ 0 _ _ _ _ _ _ 1 (gm0.nest.ext (by repeat' (first | (with_reducible exact Ext.refl _) | (with_reducible assumption) | (with_reducible refine Ext.drewN ?_ _) | (with_reducible refine Ext.drew ?_) | (with_reducible refine Ext.alloc ?_ _) | (with_reducible refine Ext.setCell ?_ ?_ _) | (with_reducible refine Ext.setRow ?_ ?_ _) | (with_reducible exact Nat.le_refl _) | (with_reducible refine Ext.trans ?_ (by assumption)) | omega))) (gm1.nest.ext (by repeat' (first | (with_reducible exact Ext.refl _) | (with_reducible assumption) | (with_reducible refine Ext.drewN ?_ _) | (with_reducible refine Ext.drew ?_) | (with_reducible refine Ext.alloc ?_ _) | (with_reducible refine Ext.setCell ?_ ?_ _) | (with_reducible refine Ext.setRow ?_ ?_ _) | (with_reducible exact Nat.le_refl _) | (with_reducible refine Ext.trans ?_ (by assumption)) | omega))) (by simpa [run] using Ints.nil 2 _) (by simpa [run] using Ints.nil 5 _) (by omega) (by rw [HT0.out, HT1.out]; omega)).mono ?_
  rintro e w8 ⟨rfl, hx8⟩
  rw [← HN.out]
  have X8 : Ext w7 w8 := by repeat' (first | (with_reducible exact Ext.refl _) | (with_reducible assumption) | (with_reducible refine Ext.drewN ?_ _) | (with_reducible refine Ext.drew ?_) | (with_reducible refine Ext.alloc ?_ _) | (with_reducible refine Ext.setCell ?_ ?_ _) | (with_reducible refine Ext.setRow ?_ ?_ _) | (with_reducible exact Nat.le_refl _) | (with_reducible refine Ext.trans ?_ (by assumption)) | omega)
  go_wp2
  go_ret
  exact ⟨rfl, E7.trans X8⟩
end Go.Proofs.Ytghfklophkekjaa
