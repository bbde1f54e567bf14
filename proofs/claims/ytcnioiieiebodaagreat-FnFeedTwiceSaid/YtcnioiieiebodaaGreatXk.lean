/- Contracts and plain laws: DSH. -/
import Derived.Test.YtcnioiieiebodaaGreatYa
import Derived.Test.YtcnioiieiebodaaGreatYp
set_option linter.unusedSimpArgs false
set_option linter.unusedVariables false
set_option maxHeartbeats 8000000
set_option maxRecDepth 100000
namespace Go.Proofs.YtcnioiieiebodaaGreat
open Go.RowKit Go.G8
theorem l18Draw_c {B : Nat} {w : World} {g : Nat} (h : Cur B w g) : Calls Tryz.prog 181 #[.pointer (some ⟨g, 0, none⟩)] w (Dr B w g fun v w' => ∃ s : DShot, IsShot w.heap.size w' v s) := by
 have hc0 := h; have E0 : Upd w w [g] := Upd.refl _ _
 have hg0 := h.lt
 go_enter Tryz.func181, Tryz.ntmps181
 go_wp2_with fail
 refine (sNewState_c _).mono ?_
 rintro e w1 ⟨rfl, hx1⟩
 have hz1 := hx1.size; (try simp only [szA] at hz1)
 have E1 : Upd w w1 [g] := Upd.ext (by exact updT) hx1
 have hc1 : Cur B w1 g := Cur.ext (by exact curT) hx1
 have KR1 : Blk w1 w.heap.size 208 #[.int .i64 0, .int .i64 0, .int .i64 0, .slice none 0 0, .slice none 0 0, .int .i64 0, .int .i64 0, .int .i64 0] := Blk.ext bD hx1
 clear hx1
 obtain ⟨CR1, FR1, LR1⟩ := KR1.cfl
 go_wp2_with fail
 refine (l1Below_c (cU B) 18).mono ?_
 rintro e w2 ⟨_, rfl, X2, hc2, n, rfl, pn, qn, rn⟩
 have hz2 := X2.sz
 have E2 : Upd w w2 [g] := X2.up
 have KR2 := KR1.upv X2
 clear X2
 clear CR1 FR1 LR1
 obtain ⟨CR2, FR2, LR2⟩ := KR2.cfl
 have qn := qn dC; clear rn
 obtain ⟨N0, rfl⟩ := Int.eq_ofNat_of_zero_le pn
 obtain ⟨N, hN⟩ : ∃ N : Nat, 1 + (N0 : Int) = (N : Int) := ⟨1 + N0, by omega⟩
 go_wp2_with fail
 refine (drawEntries_c (cU B) (M := w.heap.size) oM (IsState.nil _ _) oM N oM).mono ?_
 rintro e w3 ⟨_, rfl, X3, hc3, u, x, l, s, rfl, Ol, hl, hs, hok⟩
 have hz3 := X3.sz
 have E3 : Upd w w3 [g] := X3.up
 have KR3 := KR2.upv X3
 clear X3
 clear CR2 FR2 LR2
 obtain ⟨CR3, FR3, LR3⟩ := KR3.cfl
 obtain ⟨t2, t3, rfl, h2, h3⟩ := hs
 obtain ⟨a2, n2, k2, rfl⟩ := h2.shape
 obtain ⟨a3, n3, k3, rfl⟩ := h3.shape
 have Op3 := h2; have Oj3 := h3; clear h2 h3
 go_wp2_with fail
 refine (l1Once_c (cU B) 3).mono ?_
 rintro e w4 ⟨_, rfl, X4, hc4, b1, rfl⟩
 have hz4 := X4.sz
 have E4 : Upd w w4 [g] := X4.up
 have KR4 := KR3.upv X4
 have KD4 : Blk w4 w3.heap.size 63 #[.int .i64 s.Index, .int .i64 s.Time, .slice a2 n2 k2, .slice a3 n3 k3, .int .i64 s.Lease.Holder, .int .i64 s.Lease.Epoch, .int .i64 s.Lease.Until] := bU X4
 have Op4 : OwnI w.heap.size 157 2 w4 (.slice a2 n2 k2) (flPair s.Pairs) := OwnI.drawn (ow_ex0n Op3 KR3) X4 oM
 have Oj4 : OwnI w.heap.size 142 5 w4 (.slice a3 n3 k3) (flJob s.Jobs) := OwnI.drawn (ow_ex0n Oj3 KR3) X4 oM
 clear X4
 clear CR3 FR3 LR3
 obtain ⟨CR4, FR4, LR4⟩ := KR4.cfl
 obtain ⟨CD4, FD4, LD4⟩ := KD4.cfl
 cases b1
 rotate_left
 ·
  go_wp2_with fail
  refine wh (S := fun w' => Upd w w' [g] ∧ Cur B w' g) fun hHeld => ?_
  refine wt 0 ?_
  (try simp only [redA, Act.put])
  refine wt 2 ?_
  (try simp only [redA, Act.put])
  refine wr2 1 3 (fun Kz hKz => ?_) fun Kz hKz => ?_
  ·
   (try simp only [redA])
   go_simp
   refine hKz.o2 fun hHeld => ?_
   clear hKz Kz
   (try simp only [redA, Act.put])
   refine wr1 3 fun Kz hKz => ?_
   (try simp only [redA])
   go_simp
   go_at_call 30
   refine (l1Below_c (cU B) 20).mono ?_
   rintro e w5 ⟨_, rfl, X5, hc5, x0, rfl, px0, qx0, rx0⟩
   have hz5 := X5.sz
   have E5 : Upd w w5 [g] := X5.up
   have KR5 := KR4.upv X5
   have KD5 := KD4.upv X5
   have Op5 := OwnI.drawn (ow_ex0x1y01n Op4 KR4 KD4) X5 oM
   have Oj5 := OwnI.drawn (ow_ex0x1y01n Oj4 KR4 KD4) X5 oM
   clear X5
   clear CR4 FR4 LR4 CD4 FD4 LD4
   obtain ⟨CR5, FR5, LR5⟩ := KR5.cfl
   obtain ⟨CD5, FD5, LD5⟩ := KD5.cfl
   refine hKz.o2 fun hHeld => ?_
   clear hKz Kz
   (try simp only [redA, Act.put])
   refine wr1 4 fun Kz hKz => ?_
   (try simp only [redA])
   have qx0 := qx0 dC; clear rx0
   obtain ⟨N2, rfl⟩ := Int.eq_ofNat_of_zero_le px0
   go_simp
   go_at_call 103
   refine (drawEntries_c (cU B) (M := w.heap.size) oM (s := s) ⟨_, _, rfl, (by exact ownT), (by exact ownT)⟩ zT N2 oM).mono ?_
   rintro e w6 ⟨_, rfl, X6, hc6, u2, x2, l2, s2, rfl, Ol2, hl2, hs2, hok2⟩
   have hz6 := X6.sz
   have E6 : Upd w w6 [g] := X6.up
   have KR6 := KR5.upv X6
   have KD6 := KD5.upv X6
   have Op6 := OwnI.drawn (ow_ex0x1y01n Op5 KR5 KD5) X6 oM
   have Oj6 := OwnI.drawn (ow_ex0x1y01n Oj5 KR5 KD5) X6 oM
   clear X6
   clear CR5 FR5 LR5 CD5 FD5 LD5
   obtain ⟨CR6, FR6, LR6⟩ := KR6.cfl
   obtain ⟨CD6, FD6, LD6⟩ := KD6.cfl
   obtain ⟨t4, t5, rfl, h4, h5⟩ := hs2
   obtain ⟨a4, n4, k4, rfl⟩ := h4.shape
   obtain ⟨a5, n5, k5, rfl⟩ := h5.shape
   clear Op6 Oj6
   have Op6 := h4; have Oj6 := h5; clear h4 h5
   refine hKz.o2 fun hHeld => ?_
   clear hKz Kz
   (try simp only [redA, Act.put])
   refine wt 5 ?_
   (try simp only [redA, Act.put])
   refine wt 6 ?_
   (try simp only [redA, Act.put])
   refine wt 7 ?_
   (try simp only [redA, Act.put])
   refine wr1 8 fun Kz hKz => ?_
   (try simp only [redA])
   go_simp
   refine hKz.o2 fun hHeld => ?_
   clear hKz Kz
   (try simp only [redA, Act.put])
   refine wpAnyH_done (by kernel_rfl) ?_ _
   go_wp2_with fail
   refine wp_region_held_drew (S := fun w' => Upd w w' [g] ∧ Cur B w' g ∧ Blk w' w3.heap.size 63 #[.int .i64 s2.Index, .int .i64 s2.Time, .slice a4 n4 k4, .slice a5 n5 k5, .int .i64 s2.Lease.Holder, .int .i64 s2.Lease.Epoch, .int .i64 s2.Lease.Until]) (by kernel_rfl) (by (try dsimp only); exact ⟨(by exact updT), (by exact curT), bC⟩) (fun hHeld => ?_)
   refine wt 0 ?_
   (try simp only [redA, Act.put])
   refine wtq 3 (fun _ h => h.2.2.cell) ?_
   (try simp only [redA, Act.put])
   refine wr1 1 fun Kz hKz => ?_
   (try simp only [redA])
   go_simp
   go_at_call 30
   refine (l1Below_c (cU B) 6).mono ?_
   rintro e w7 ⟨_, rfl, X7, hc7, z, rfl, pz, qz, rz⟩
   have hz7 := X7.sz
   have E7 : Upd w w7 [g] := X7.up
   have KR7 := KR6.upv X7
   have KD7 : Blk w7 w3.heap.size 63 #[.int .i64 s2.Index, .int .i64 s2.Time, .slice a4 n4 k4, .slice a5 n5 k5, .int .i64 s2.Lease.Holder, .int .i64 s2.Lease.Epoch, .int .i64 s2.Lease.Until] := bU X7
   have Op7 : OwnI w.heap.size 157 2 w7 (.slice a4 n4 k4) (flPair s2.Pairs) := OwnI.drawn (ow_ex0x1y01n Op6 KR6 KD6) X7 oM
   have Oj7 : OwnI w.heap.size 142 5 w7 (.slice a5 n5 k5) (flJob s2.Jobs) := OwnI.drawn (ow_ex0x1y01n Oj6 KR6 KD6) X7 oM
   clear X7
   clear CR6 FR6 LR6 CD6 FD6 LD6
   obtain ⟨CR7, FR7, LR7⟩ := KR7.cfl
   obtain ⟨CD7, FD7, LD7⟩ := KD7.cfl
   have qz := qz dC; clear rz
   refine hKz.o3 fun hHeld => ?_
   clear hKz Kz
   (try simp only [redA, Act.put])
   refine wt 2 ?_
   (try simp only [redA, Act.put])
   refine wt 4 ?_
   (try simp only [redA, Act.put])
   refine wr1 5 fun Kz hKz => ?_
   (try simp only [redA])
   go_simp
   refine hKz.o3 fun hHeld => ?_
   clear hKz Kz
   (try simp only [redA, Act.put])
   refine wpAnyH_done (by kernel_rfl) ?_ _
   go_wp2_with fail
   refine bodyPost_ret (by simp [results, Tryz.results181, go_sem, CR7, FR7, LR7, CD7, FD7, LD7]; try rfl) rfl ?_
   exact ⟨_, rfl, by exact updT, by exact curT, ⟨_, s2⟩, ⟨_, _, rfl, OwnI.mono (ow_edx0x1y01 Op7 KR7 KD7) oM, OwnI.mono (ow_edx0x1y01 Oj7 KR7 KD7) oM⟩⟩
  (try simp only [redA])
  go_simp
  go_at_call 30
  refine (l1Below_c (cU B) 20).mono ?_
  rintro e w5 ⟨_, rfl, X5, hc5, x0, rfl, px0, qx0, rx0⟩
  have hz5 := X5.sz
  have E5 : Upd w w5 [g] := X5.up
  have KR5 := KR4.upv X5
  have KD5 := KD4.upv X5
  have Op5 := OwnI.drawn (ow_ex0x1y01n Op4 KR4 KD4) X5 oM
  have Oj5 := OwnI.drawn (ow_ex0x1y01n Oj4 KR4 KD4) X5 oM
  clear X5
  clear CR4 FR4 LR4 CD4 FD4 LD4
  obtain ⟨CR5, FR5, LR5⟩ := KR5.cfl
  obtain ⟨CD5, FD5, LD5⟩ := KD5.cfl
  refine hKz.o2 fun hHeld => ?_
  clear hKz Kz
  (try simp only [redA, Act.put])
  refine wr1 1 fun Kz hKz => ?_
  (try simp only [redA])
  go_simp
  refine hKz.o2 fun hHeld => ?_
  clear hKz Kz
  (try simp only [redA, Act.put])
  refine wr1 4 fun Kz hKz => ?_
  (try simp only [redA])
  have qx0 := qx0 dC; clear rx0
  obtain ⟨N2, rfl⟩ := Int.eq_ofNat_of_zero_le px0
  go_simp
  go_at_call 103
  refine (drawEntries_c (cU B) (M := w.heap.size) oM (s := s) ⟨_, _, rfl, (by exact ownT), (by exact ownT)⟩ zT N2 oM).mono ?_
  rintro e w6 ⟨_, rfl, X6, hc6, u2, x2, l2, s2, rfl, Ol2, hl2, hs2, hok2⟩
  have hz6 := X6.sz
  have E6 : Upd w w6 [g] := X6.up
  have KR6 := KR5.upv X6
  have KD6 := KD5.upv X6
  have Op6 := OwnI.drawn (ow_ex0x1y01n Op5 KR5 KD5) X6 oM
  have Oj6 := OwnI.drawn (ow_ex0x1y01n Oj5 KR5 KD5) X6 oM
  clear X6
  clear CR5 FR5 LR5 CD5 FD5 LD5
  obtain ⟨CR6, FR6, LR6⟩ := KR6.cfl
  obtain ⟨CD6, FD6, LD6⟩ := KD6.cfl
  obtain ⟨t4, t5, rfl, h4, h5⟩ := hs2
  obtain ⟨a4, n4, k4, rfl⟩ := h4.shape
  obtain ⟨a5, n5, k5, rfl⟩ := h5.shape
  clear Op6 Oj6
  have Op6 := h4; have Oj6 := h5; clear h4 h5
  refine hKz.o2 fun hHeld => ?_
  clear hKz Kz
  (try simp only [redA, Act.put])
  refine wt 5 ?_
  (try simp only [redA, Act.put])
  refine wt 6 ?_
  (try simp only [redA, Act.put])
  refine wt 7 ?_
  (try simp only [redA, Act.put])
  refine wr1 8 fun Kz hKz => ?_
  (try simp only [redA])
  go_simp
  refine hKz.o2 fun hHeld => ?_
  clear hKz Kz
  (try simp only [redA, Act.put])
  refine wpAnyH_done (by kernel_rfl) ?_ _
  go_wp2_with fail
  refine wp_region_held_drew (S := fun w' => Upd w w' [g] ∧ Cur B w' g ∧ Blk w' w3.heap.size 63 #[.int .i64 s2.Index, .int .i64 s2.Time, .slice a4 n4 k4, .slice a5 n5 k5, .int .i64 s2.Lease.Holder, .int .i64 s2.Lease.Epoch, .int .i64 s2.Lease.Until]) (by kernel_rfl) (by (try dsimp only); exact ⟨(by exact updT), (by exact curT), bC⟩) (fun hHeld => ?_)
  refine wt 0 ?_
  (try simp only [redA, Act.put])
  refine wtq 3 (fun _ h => h.2.2.cell) ?_
  (try simp only [redA, Act.put])
  refine wr1 1 fun Kz hKz => ?_
  (try simp only [redA])
  go_simp
  go_at_call 30
  refine (l1Below_c (cU B) 6).mono ?_
  rintro e w7 ⟨_, rfl, X7, hc7, z, rfl, pz, qz, rz⟩
  have hz7 := X7.sz
  have E7 : Upd w w7 [g] := X7.up
  have KR7 := KR6.upv X7
  have KD7 : Blk w7 w3.heap.size 63 #[.int .i64 s2.Index, .int .i64 s2.Time, .slice a4 n4 k4, .slice a5 n5 k5, .int .i64 s2.Lease.Holder, .int .i64 s2.Lease.Epoch, .int .i64 s2.Lease.Until] := bU X7
  have Op7 : OwnI w.heap.size 157 2 w7 (.slice a4 n4 k4) (flPair s2.Pairs) := OwnI.drawn (ow_ex0x1y01n Op6 KR6 KD6) X7 oM
  have Oj7 : OwnI w.heap.size 142 5 w7 (.slice a5 n5 k5) (flJob s2.Jobs) := OwnI.drawn (ow_ex0x1y01n Oj6 KR6 KD6) X7 oM
  clear X7
  clear CR6 FR6 LR6 CD6 FD6 LD6
  obtain ⟨CR7, FR7, LR7⟩ := KR7.cfl
  obtain ⟨CD7, FD7, LD7⟩ := KD7.cfl
  have qz := qz dC; clear rz
  refine hKz.o3 fun hHeld => ?_
  clear hKz Kz
  (try simp only [redA, Act.put])
  refine wt 2 ?_
  (try simp only [redA, Act.put])
  refine wt 4 ?_
  (try simp only [redA, Act.put])
  refine wr1 5 fun Kz hKz => ?_
  (try simp only [redA])
  go_simp
  refine hKz.o3 fun hHeld => ?_
  clear hKz Kz
  (try simp only [redA, Act.put])
  refine wpAnyH_done (by kernel_rfl) ?_ _
  go_wp2_with fail
  refine bodyPost_ret (by simp [results, Tryz.results181, go_sem, CR7, FR7, LR7, CD7, FD7, LD7]; try rfl) rfl ?_
  exact ⟨_, rfl, by exact updT, by exact curT, ⟨_, s2⟩, ⟨_, _, rfl, OwnI.mono (ow_edx0x1y01 Op7 KR7 KD7) oM, OwnI.mono (ow_edx0x1y01 Oj7 KR7 KD7) oM⟩⟩
 go_wp2_with fail
 refine wp_region_held_drew (S := fun w' => Upd w w' [g] ∧ Cur B w' g ∧ Blk w' w3.heap.size 63 #[.int .i64 s.Index, .int .i64 s.Time, .slice a2 n2 k2, .slice a3 n3 k3, .int .i64 s.Lease.Holder, .int .i64 s.Lease.Epoch, .int .i64 s.Lease.Until]) (by kernel_rfl) (by (try dsimp only); exact ⟨(by exact updT), (by exact curT), bC⟩) (fun hHeld => ?_)
 refine wt 0 ?_
 (try simp only [redA, Act.put])
 refine wtq 3 (fun _ h => h.2.2.cell) ?_
 (try simp only [redA, Act.put])
 refine wr1 1 fun Kz hKz => ?_
 (try simp only [redA])
 go_simp
 go_at_call 30
 refine (l1Below_c (cU B) 6).mono ?_
 rintro e w5 ⟨_, rfl, X5, hc5, z, rfl, pz, qz, rz⟩
 have hz5 := X5.sz
 have E5 : Upd w w5 [g] := X5.up
 have KR5 := KR4.upv X5
 have KD5 := KD4.upv X5
 have Op5 := OwnI.drawn (ow_ex0x1y01n Op4 KR4 KD4) X5 oM
 have Oj5 := OwnI.drawn (ow_ex0x1y01n Oj4 KR4 KD4) X5 oM
 clear X5
 clear CR4 FR4 LR4 CD4 FD4 LD4
 obtain ⟨CR5, FR5, LR5⟩ := KR5.cfl
 obtain ⟨CD5, FD5, LD5⟩ := KD5.cfl
 have qz := qz dC; clear rz
 refine hKz.o3 fun hHeld => ?_
 clear hKz Kz
 (try simp only [redA, Act.put])
 refine wt 2 ?_
 (try simp only [redA, Act.put])
 refine wt 4 ?_
 (try simp only [redA, Act.put])
 refine wr1 5 fun Kz hKz => ?_
 (try simp only [redA])
 go_simp
 refine hKz.o3 fun hHeld => ?_
 clear hKz Kz
 (try simp only [redA, Act.put])
 refine wpAnyH_done (by kernel_rfl) ?_ _
 go_wp2_with fail
 refine bodyPost_ret (by simp [results, Tryz.results181, go_sem, CR5, FR5, LR5, CD5, FD5, LD5]; try rfl) rfl ?_
 exact ⟨_, rfl, by exact updT, by exact curT, ⟨_, s⟩, ⟨_, _, rfl, OwnI.mono (ow_edx0x1y01 Op5 KR5 KD5) oM, OwnI.mono (ow_edx0x1y01 Oj5 KR5 KD5) oM⟩⟩
end Go.Proofs.YtcnioiieiebodaaGreat
