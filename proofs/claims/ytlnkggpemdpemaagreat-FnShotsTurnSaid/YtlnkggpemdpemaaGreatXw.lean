/- Contracts and plain laws: W10. -/
import Derived.Test.YtlnkggpemdpemaaGreatYa
import Derived.Deep.DeepCutAuto
import Derived.Test.YtlnkggpemdpemaaGreatXv
import Derived.Test.YtlnkggpemdpemaaGreatXs
import Derived.Test.YtlnkggpemdpemaaGreatXe
set_option linter.unusedSimpArgs false
set_option linter.unusedVariables false
set_option maxHeartbeats 80000000
set_option maxRecDepth 100000
namespace Go.Proofs.YtlnkggpemdpemaaGreat
open Go.RowKit Go.G8
theorem entries_part3 {w : World} {a : Option Addr} {n k : Nat} {l : List DEntry} (h : Ints 9 w (.slice a n k) (flEntry l)) {i m : Nat} (h1 : i ≤ m) (h2 : m ≤ n) (h3 : ¬ (k = i)) :
  Ints 9 w (.slice (a.map (fun x => x.add (i * 9))) (m - i) (k - i)) (flEntry ((l.take m).drop i)) := by
 have hs := Sl.sliced (Ints.sl h) (l := i) (m := m) h1 h2
 unfold Go.sliced at hs
 rw [if_neg oM] at hs
 have e : (((flEntry l).map (Value.int .i64)).take (m * 9)).drop (i * 9) = (flEntry ((l.take m).drop i)).map (.int .i64) := by
  rw [← List.map_take, ← List.map_drop, fl_take9, fl_drop9]
 rw [e] at hs
 exact hs
theorem entries_none {w : World} (a : Option Addr) : Ints 9 w (.slice a 0 0) (flEntry []) :=
 ⟨a, 0, 0, rfl, rfl, Nat.le_refl _, Nat.zero_le _, fun _ => rfl, fun _ _ _ _ h => absurd h (Nat.lt_irrefl _)⟩
theorem w6Store_c {B : Nat} {w : World} {g : Nat} (h : Die B w g) {M : Nat} (hM : g < M) {t : Value} {L : List DEntry} {m : DState} (hl9 : OwnI M 54 9 w t (flEntry L)) (hL : L.length ≤ 30) (hfo : foldS (⟨0, 0, [], [], ⟨0, 0, 0⟩⟩ : DState) L = (m, true)) (N : Nat) (hN : N ≤ 64) (fb : Bool) : Calls Tryz.prog 9 #[.pointer (some ⟨g, 0, none⟩), t, .int .i64 N, .bool fb] w (Dd B w g fun v w' => ∃ (x : Value) (s : DStore) (told : Int), v = .tuple #[x, .int .i64 told, .bool true] ∧ IsStore w.heap.size w' x s ∧ SInv (fun k : Int => fldD (⟨0, 0, [], [], ⟨0, 0, 0⟩⟩ : DState) (L.take k.toNat)) (L.length : Int) s told) := by
 obtain ⟨ae, ne, ke, rfl⟩ := hl9.shape
 obtain ⟨hne, hke, hkm⟩ := entries_cut hl9
 unfold maxLen at hkm
 have hne2 : ne ≤ 30 := by omega
 obtain ⟨ST, hST⟩ : ∃ q, q = (fun k : Int => fldD (⟨0, 0, [], [], ⟨0, 0, 0⟩⟩ : DState) (L.take k.toNat)) := ⟨_, rfl⟩
 have hst : StOk ST (ne : Int) := by rw [hST, hne]; exact st_ok hfo oM
 have hfe : ∀ a b : Nat, a ≤ b → b ≤ ne → feedS (ST a) ((L.take b).drop a) = ST b := by
  intro a b h1 h2; rw [hST]; simp only [Int.toNat_natCast]; exact st_feed hfo oM h1 oM
 have HST := Lib.hid hST; have HS := Lib.hid hst; have HF := Lib.hid hfe; have Hne := Lib.hid hne; clear hST hst hfe hne hfo
 have Oe0 := hl9; clear hl9
 have hc0 := h; have E0 : Upd w w [g] := Upd.refl _ _
 have hg0 := h.lt
 go_enter Tryz.func9, Tryz.ntmps9
 go_wp2_with fail
 refine (newStore_s _).mono ?_
 rintro e w1 ⟨_, rfl, hx1, gA⟩
 have hz1 := hx1.size; (try simp only [szA] at hz1)
 have E1 : Upd w w1 [g] := Upd.ext (by exact updT) hx1
 have hc1 : Die B w1 g := Die.ext (by exact dieT) hx1
 have KR1 : Blk w1 w.heap.size 41 #[.slice none 0 0, .slice none 0 0, .int .i64 0, .int .i64 0, .slice none 0 0, .slice none 0 0, .int .i64 0, .int .i64 0, .int .i64 0, .int .i64 0, .int .i64 0, .int .i64 0] := Blk.ext bC hx1
 have Oe1 : OwnI M 54 9 w1 (.slice ae ne ke) (flEntry L) := OwnI.ext1 (by exact ownT) hx1
 clear hx1
 obtain ⟨CR1, FR1, LR1⟩ := KR1.cfl
 obtain ⟨S0, hS0⟩ : ∃ q, q = newSt9 := ⟨_, rfl⟩
 rw [← hS0] at gA
 have VS0 : SInv ST (ne : Int) S0 0 := by rw [hS0]; exact sinv_new HS.out oM
 clear hS0
 have bby := storeOk_bounds VS0.ok; have tty := VS0.top
 obtain ⟨ay0, ny0, ky0, ay1, ny1, ky1, ay4, ny4, ky4, ay5, ny5, ky5, rfl⟩ := gA.rd.shape
 obtain ⟨Iy, hIy⟩ : ∃ q : Nat, S0.State.Index = (q : Int) := ⟨_, (Int.toNat_of_nonneg oM).symm⟩
 have hJy : Iy ≤ ne := by omega
 rw [hIy] at gA ⊢
 have gE := IsStore.mono (B' := w.heap.size) gA zT
 clear gA
 have HIy := Lib.hid hIy; have HVS0 := Lib.hid VS0; clear hIy VS0 bby tty
 go_wp2_with fail
 go_loopw [2, 12] (fun kk tt wr => ∃ (k : Nat) (ss : DStore) (tq : Int) (Iz : Nat) (az0 : Option Addr) (nz0 kz0 : Nat) (az1 : Option Addr) (nz1 kz1 : Nat) (az4 : Option Addr) (nz4 kz4 : Nat) (az5 : Option Addr) (nz5 kz5 : Nat), k ≤ N ∧ kk = .int .i64 k ∧ tt = .int .i64 tq ∧ ss.State.Index = (Iz : Int) ∧ Iz ≤ ne ∧ Hid (SInv ST (ne : Int) ss tq) ∧ Upd w wr [g] ∧ Die B wr g ∧ Blk wr w.heap.size 41 #[.slice none 0 0, .slice none 0 0, .int .i64 0, .int .i64 0, .slice none 0 0, .slice none 0 0, .int .i64 0, .int .i64 0, .int .i64 0, .int .i64 0, .int .i64 0, .int .i64 0] ∧ Blk wr w1.heap.size 41 #[.slice az0 nz0 kz0, .slice az1 nz1 kz1, .int .i64 (Iz : Int), .int .i64 ss.State.Time, .slice az4 nz4 kz4, .slice az5 nz5 kz5, .int .i64 ss.State.Lease.Holder, .int .i64 ss.State.Lease.Epoch, .int .i64 ss.State.Lease.Until, .int .i64 ss.Num, .int .i64 ss.Last, .int .i64 ss.Busy] ∧ IsStore w.heap.size wr (.agg #[.slice az0 nz0 kz0, .slice az1 nz1 kz1, .int .i64 (Iz : Int), .int .i64 ss.State.Time, .slice az4 nz4 kz4, .slice az5 nz5 kz5, .int .i64 ss.State.Lease.Holder, .int .i64 ss.State.Lease.Epoch, .int .i64 ss.State.Lease.Until, .int .i64 ss.Num, .int .i64 ss.Last, .int .i64 ss.Busy]) ss ∧ OwnI M 54 9 wr (.slice ae ne ke) (flEntry L)) (fun kk _ _ => (intOf kk).toNat)
 case atStart => exact ⟨N, S0, 0, Iy, ay0, ny0, ky0, ay1, ny1, ky1, ay4, ny4, ky4, ay5, ny5, ky5, Nat.le_refl _, rfl, rfl, HIy.out, hJy, HVS0, by exact updT, by exact dieT, bC, bC, gE.kp kpT, (OwnI.ext1 Oe1 (by exact extT))⟩
 case round =>
  obtain ⟨k, ss, tq, Iz, az0, nz0, kz0, az1, nz1, kz1, az4, nz4, kz4, az5, nz5, kz5, hk, rfl, rfl, hIz, hJz, HV, E2, hc2, KR2, KS2, gE, Oe2⟩ := hrel
  obtain ⟨w2, hw⟩ : ∃ w2, w2 = wr := ⟨_, rfl⟩
  subst hw
  have hz2 := E2.size
  clear CR1 FR1 LR1
  have htq : 0 ≤ tq ∧ tq ≤ (Iz : Int) := by have h1 := HV.out.told; have h2 := storeOk_bounds HV.out.ok; have h3 := HV.out.told0; omega
  have HIz := Lib.hid hIz; clear hIz
  obtain ⟨CR2, FR2, LR2⟩ := KR2.cfl
  obtain ⟨CS2, FS2, LS2⟩ := KS2.cfl
  have hl9 := KS2.lt
  by_cases hlt : 0 < k
  ·
   have hlt2 : (0 : Int) < (k : Int) := by omega
   go_wp2_with fail
   refine (fetchOf_k (gE.rd.ext (by exact extT)) HV.out.ok).mono ?_
   rintro e w3 ⟨rfl, hx3⟩
   have P3 : Kp w.heap.size boxTs w2 w3 := Kp.ext kpT hx3
   have gE := gE.kp P3
   clear P3
   have hz3 := hx3.size; (try simp only [szA] at hz3)
   have E3 : Upd w w3 [g] := Upd.ext (by exact updT) hx3
   have hc3 : Die B w3 g := Die.ext (by exact dieT) hx3
   have KR3 : Blk w3 w.heap.size 41 #[.slice none 0 0, .slice none 0 0, .int .i64 0, .int .i64 0, .slice none 0 0, .slice none 0 0, .int .i64 0, .int .i64 0, .int .i64 0, .int .i64 0, .int .i64 0, .int .i64 0] := Blk.ext bC hx3
   have KS3 : Blk w3 w1.heap.size 41 #[.slice az0 nz0 kz0, .slice az1 nz1 kz1, .int .i64 (Iz : Int), .int .i64 ss.State.Time, .slice az4 nz4 kz4, .slice az5 nz5 kz5, .int .i64 ss.State.Lease.Holder, .int .i64 ss.State.Lease.Epoch, .int .i64 ss.State.Lease.Until, .int .i64 ss.Num, .int .i64 ss.Last, .int .i64 ss.Busy] := Blk.ext bC hx3
   have Oe3 : OwnI M 54 9 w3 (.slice ae ne ke) (flEntry L) := OwnI.ext1 (ow_ex0x1n Oe2 KR2 KS2) hx3
   clear hx3
   clear CR2 FR2 LR2 CS2 FS2 LS2
   obtain ⟨CR3, FR3, LR3⟩ := KR3.cfl
   obtain ⟨CS3, FS3, LS3⟩ := KS3.cfl
   obtain ⟨F, hF⟩ : ∃ F : Int, ss.State.Index + 1 = F := ⟨_, rfl⟩
   rw [hF]
   have hFz : F = (Iz : Int) + 1 := by rw [← hF, HIz.out]
   clear hF
   have hF0 : ¬ (F ≤ tq) := by omega
   have hF2 : ¬ ((ne : Int) + 1 < F) := by omega
   have hF1 : F - 1 = (Iz : Int) := by omega
   have hwz : IntKind.i64.wrap (Iz : Int) = (Iz : Int) := by rw [IntKind.wrap_i64] <;> omega
   have HFz := Lib.hid hFz; clear hFz
   go_wp2_with fail
   refine (below_c (show Die B _ g from by exact dieT) 8 oM).mono ?_
   rintro e w4 ⟨_, rfl, X4, hc4, m2, rfl, pm2, qm2⟩
   have P4 : Kp w.heap.size boxTs w3 w4 := Kp.upd kpT X4 oM
   have gE := gE.kp P4
   clear P4
   have hz4 := X4.sz
   have E4 : Upd w w4 [g] := X4.up
   have KR4 := KR3.upv X4
   have KS4 := KS3.upv X4
   have Oe4 := OwnI.drawn (ow_ex0x1n Oe3 KR3 KS3) X4 oM
   clear X4
   clear CR3 FR3 LR3 CS3 FS3 LS3
   obtain ⟨CR4, FR4, LR4⟩ := KR4.cfl
   obtain ⟨CS4, FS4, LS4⟩ := KS4.cfl
   obtain hA | hB | hC | hD : (m2 = 0 ∨ m2 = 1 ∨ m2 = 2) ∨ (m2 = 3 ∨ m2 = 4) ∨ (m2 = 5 ∨ m2 = 6) ∨ m2 = 7 := by omega
   ·
    go_upto_if 59 with (fail)
    go_cut [59] (fun cx0 wx => ∃ tb : Bool, cx0 = .bool tb ∧ (tb = true) ∧ IsStore w.heap.size wx (.agg #[.slice az0 nz0 kz0, .slice az1 nz1 kz1, .int .i64 (Iz : Int), .int .i64 ss.State.Time, .slice az4 nz4 kz4, .slice az5 nz5 kz5, .int .i64 ss.State.Lease.Holder, .int .i64 ss.State.Lease.Epoch, .int .i64 ss.State.Lease.Until, .int .i64 ss.Num, .int .i64 ss.Last, .int .i64 ss.Busy]) ss ∧ Upd w wx [g] ∧ Die B wx g ∧ Blk wx w.heap.size 41 #[.slice none 0 0, .slice none 0 0, .int .i64 0, .int .i64 0, .slice none 0 0, .slice none 0 0, .int .i64 0, .int .i64 0, .int .i64 0, .int .i64 0, .int .i64 0, .int .i64 0] ∧ Blk wx w1.heap.size 41 #[.slice az0 nz0 kz0, .slice az1 nz1 kz1, .int .i64 (Iz : Int), .int .i64 ss.State.Time, .slice az4 nz4 kz4, .slice az5 nz5 kz5, .int .i64 ss.State.Lease.Holder, .int .i64 ss.State.Lease.Epoch, .int .i64 ss.State.Lease.Until, .int .i64 ss.Num, .int .i64 ss.Last, .int .i64 ss.Busy] ∧ OwnI M 54 9 wx (.slice ae ne ke) (flEntry L))
    case first =>
     obtain rfl | rfl | rfl := hA
     all_goals
      go_wp2_with fail
      go_meet
      case rel => exact ⟨_, (by first | rfl | trivial), rfl, (gE.kp kpT), (by exact updT), (by exact dieT), bC, bC, (by first | (exact OwnI.ext1 Oe4 (by exact extT)) | (with_reducible exact Oe4) | (refine OwnI.drawn Oe4 ?_ oM; (exact updT); done) | (refine OwnI.updX Oe4 KR4 dC ?_; (exact updT); done) | (refine OwnI.updX Oe4 KS4 dC ?_; (exact updT); done) | (exact ownR))⟩
    revert wc; intro w5 hcut
    obtain ⟨tb, rfl, htb, gE, E5, hc5, KR5, KS5, Oe5⟩ := hcut
    have hz5 := E5.size
    clear CR4 FR4 LR4 CS4 FS4 LS4
    obtain ⟨CR5, FR5, LR5⟩ := KR5.cfl
    obtain ⟨CS5, FS5, LS5⟩ := KS5.cfl
    subst htb
    by_cases hkz : ke = Iz
    ·
     have e1 : ne = Iz := by omega
     have e2 : ne = ke := by omega
     subst e1
     subst e2
     clear hkz
     go_wp2_with fail
     refine (below_c (show Die B _ g from by exact dieT) 4 oM).mono ?_
     rintro e w6 ⟨_, rfl, X6, hc6, x, rfl, px, qx⟩
     have P6 : Kp w.heap.size boxTs w5 w6 := Kp.upd kpT X6 oM
     have gE := gE.kp P6
     clear P6
     have hz6 := X6.sz
     have E6 : Upd w w6 [g] := X6.up
     have KR6 : Blk w6 w.heap.size 41 #[.slice none 0 0, .slice none 0 0, .int .i64 0, .int .i64 0, .slice none 0 0, .slice none 0 0, .int .i64 0, .int .i64 0, .int .i64 0, .int .i64 0, .int .i64 0, .int .i64 0] := bU X6
     have KS6 : Blk w6 w1.heap.size 41 #[.slice az0 nz0 kz0, .slice az1 nz1 kz1, .int .i64 (ne : Int), .int .i64 ss.State.Time, .slice az4 nz4 kz4, .slice az5 nz5 kz5, .int .i64 ss.State.Lease.Holder, .int .i64 ss.State.Lease.Epoch, .int .i64 ss.State.Lease.Until, .int .i64 ss.Num, .int .i64 ss.Last, .int .i64 ss.Busy] := bU X6
     have Oe6 : OwnI M 54 9 w6 (.slice ae ne ne) (flEntry L) := OwnI.drawn (ow_ex0x1n Oe5 KR5 KS5) X6 oM
     clear X6
     clear CR5 FR5 LR5 CS5 FS5 LS5
     obtain ⟨CR6, FR6, LR6⟩ := KR6.cfl
     obtain ⟨CS6, FS6, LS6⟩ := KS6.cfl
     obtain ⟨X, rfl⟩ := Int.eq_ofNat_of_zero_le px
     obtain ⟨T, hT⟩ : ∃ T : Nat, (ne : Int) + (X : Int) = (T : Int) := ⟨ne + X, by omega⟩
     have hT2 : T ≤ 40 := by omega
     have hTz : ne ≤ T := by omega
     have hwT : IntKind.i64.wrap (T : Int) = (T : Int) := by rw [IntKind.wrap_i64] <;> omega
     go_upto_if 71 with (fail)
     go_cut [14] (fun cx0 wx => ∃ t9 : Int, cx0 = .int .i64 t9 ∧ (∃ T9 : Nat, t9 = (T9 : Int) ∧ ne ≤ T9 ∧ T9 ≤ ne) ∧ IsStore w.heap.size wx (.agg #[.slice az0 nz0 kz0, .slice az1 nz1 kz1, .int .i64 (ne : Int), .int .i64 ss.State.Time, .slice az4 nz4 kz4, .slice az5 nz5 kz5, .int .i64 ss.State.Lease.Holder, .int .i64 ss.State.Lease.Epoch, .int .i64 ss.State.Lease.Until, .int .i64 ss.Num, .int .i64 ss.Last, .int .i64 ss.Busy]) ss ∧ Upd w wx [g] ∧ Die B wx g ∧ Blk wx w.heap.size 41 #[.slice none 0 0, .slice none 0 0, .int .i64 0, .int .i64 0, .slice none 0 0, .slice none 0 0, .int .i64 0, .int .i64 0, .int .i64 0, .int .i64 0, .int .i64 0, .int .i64 0] ∧ Blk wx w1.heap.size 41 #[.slice az0 nz0 kz0, .slice az1 nz1 kz1, .int .i64 (ne : Int), .int .i64 ss.State.Time, .slice az4 nz4 kz4, .slice az5 nz5 kz5, .int .i64 ss.State.Lease.Holder, .int .i64 ss.State.Lease.Epoch, .int .i64 ss.State.Lease.Until, .int .i64 ss.Num, .int .i64 ss.Last, .int .i64 ss.Busy] ∧ OwnI M 54 9 wx (.slice ae ne ne) (flEntry L))
     case first =>
      by_cases hgt : ne < T
      ·
       have hgt2 : (ne : Int) < (T : Int) := by omega
       go_wp2_with fail
       go_meet
       case rel => exact ⟨_, (by first | rfl | trivial), (by first | exact ⟨ne, rfl, by omega, by omega⟩ | exact ⟨T, rfl, by omega, by omega⟩), (gE.kp kpT), (by exact updT), (by exact dieT), bC, bC, (by first | (exact OwnI.ext1 Oe6 (by exact extT)) | (with_reducible exact Oe6) | (refine OwnI.drawn Oe6 ?_ oM; (exact updT); done) | (refine OwnI.updX Oe6 KR6 dC ?_; (exact updT); done) | (refine OwnI.updX Oe6 KS6 dC ?_; (exact updT); done) | (exact ownR))⟩
      have hgt2 : ¬ (ne : Int) < (T : Int) := by omega
      go_wp2_with fail
      go_meet
      case rel => exact ⟨_, (by first | rfl | trivial), (by first | exact ⟨ne, rfl, by omega, by omega⟩ | exact ⟨T, rfl, by omega, by omega⟩), (gE.kp kpT), (by exact updT), (by exact dieT), bC, bC, (by first | (exact OwnI.ext1 Oe6 (by exact extT)) | (with_reducible exact Oe6) | (refine OwnI.drawn Oe6 ?_ oM; (exact updT); done) | (refine OwnI.updX Oe6 KR6 dC ?_; (exact updT); done) | (refine OwnI.updX Oe6 KS6 dC ?_; (exact updT); done) | (exact ownR))⟩
     revert wc; intro w7 hcut
     obtain ⟨t9, rfl, ht9, gE, E7, hc7, KR7, KS7, Oe7⟩ := hcut
     have hz7 := E7.size
     clear CR6 FR6 LR6 CS6 FS6 LS6
     obtain ⟨CR7, FR7, LR7⟩ := KR7.cfl
     obtain ⟨CS7, FS7, LS7⟩ := KS7.cfl
     obtain ⟨T9, rfl, hTa, hTb⟩ := ht9
     have hw9 : IntKind.i64.wrap (T9 : Int) = (T9 : Int) := by rw [IntKind.wrap_i64] <;> omega
     have hTn : ne = T9 := by omega
     subst hTn
     have hle9 : ne ≤ ne := by omega
     have htk9 : ne ≤ ne := by omega
     go_wp2_with fail
     refine wp_region_held_drew (S := fun w' => Upd w w' [g] ∧ Die B w' g) (by kernel_rfl) (by (try dsimp only); exact ⟨(by exact updT), (by exact dieT)⟩) (fun hHeld => ?_)
     refine wt 1 ?_
     (try simp only [redA, Act.put])
     refine wt 2 ?_
     (try simp only [redA, Act.put])
     refine wt 3 ?_
     (try simp only [redA, Act.put])
     refine wt 4 ?_
     (try simp only [redA, Act.put])
     refine wt 5 ?_
     (try simp only [redA, Act.put])
     refine wt 6 ?_
     (try simp only [redA, Act.put])
     refine wt 7 ?_
     (try simp only [redA, Act.put])
     refine wt 8 ?_
     (try simp only [redA, Act.put])
     refine wr2 0 9 (fun Kz hKz => ?_) fun Kz hKz => ?_
     ·
      (try simp only [redA])
      go_simp
      refine hKz.out _ _ (by (try dsimp only); exact ⟨(by exact updT), (by exact dieT)⟩) (fun hHeld => ?_)
      clear hKz Kz
      (try simp only [redA, Act.put])
      refine wr1 9 fun Kz hKz => ?_
      (try simp only [redA])
      (try simp only [Nat.sub_self])
      go_simp
      go_at_call 21
      refine (w6Copy_c _ _ [] (entries_none _) (by simp; try omega)).mono ?_
      rintro e w8 ⟨_, rfl, hx8, Oc⟩
      have P8 : Kp w.heap.size boxTs w7 w8 := Kp.ext kpT hx8
      have gE := gE.kp P8
      clear P8
      have hz8 := hx8.size; (try simp only [szA] at hz8)
      have E8 : Upd w w8 [g] := Upd.ext (by exact updT) hx8
      have hc8 : Die B w8 g := Die.ext (by exact dieT) hx8
      have KR8 : Blk w8 w.heap.size 41 #[.slice none 0 0, .slice none 0 0, .int .i64 0, .int .i64 0, .slice none 0 0, .slice none 0 0, .int .i64 0, .int .i64 0, .int .i64 0, .int .i64 0, .int .i64 0, .int .i64 0] := Blk.ext bC hx8
      have KS8 : Blk w8 w1.heap.size 41 #[.slice az0 nz0 kz0, .slice az1 nz1 kz1, .int .i64 (ne : Int), .int .i64 ss.State.Time, .slice az4 nz4 kz4, .slice az5 nz5 kz5, .int .i64 ss.State.Lease.Holder, .int .i64 ss.State.Lease.Epoch, .int .i64 ss.State.Lease.Until, .int .i64 ss.Num, .int .i64 ss.Last, .int .i64 ss.Busy] := Blk.ext bC hx8
      have Oe8 : OwnI M 54 9 w8 (.slice ae ne ne) (flEntry L) := OwnI.ext1 (ow_ex0x1n Oe7 KR7 KS7) hx8
      clear hx8
      clear CR7 FR7 LR7 CS7 FS7 LS7
      obtain ⟨CR8, FR8, LR8⟩ := KR8.cfl
      obtain ⟨CS8, FS8, LS8⟩ := KS8.cfl
      obtain ⟨ac, nc, kc, rfl⟩ := Oc.shape
      refine hKz.out _ _ (by (try dsimp only); exact ⟨(by exact updT), (by exact dieT)⟩) (fun hHeld => ?_)
      clear hKz Kz
      (try simp only [redA, Act.put])
      refine wt 10 ?_
      (try simp only [redA, Act.put])
      refine wr1 11 fun Kz hKz => ?_
      (try simp only [redA])
      go_simp
      go_at_call 20
      refine (heardFeed_k (gE.rd.ext (by exact extT)) (f := ⟨tq, (ne : Int), []⟩) ⟨_, rfl, Oc.ints.ext (by exact extT)⟩).mono ?_
      rintro e w9 ⟨_, rfl, hx9, FD, gd0⟩
      have P9 : Kp w.heap.size boxTs w8 w9 := Kp.ext kpT hx9
      have gE := gE.kp P9
      clear P9
      have hz9 := hx9.size; (try simp only [szA] at hz9)
      have E9 : Upd w w9 [g] := Upd.ext (by exact updT) hx9
      have hc9 : Die B w9 g := Die.ext (by exact dieT) hx9
      have KR9 := KR8.exv hx9
      have KS9 := KS8.exv hx9
      have Oe9 := OwnI.ext1 (ow_ex0x1n Oe8 KR8 KS8) hx9
      clear hx9
      clear CR8 FR8 LR8 CS8 FS8 LS8
      obtain ⟨CR9, FR9, LR9⟩ := KR9.cfl
      obtain ⟨CS9, FS9, LS9⟩ := KS9.cfl
      have gd := gd0.isS; clear gd0
      obtain ⟨S2, hS2⟩ : ∃ q, q = hfD ss ⟨tq, (ne : Int), []⟩ := ⟨_, rfl⟩
      rw [← hS2] at gd
      have VS2 : SInv ST (ne : Int) S2 tq := by rw [hS2]; exact sinv_fed HS.out HV.out (k := (ne : Int)) ⟨by rw [HIz.out]; omega, by omega⟩ (by show feedS ss.State [] = _; rw [HV.out.state, HIz.out]; simp [feedS])
      clear hS2
      have bbv := storeOk_bounds VS2.ok; have ttv := VS2.top
      obtain ⟨av0, nv0, kv0, av1, nv1, kv1, av4, nv4, kv4, av5, nv5, kv5, rfl⟩ := gd.rd.shape
      obtain ⟨Iv, hIv⟩ : ∃ q : Nat, S2.State.Index = (q : Int) := ⟨_, (Int.toNat_of_nonneg oM).symm⟩
      have hJv : Iv ≤ ne := by omega
      rw [hIv] at gd ⊢
      have gV := IsStore.mono (B' := w.heap.size) gd zT
      clear gd
      have HIv := Lib.hid hIv; have HVS2 := Lib.hid VS2; clear hIv VS2 bbv ttv
      refine hKz.out _ _ (by (try dsimp only); exact ⟨(by exact updT), (by exact dieT)⟩) (fun hHeld => ?_)
      clear hKz Kz
      (try simp only [redA, Act.put])
      refine wr1 12 fun Kz hKz => ?_
      (try simp only [redA])
      first | (rw [if_pos (by rfl)]; refine wp_store_row 41 (.tmp 11) (.tmp 85) (by rfl) _ #[.slice av0 nv0 kv0, .slice av1 nv1 kv1, .int .i64 (Iv : Int), .int .i64 S2.State.Time, .slice av4 nv4 kv4, .slice av5 nv5 kv5, .int .i64 S2.State.Lease.Holder, .int .i64 S2.State.Lease.Epoch, .int .i64 S2.State.Lease.Until, .int .i64 S2.Num, .int .i64 S2.Last, .int .i64 S2.Busy] (by rfl) (by kernel_rfl) 41 _ KS9 (by kernel_rfl) rfl (by kernel_rfl) ?_) | go_simp
      refine hKz.out _ _ (by (try dsimp only); exact ⟨(by exact updT), (by exact dieT)⟩) (fun hHeld => ?_)
      clear hKz Kz
      (try simp only [redA, Act.put])
      refine wpAnyH_done (by kernel_rfl) ?_ _
      go_wp2_with fail
      go_roundw
      case rel => exact ⟨k - 1, S2, tq, Iv, av0, nv0, kv0, av1, nv1, kv1, av4, nv4, kv4, av5, nv5, kv5, by omega, by (try simp only [Value.int.injEq, true_and]); first | omega | (congr 1; omega), rfl, HIv.out, hJv, HVS2, by exact updT, by exact dieT, bC, bC, gV.kp kpT, (by first | (exact OwnI.ext1 Oe9 (by exact extT)) | (with_reducible exact Oe9) | (refine OwnI.drawn Oe9 ?_ oM; (exact updT); done) | (refine OwnI.updX Oe9 KR9 dC ?_; (exact updT); done) | (refine OwnI.updX Oe9 KS9 dC ?_; (exact updT); done) | (exact ownR))⟩
      case measure => simp [intOf]; omega
     (try simp only [redA])
     (try simp only [Nat.sub_self])
     go_simp
     go_at_call 21
     refine (w6Copy_c _ _ [] (entries_none _) (by simp; try omega)).mono ?_
     rintro e w8 ⟨_, rfl, hx8, Oc⟩
     have P8 : Kp w.heap.size boxTs w7 w8 := Kp.ext kpT hx8
     have gE := gE.kp P8
     clear P8
     have hz8 := hx8.size; (try simp only [szA] at hz8)
     have E8 : Upd w w8 [g] := Upd.ext (by exact updT) hx8
     have hc8 : Die B w8 g := Die.ext (by exact dieT) hx8
     have KR8 : Blk w8 w.heap.size 41 #[.slice none 0 0, .slice none 0 0, .int .i64 0, .int .i64 0, .slice none 0 0, .slice none 0 0, .int .i64 0, .int .i64 0, .int .i64 0, .int .i64 0, .int .i64 0, .int .i64 0] := Blk.ext bC hx8
     have KS8 : Blk w8 w1.heap.size 41 #[.slice az0 nz0 kz0, .slice az1 nz1 kz1, .int .i64 (ne : Int), .int .i64 ss.State.Time, .slice az4 nz4 kz4, .slice az5 nz5 kz5, .int .i64 ss.State.Lease.Holder, .int .i64 ss.State.Lease.Epoch, .int .i64 ss.State.Lease.Until, .int .i64 ss.Num, .int .i64 ss.Last, .int .i64 ss.Busy] := Blk.ext bC hx8
     have Oe8 : OwnI M 54 9 w8 (.slice ae ne ne) (flEntry L) := OwnI.ext1 (ow_ex0x1n Oe7 KR7 KS7) hx8
     clear hx8
     clear CR7 FR7 LR7 CS7 FS7 LS7
     obtain ⟨CR8, FR8, LR8⟩ := KR8.cfl
     obtain ⟨CS8, FS8, LS8⟩ := KS8.cfl
     obtain ⟨ac, nc, kc, rfl⟩ := Oc.shape
     refine hKz.out _ _ (by (try dsimp only); exact ⟨(by exact updT), (by exact dieT)⟩) (fun hHeld => ?_)
     clear hKz Kz
     (try simp only [redA, Act.put])
     refine wt 10 ?_
     (try simp only [redA, Act.put])
     refine wr1 0 fun Kz hKz => ?_
     (try simp only [redA])
     go_simp
     refine hKz.out _ _ (by (try dsimp only); exact ⟨(by exact updT), (by exact dieT)⟩) (fun hHeld => ?_)
     clear hKz Kz
     (try simp only [redA, Act.put])
     refine wr1 11 fun Kz hKz => ?_
     (try simp only [redA])
     go_simp
     go_at_call 20
     refine (heardFeed_k (gE.rd.ext (by exact extT)) (f := ⟨tq, (ne : Int), []⟩) ⟨_, rfl, Oc.ints.ext (by exact extT)⟩).mono ?_
     rintro e w9 ⟨_, rfl, hx9, FD, gd0⟩
     have P9 : Kp w.heap.size boxTs w8 w9 := Kp.ext kpT hx9
     have gE := gE.kp P9
     clear P9
     have hz9 := hx9.size; (try simp only [szA] at hz9)
     have E9 : Upd w w9 [g] := Upd.ext (by exact updT) hx9
     have hc9 : Die B w9 g := Die.ext (by exact dieT) hx9
     have KR9 := KR8.exv hx9
     have KS9 := KS8.exv hx9
     have Oe9 := OwnI.ext1 (ow_ex0x1n Oe8 KR8 KS8) hx9
     clear hx9
     clear CR8 FR8 LR8 CS8 FS8 LS8
     obtain ⟨CR9, FR9, LR9⟩ := KR9.cfl
     obtain ⟨CS9, FS9, LS9⟩ := KS9.cfl
     have gd := gd0.isS; clear gd0
     obtain ⟨S2, hS2⟩ : ∃ q, q = hfD ss ⟨tq, (ne : Int), []⟩ := ⟨_, rfl⟩
     rw [← hS2] at gd
     have VS2 : SInv ST (ne : Int) S2 tq := by rw [hS2]; exact sinv_fed HS.out HV.out (k := (ne : Int)) ⟨by rw [HIz.out]; omega, by omega⟩ (by show feedS ss.State [] = _; rw [HV.out.state, HIz.out]; simp [feedS])
     clear hS2
     have bbv := storeOk_bounds VS2.ok; have ttv := VS2.top
     obtain ⟨av0, nv0, kv0, av1, nv1, kv1, av4, nv4, kv4, av5, nv5, kv5, rfl⟩ := gd.rd.shape
     obtain ⟨Iv, hIv⟩ : ∃ q : Nat, S2.State.Index = (q : Int) := ⟨_, (Int.toNat_of_nonneg oM).symm⟩
     have hJv : Iv ≤ ne := by omega
     rw [hIv] at gd ⊢
     have gV := IsStore.mono (B' := w.heap.size) gd zT
     clear gd
     have HIv := Lib.hid hIv; have HVS2 := Lib.hid VS2; clear hIv VS2 bbv ttv
     refine hKz.out _ _ (by (try dsimp only); exact ⟨(by exact updT), (by exact dieT)⟩) (fun hHeld => ?_)
     clear hKz Kz
     (try simp only [redA, Act.put])
     refine wr1 12 fun Kz hKz => ?_
     (try simp only [redA])
     first | (rw [if_pos (by rfl)]; refine wp_store_row 41 (.tmp 11) (.tmp 85) (by rfl) _ #[.slice av0 nv0 kv0, .slice av1 nv1 kv1, .int .i64 (Iv : Int), .int .i64 S2.State.Time, .slice av4 nv4 kv4, .slice av5 nv5 kv5, .int .i64 S2.State.Lease.Holder, .int .i64 S2.State.Lease.Epoch, .int .i64 S2.State.Lease.Until, .int .i64 S2.Num, .int .i64 S2.Last, .int .i64 S2.Busy] (by rfl) (by kernel_rfl) 41 _ KS9 (by kernel_rfl) rfl (by kernel_rfl) ?_) | go_simp
     refine hKz.out _ _ (by (try dsimp only); exact ⟨(by exact updT), (by exact dieT)⟩) (fun hHeld => ?_)
     clear hKz Kz
     (try simp only [redA, Act.put])
     refine wpAnyH_done (by kernel_rfl) ?_ _
     go_wp2_with fail
     go_roundw
     case rel => exact ⟨k - 1, S2, tq, Iv, av0, nv0, kv0, av1, nv1, kv1, av4, nv4, kv4, av5, nv5, kv5, by omega, by (try simp only [Value.int.injEq, true_and]); first | omega | (congr 1; omega), rfl, HIv.out, hJv, HVS2, by exact updT, by exact dieT, bC, bC, gV.kp kpT, (by first | (exact OwnI.ext1 Oe9 (by exact extT)) | (with_reducible exact Oe9) | (refine OwnI.drawn Oe9 ?_ oM; (exact updT); done) | (refine OwnI.updX Oe9 KR9 dC ?_; (exact updT); done) | (refine OwnI.updX Oe9 KS9 dC ?_; (exact updT); done) | (exact ownR))⟩
     case measure => simp [intOf]; omega
    go_wp2_with fail
    refine (below_c (show Die B _ g from by exact dieT) 4 oM).mono ?_
    rintro e w6 ⟨_, rfl, X6, hc6, x, rfl, px, qx⟩
    have P6 : Kp w.heap.size boxTs w5 w6 := Kp.upd kpT X6 oM
    have gE := gE.kp P6
    clear P6
    have hz6 := X6.sz
    have E6 : Upd w w6 [g] := X6.up
    have KR6 : Blk w6 w.heap.size 41 #[.slice none 0 0, .slice none 0 0, .int .i64 0, .int .i64 0, .slice none 0 0, .slice none 0 0, .int .i64 0, .int .i64 0, .int .i64 0, .int .i64 0, .int .i64 0, .int .i64 0] := bU X6
    have KS6 : Blk w6 w1.heap.size 41 #[.slice az0 nz0 kz0, .slice az1 nz1 kz1, .int .i64 (Iz : Int), .int .i64 ss.State.Time, .slice az4 nz4 kz4, .slice az5 nz5 kz5, .int .i64 ss.State.Lease.Holder, .int .i64 ss.State.Lease.Epoch, .int .i64 ss.State.Lease.Until, .int .i64 ss.Num, .int .i64 ss.Last, .int .i64 ss.Busy] := bU X6
    have Oe6 : OwnI M 54 9 w6 (.slice ae ne ke) (flEntry L) := OwnI.drawn (ow_ex0x1n Oe5 KR5 KS5) X6 oM
    clear X6
    clear CR5 FR5 LR5 CS5 FS5 LS5
    obtain ⟨CR6, FR6, LR6⟩ := KR6.cfl
    obtain ⟨CS6, FS6, LS6⟩ := KS6.cfl
    obtain ⟨X, rfl⟩ := Int.eq_ofNat_of_zero_le px
    obtain ⟨T, hT⟩ : ∃ T : Nat, (Iz : Int) + (X : Int) = (T : Int) := ⟨Iz + X, by omega⟩
    have hT2 : T ≤ 40 := by omega
    have hTz : Iz ≤ T := by omega
    have hwT : IntKind.i64.wrap (T : Int) = (T : Int) := by rw [IntKind.wrap_i64] <;> omega
    go_upto_if 71 with (fail)
    go_cut [14] (fun cx0 wx => ∃ t9 : Int, cx0 = .int .i64 t9 ∧ (∃ T9 : Nat, t9 = (T9 : Int) ∧ Iz ≤ T9 ∧ T9 ≤ ne) ∧ IsStore w.heap.size wx (.agg #[.slice az0 nz0 kz0, .slice az1 nz1 kz1, .int .i64 (Iz : Int), .int .i64 ss.State.Time, .slice az4 nz4 kz4, .slice az5 nz5 kz5, .int .i64 ss.State.Lease.Holder, .int .i64 ss.State.Lease.Epoch, .int .i64 ss.State.Lease.Until, .int .i64 ss.Num, .int .i64 ss.Last, .int .i64 ss.Busy]) ss ∧ Upd w wx [g] ∧ Die B wx g ∧ Blk wx w.heap.size 41 #[.slice none 0 0, .slice none 0 0, .int .i64 0, .int .i64 0, .slice none 0 0, .slice none 0 0, .int .i64 0, .int .i64 0, .int .i64 0, .int .i64 0, .int .i64 0, .int .i64 0] ∧ Blk wx w1.heap.size 41 #[.slice az0 nz0 kz0, .slice az1 nz1 kz1, .int .i64 (Iz : Int), .int .i64 ss.State.Time, .slice az4 nz4 kz4, .slice az5 nz5 kz5, .int .i64 ss.State.Lease.Holder, .int .i64 ss.State.Lease.Epoch, .int .i64 ss.State.Lease.Until, .int .i64 ss.Num, .int .i64 ss.Last, .int .i64 ss.Busy] ∧ OwnI M 54 9 wx (.slice ae ne ke) (flEntry L))
    case first =>
     by_cases hgt : ne < T
     ·
      have hgt2 : (ne : Int) < (T : Int) := by omega
      go_wp2_with fail
      go_meet
      case rel => exact ⟨_, (by first | rfl | trivial), (by first | exact ⟨ne, rfl, by omega, by omega⟩ | exact ⟨T, rfl, by omega, by omega⟩), (gE.kp kpT), (by exact updT), (by exact dieT), bC, bC, (by first | (exact OwnI.ext1 Oe6 (by exact extT)) | (with_reducible exact Oe6) | (refine OwnI.drawn Oe6 ?_ oM; (exact updT); done) | (refine OwnI.updX Oe6 KR6 dC ?_; (exact updT); done) | (refine OwnI.updX Oe6 KS6 dC ?_; (exact updT); done) | (exact ownR))⟩
     have hgt2 : ¬ (ne : Int) < (T : Int) := by omega
     go_wp2_with fail
     go_meet
     case rel => exact ⟨_, (by first | rfl | trivial), (by first | exact ⟨ne, rfl, by omega, by omega⟩ | exact ⟨T, rfl, by omega, by omega⟩), (gE.kp kpT), (by exact updT), (by exact dieT), bC, bC, (by first | (exact OwnI.ext1 Oe6 (by exact extT)) | (with_reducible exact Oe6) | (refine OwnI.drawn Oe6 ?_ oM; (exact updT); done) | (refine OwnI.updX Oe6 KR6 dC ?_; (exact updT); done) | (refine OwnI.updX Oe6 KS6 dC ?_; (exact updT); done) | (exact ownR))⟩
    revert wc; intro w7 hcut
    obtain ⟨t9, rfl, ht9, gE, E7, hc7, KR7, KS7, Oe7⟩ := hcut
    have hz7 := E7.size
    clear CR6 FR6 LR6 CS6 FS6 LS6
    obtain ⟨CR7, FR7, LR7⟩ := KR7.cfl
    obtain ⟨CS7, FS7, LS7⟩ := KS7.cfl
    obtain ⟨T9, rfl, hTa, hTb⟩ := ht9
    have hw9 : IntKind.i64.wrap (T9 : Int) = (T9 : Int) := by rw [IntKind.wrap_i64] <;> omega
    have hle9 : Iz ≤ T9 := by omega
    have htk9 : T9 ≤ ke := by omega
    have hkz9 : ¬ (ke = Iz) := by omega
    go_wp2_with fail
    refine wp_region_held_drew (S := fun w' => Upd w w' [g] ∧ Die B w' g) (by kernel_rfl) (by (try dsimp only); exact ⟨(by exact updT), (by exact dieT)⟩) (fun hHeld => ?_)
    refine wt 1 ?_
    (try simp only [redA, Act.put])
    refine wt 2 ?_
    (try simp only [redA, Act.put])
    refine wt 3 ?_
    (try simp only [redA, Act.put])
    refine wt 4 ?_
    (try simp only [redA, Act.put])
    refine wt 5 ?_
    (try simp only [redA, Act.put])
    refine wt 6 ?_
    (try simp only [redA, Act.put])
    refine wt 7 ?_
    (try simp only [redA, Act.put])
    refine wt 8 ?_
    (try simp only [redA, Act.put])
    refine wr2 0 9 (fun Kz hKz => ?_) fun Kz hKz => ?_
    ·
     (try simp only [redA])
     go_simp
     refine hKz.out _ _ (by (try dsimp only); exact ⟨(by exact updT), (by exact dieT)⟩) (fun hHeld => ?_)
     clear hKz Kz
     (try simp only [redA, Act.put])
     refine wr1 9 fun Kz hKz => ?_
     (try simp only [redA])
     go_simp
     go_at_call 21
     refine (w6Copy_c _ _ ((L.take T9).drop Iz) (entries_part3 (OwnI.ints (show OwnI M 54 9 _ (.slice ae ne ke) (flEntry L) from by exact ownT)) (i := Iz) (m := T9) oM oM hkz9) (by simp; try omega)).mono ?_
     rintro e w8 ⟨_, rfl, hx8, Oc⟩
     have P8 : Kp w.heap.size boxTs w7 w8 := Kp.ext kpT hx8
     have gE := gE.kp P8
     clear P8
     have hz8 := hx8.size; (try simp only [szA] at hz8)
     have E8 : Upd w w8 [g] := Upd.ext (by exact updT) hx8
     have hc8 : Die B w8 g := Die.ext (by exact dieT) hx8
     have KR8 : Blk w8 w.heap.size 41 #[.slice none 0 0, .slice none 0 0, .int .i64 0, .int .i64 0, .slice none 0 0, .slice none 0 0, .int .i64 0, .int .i64 0, .int .i64 0, .int .i64 0, .int .i64 0, .int .i64 0] := Blk.ext bC hx8
     have KS8 : Blk w8 w1.heap.size 41 #[.slice az0 nz0 kz0, .slice az1 nz1 kz1, .int .i64 (Iz : Int), .int .i64 ss.State.Time, .slice az4 nz4 kz4, .slice az5 nz5 kz5, .int .i64 ss.State.Lease.Holder, .int .i64 ss.State.Lease.Epoch, .int .i64 ss.State.Lease.Until, .int .i64 ss.Num, .int .i64 ss.Last, .int .i64 ss.Busy] := Blk.ext bC hx8
     have Oe8 : OwnI M 54 9 w8 (.slice ae ne ke) (flEntry L) := OwnI.ext1 (ow_ex0x1n Oe7 KR7 KS7) hx8
     clear hx8
     clear CR7 FR7 LR7 CS7 FS7 LS7
     obtain ⟨CR8, FR8, LR8⟩ := KR8.cfl
     obtain ⟨CS8, FS8, LS8⟩ := KS8.cfl
     obtain ⟨ac, nc, kc, rfl⟩ := Oc.shape
     refine hKz.out _ _ (by (try dsimp only); exact ⟨(by exact updT), (by exact dieT)⟩) (fun hHeld => ?_)
     clear hKz Kz
     (try simp only [redA, Act.put])
     refine wt 10 ?_
     (try simp only [redA, Act.put])
     refine wr1 11 fun Kz hKz => ?_
     (try simp only [redA])
     go_simp
     go_at_call 20
     refine (heardFeed_k (gE.rd.ext (by exact extT)) (f := ⟨tq, (ne : Int), ((L.take T9).drop Iz)⟩) ⟨_, rfl, Oc.ints.ext (by exact extT)⟩).mono ?_
     rintro e w9 ⟨_, rfl, hx9, FD, gd0⟩
     have P9 : Kp w.heap.size boxTs w8 w9 := Kp.ext kpT hx9
     have gE := gE.kp P9
     clear P9
     have hz9 := hx9.size; (try simp only [szA] at hz9)
     have E9 : Upd w w9 [g] := Upd.ext (by exact updT) hx9
     have hc9 : Die B w9 g := Die.ext (by exact dieT) hx9
     have KR9 := KR8.exv hx9
     have KS9 := KS8.exv hx9
     have Oe9 := OwnI.ext1 (ow_ex0x1n Oe8 KR8 KS8) hx9
     clear hx9
     clear CR8 FR8 LR8 CS8 FS8 LS8
     obtain ⟨CR9, FR9, LR9⟩ := KR9.cfl
     obtain ⟨CS9, FS9, LS9⟩ := KS9.cfl
     have gd := gd0.isS; clear gd0
     obtain ⟨S2, hS2⟩ : ∃ q, q = hfD ss ⟨tq, (ne : Int), ((L.take T9).drop Iz)⟩ := ⟨_, rfl⟩
     rw [← hS2] at gd
     have VS2 : SInv ST (ne : Int) S2 tq := by rw [hS2]; exact sinv_fed HS.out HV.out (k := (T9 : Int)) ⟨by rw [HIz.out]; omega, by omega⟩ (by show feedS ss.State ((L.take T9).drop Iz) = _; rw [HV.out.state, HIz.out]; exact HF.out Iz T9 oM oM)
     clear hS2
     have bbv := storeOk_bounds VS2.ok; have ttv := VS2.top
     obtain ⟨av0, nv0, kv0, av1, nv1, kv1, av4, nv4, kv4, av5, nv5, kv5, rfl⟩ := gd.rd.shape
     obtain ⟨Iv, hIv⟩ : ∃ q : Nat, S2.State.Index = (q : Int) := ⟨_, (Int.toNat_of_nonneg oM).symm⟩
     have hJv : Iv ≤ ne := by omega
     rw [hIv] at gd ⊢
     have gV := IsStore.mono (B' := w.heap.size) gd zT
     clear gd
     have HIv := Lib.hid hIv; have HVS2 := Lib.hid VS2; clear hIv VS2 bbv ttv
     refine hKz.out _ _ (by (try dsimp only); exact ⟨(by exact updT), (by exact dieT)⟩) (fun hHeld => ?_)
     clear hKz Kz
     (try simp only [redA, Act.put])
     refine wr1 12 fun Kz hKz => ?_
     (try simp only [redA])
     first | (rw [if_pos (by rfl)]; refine wp_store_row 41 (.tmp 11) (.tmp 85) (by rfl) _ #[.slice av0 nv0 kv0, .slice av1 nv1 kv1, .int .i64 (Iv : Int), .int .i64 S2.State.Time, .slice av4 nv4 kv4, .slice av5 nv5 kv5, .int .i64 S2.State.Lease.Holder, .int .i64 S2.State.Lease.Epoch, .int .i64 S2.State.Lease.Until, .int .i64 S2.Num, .int .i64 S2.Last, .int .i64 S2.Busy] (by rfl) (by kernel_rfl) 41 _ KS9 (by kernel_rfl) rfl (by kernel_rfl) ?_) | go_simp
     refine hKz.out _ _ (by (try dsimp only); exact ⟨(by exact updT), (by exact dieT)⟩) (fun hHeld => ?_)
     clear hKz Kz
     (try simp only [redA, Act.put])
     refine wpAnyH_done (by kernel_rfl) ?_ _
     go_wp2_with fail
     go_roundw
     case rel => exact ⟨k - 1, S2, tq, Iv, av0, nv0, kv0, av1, nv1, kv1, av4, nv4, kv4, av5, nv5, kv5, by omega, by (try simp only [Value.int.injEq, true_and]); first | omega | (congr 1; omega), rfl, HIv.out, hJv, HVS2, by exact updT, by exact dieT, bC, bC, gV.kp kpT, (by first | (exact OwnI.ext1 Oe9 (by exact extT)) | (with_reducible exact Oe9) | (refine OwnI.drawn Oe9 ?_ oM; (exact updT); done) | (refine OwnI.updX Oe9 KR9 dC ?_; (exact updT); done) | (refine OwnI.updX Oe9 KS9 dC ?_; (exact updT); done) | (exact ownR))⟩
     case measure => simp [intOf]; omega
    (try simp only [redA])
    go_simp
    go_at_call 21
    refine (w6Copy_c _ _ ((L.take T9).drop Iz) (entries_part3 (OwnI.ints (show OwnI M 54 9 _ (.slice ae ne ke) (flEntry L) from by exact ownT)) (i := Iz) (m := T9) oM oM hkz9) (by simp; try omega)).mono ?_
    rintro e w8 ⟨_, rfl, hx8, Oc⟩
    have P8 : Kp w.heap.size boxTs w7 w8 := Kp.ext kpT hx8
    have gE := gE.kp P8
    clear P8
    have hz8 := hx8.size; (try simp only [szA] at hz8)
    have E8 : Upd w w8 [g] := Upd.ext (by exact updT) hx8
    have hc8 : Die B w8 g := Die.ext (by exact dieT) hx8
    have KR8 : Blk w8 w.heap.size 41 #[.slice none 0 0, .slice none 0 0, .int .i64 0, .int .i64 0, .slice none 0 0, .slice none 0 0, .int .i64 0, .int .i64 0, .int .i64 0, .int .i64 0, .int .i64 0, .int .i64 0] := Blk.ext bC hx8
    have KS8 : Blk w8 w1.heap.size 41 #[.slice az0 nz0 kz0, .slice az1 nz1 kz1, .int .i64 (Iz : Int), .int .i64 ss.State.Time, .slice az4 nz4 kz4, .slice az5 nz5 kz5, .int .i64 ss.State.Lease.Holder, .int .i64 ss.State.Lease.Epoch, .int .i64 ss.State.Lease.Until, .int .i64 ss.Num, .int .i64 ss.Last, .int .i64 ss.Busy] := Blk.ext bC hx8
    have Oe8 : OwnI M 54 9 w8 (.slice ae ne ke) (flEntry L) := OwnI.ext1 (ow_ex0x1n Oe7 KR7 KS7) hx8
    clear hx8
    clear CR7 FR7 LR7 CS7 FS7 LS7
    obtain ⟨CR8, FR8, LR8⟩ := KR8.cfl
    obtain ⟨CS8, FS8, LS8⟩ := KS8.cfl
    obtain ⟨ac, nc, kc, rfl⟩ := Oc.shape
    refine hKz.out _ _ (by (try dsimp only); exact ⟨(by exact updT), (by exact dieT)⟩) (fun hHeld => ?_)
    clear hKz Kz
    (try simp only [redA, Act.put])
    refine wt 10 ?_
    (try simp only [redA, Act.put])
    refine wr1 0 fun Kz hKz => ?_
    (try simp only [redA])
    go_simp
    refine hKz.out _ _ (by (try dsimp only); exact ⟨(by exact updT), (by exact dieT)⟩) (fun hHeld => ?_)
    clear hKz Kz
    (try simp only [redA, Act.put])
    refine wr1 11 fun Kz hKz => ?_
    (try simp only [redA])
    go_simp
    go_at_call 20
    refine (heardFeed_k (gE.rd.ext (by exact extT)) (f := ⟨tq, (ne : Int), ((L.take T9).drop Iz)⟩) ⟨_, rfl, Oc.ints.ext (by exact extT)⟩).mono ?_
    rintro e w9 ⟨_, rfl, hx9, FD, gd0⟩
    have P9 : Kp w.heap.size boxTs w8 w9 := Kp.ext kpT hx9
    have gE := gE.kp P9
    clear P9
    have hz9 := hx9.size; (try simp only [szA] at hz9)
    have E9 : Upd w w9 [g] := Upd.ext (by exact updT) hx9
    have hc9 : Die B w9 g := Die.ext (by exact dieT) hx9
    have KR9 := KR8.exv hx9
    have KS9 := KS8.exv hx9
    have Oe9 := OwnI.ext1 (ow_ex0x1n Oe8 KR8 KS8) hx9
    clear hx9
    clear CR8 FR8 LR8 CS8 FS8 LS8
    obtain ⟨CR9, FR9, LR9⟩ := KR9.cfl
    obtain ⟨CS9, FS9, LS9⟩ := KS9.cfl
    have gd := gd0.isS; clear gd0
    obtain ⟨S2, hS2⟩ : ∃ q, q = hfD ss ⟨tq, (ne : Int), ((L.take T9).drop Iz)⟩ := ⟨_, rfl⟩
    rw [← hS2] at gd
    have VS2 : SInv ST (ne : Int) S2 tq := by rw [hS2]; exact sinv_fed HS.out HV.out (k := (T9 : Int)) ⟨by rw [HIz.out]; omega, by omega⟩ (by show feedS ss.State ((L.take T9).drop Iz) = _; rw [HV.out.state, HIz.out]; exact HF.out Iz T9 oM oM)
    clear hS2
    have bbv := storeOk_bounds VS2.ok; have ttv := VS2.top
    obtain ⟨av0, nv0, kv0, av1, nv1, kv1, av4, nv4, kv4, av5, nv5, kv5, rfl⟩ := gd.rd.shape
    obtain ⟨Iv, hIv⟩ : ∃ q : Nat, S2.State.Index = (q : Int) := ⟨_, (Int.toNat_of_nonneg oM).symm⟩
    have hJv : Iv ≤ ne := by omega
    rw [hIv] at gd ⊢
    have gV := IsStore.mono (B' := w.heap.size) gd zT
    clear gd
    have HIv := Lib.hid hIv; have HVS2 := Lib.hid VS2; clear hIv VS2 bbv ttv
    refine hKz.out _ _ (by (try dsimp only); exact ⟨(by exact updT), (by exact dieT)⟩) (fun hHeld => ?_)
    clear hKz Kz
    (try simp only [redA, Act.put])
    refine wr1 12 fun Kz hKz => ?_
    (try simp only [redA])
    first | (rw [if_pos (by rfl)]; refine wp_store_row 41 (.tmp 11) (.tmp 85) (by rfl) _ #[.slice av0 nv0 kv0, .slice av1 nv1 kv1, .int .i64 (Iv : Int), .int .i64 S2.State.Time, .slice av4 nv4 kv4, .slice av5 nv5 kv5, .int .i64 S2.State.Lease.Holder, .int .i64 S2.State.Lease.Epoch, .int .i64 S2.State.Lease.Until, .int .i64 S2.Num, .int .i64 S2.Last, .int .i64 S2.Busy] (by rfl) (by kernel_rfl) 41 _ KS9 (by kernel_rfl) rfl (by kernel_rfl) ?_) | go_simp
    refine hKz.out _ _ (by (try dsimp only); exact ⟨(by exact updT), (by exact dieT)⟩) (fun hHeld => ?_)
    clear hKz Kz
    (try simp only [redA, Act.put])
    refine wpAnyH_done (by kernel_rfl) ?_ _
    go_wp2_with fail
    go_roundw
    case rel => exact ⟨k - 1, S2, tq, Iv, av0, nv0, kv0, av1, nv1, kv1, av4, nv4, kv4, av5, nv5, kv5, by omega, by (try simp only [Value.int.injEq, true_and]); first | omega | (congr 1; omega), rfl, HIv.out, hJv, HVS2, by exact updT, by exact dieT, bC, bC, gV.kp kpT, (by first | (exact OwnI.ext1 Oe9 (by exact extT)) | (with_reducible exact Oe9) | (refine OwnI.drawn Oe9 ?_ oM; (exact updT); done) | (refine OwnI.updX Oe9 KR9 dC ?_; (exact updT); done) | (refine OwnI.updX Oe9 KS9 dC ?_; (exact updT); done) | (exact ownR))⟩
    case measure => simp [intOf]; omega
   ·
    obtain rfl | rfl := hB
    all_goals
     go_wp2_with fail
     refine (shotBegun_k (gE.rd.ext (by exact extT))).mono ?_
     rintro e w5 ⟨_, rfl, hx5, vd, rfl, FD, gd0⟩
     have P5 : Kp w.heap.size boxTs w4 w5 := Kp.ext kpT hx5
     have gE := gE.kp P5
     clear P5
     have hz5 := hx5.size; (try simp only [szA] at hz5)
     have E5 : Upd w w5 [g] := Upd.ext (by exact updT) hx5
     have hc5 : Die B w5 g := Die.ext (by exact dieT) hx5
     have KR5 := KR4.exv hx5
     have KS5 := KS4.exv hx5
     have Oe5 := OwnI.ext1 (ow_ex0x1n Oe4 KR4 KS4) hx5
     clear hx5
     clear CR4 FR4 LR4 CS4 FS4 LS4
     obtain ⟨CR5, FR5, LR5⟩ := KR5.cfl
     obtain ⟨CS5, FS5, LS5⟩ := KS5.cfl
     have gd := gd0.isS; clear gd0
     obtain ⟨S2, hS2⟩ : ∃ q, q = sbD ss := ⟨_, rfl⟩
     rw [← hS2] at gd
     have VS2 : SInv ST (ne : Int) S2 tq := by rw [hS2]; exact sinv_begun HV.out
     clear hS2
     have bbv := storeOk_bounds VS2.ok; have ttv := VS2.top
     obtain ⟨av0, nv0, kv0, av1, nv1, kv1, av4, nv4, kv4, av5, nv5, kv5, rfl⟩ := gd.rd.shape
     obtain ⟨Iv, hIv⟩ : ∃ q : Nat, S2.State.Index = (q : Int) := ⟨_, (Int.toNat_of_nonneg oM).symm⟩
     have hJv : Iv ≤ ne := by omega
     rw [hIv] at gd ⊢
     have gV := IsStore.mono (B' := w.heap.size) gd zT
     clear gd
     have HIv := Lib.hid hIv; have HVS2 := Lib.hid VS2; clear hIv VS2 bbv ttv
     go_wp2_with (refine wpList_store_box rfl 41 (.tmp 11) (.tmp 92) rfl rfl rfl _ KS5 (by kernel_rfl) rfl (by kernel_rfl) ?_; intro KF)
     go_roundw
     case rel => exact ⟨k - 1, S2, tq, Iv, av0, nv0, kv0, av1, nv1, kv1, av4, nv4, kv4, av5, nv5, kv5, by omega, by (try simp only [Value.int.injEq, true_and]); first | omega | (congr 1; omega), rfl, HIv.out, hJv, HVS2, by exact updT, by exact dieT, bC, bC, gV.kp kpT, (by first | (exact OwnI.ext1 Oe5 (by exact extT)) | (with_reducible exact Oe5) | (refine OwnI.drawn Oe5 ?_ oM; (exact updT); done) | (refine OwnI.updX Oe5 KR5 dC ?_; (exact updT); done) | (refine OwnI.updX Oe5 KS5 dC ?_; (exact updT); done) | (exact ownR))⟩
     case measure => simp [intOf]; omega
   ·
    obtain rfl | rfl := hC
    all_goals
     go_wp2_with fail
     refine (shotSynced_k (gE.rd.ext (by exact extT))).mono ?_
     rintro e w5 ⟨_, rfl, hx5, vd, rfl, FD, gd0⟩
     have P5 : Kp w.heap.size boxTs w4 w5 := Kp.ext kpT hx5
     have gE := gE.kp P5
     clear P5
     have hz5 := hx5.size; (try simp only [szA] at hz5)
     have E5 : Upd w w5 [g] := Upd.ext (by exact updT) hx5
     have hc5 : Die B w5 g := Die.ext (by exact dieT) hx5
     have KR5 := KR4.exv hx5
     have KS5 := KS4.exv hx5
     have Oe5 := OwnI.ext1 (ow_ex0x1n Oe4 KR4 KS4) hx5
     clear hx5
     clear CR4 FR4 LR4 CS4 FS4 LS4
     obtain ⟨CR5, FR5, LR5⟩ := KR5.cfl
     obtain ⟨CS5, FS5, LS5⟩ := KS5.cfl
     have gd := gd0.isS; clear gd0
     obtain ⟨S2, hS2⟩ : ∃ q, q = ssStore ss := ⟨_, rfl⟩
     rw [← hS2] at gd ⊢
     have VS2 : SInv ST (ne : Int) S2 S2.Last := by rw [hS2]; exact sinv_synced HV.out
     clear hS2
     have bbv := storeOk_bounds VS2.ok; have ttv := VS2.top
     obtain ⟨av0, nv0, kv0, av1, nv1, kv1, av4, nv4, kv4, av5, nv5, kv5, rfl⟩ := gd.rd.shape
     obtain ⟨Iv, hIv⟩ : ∃ q : Nat, S2.State.Index = (q : Int) := ⟨_, (Int.toNat_of_nonneg oM).symm⟩
     have hJv : Iv ≤ ne := by omega
     rw [hIv] at gd ⊢
     have gV := IsStore.mono (B' := w.heap.size) gd zT
     clear gd
     have HIv := Lib.hid hIv; have HVS2 := Lib.hid VS2; clear hIv VS2 bbv ttv
     go_wp2_with (refine wpList_store_box rfl 41 (.tmp 11) (.tmp 100) rfl rfl rfl _ KS5 (by kernel_rfl) rfl (by kernel_rfl) ?_; intro KF)
     go_roundw
     case rel => exact ⟨k - 1, S2, S2.Last, Iv, av0, nv0, kv0, av1, nv1, kv1, av4, nv4, kv4, av5, nv5, kv5, by omega, by (try simp only [Value.int.injEq, true_and]); first | omega | (congr 1; omega), rfl, HIv.out, hJv, HVS2, by exact updT, by exact dieT, bC, bC, gV.kp kpT, (by first | (exact OwnI.ext1 Oe5 (by exact extT)) | (with_reducible exact Oe5) | (refine OwnI.drawn Oe5 ?_ oM; (exact updT); done) | (refine OwnI.updX Oe5 KR5 dC ?_; (exact updT); done) | (refine OwnI.updX Oe5 KS5 dC ?_; (exact updT); done) | (exact ownR))⟩
     case measure => simp [intOf]; omega
   obtain rfl := hD
   cases fb
   rotate_left
   ·
    go_upto_region 10 with (fail)
    go_cut [15, 16] (fun cx0 cx1 wx => ∃ gg : Nat, ∃ okb : Bool, ∃ S3 : DStore, ∃ Iu : Nat, ∃ au0 : Option Addr, ∃ nu0 : Nat, ∃ ku0 : Nat, ∃ au1 : Option Addr, ∃ nu1 : Nat, ∃ ku1 : Nat, ∃ au4 : Option Addr, ∃ nu4 : Nat, ∃ ku4 : Nat, ∃ au5 : Option Addr, ∃ nu5 : Nat, ∃ ku5 : Nat, cx0 = .pointer (some ⟨gg, 0, none⟩) ∧ cx1 = .bool okb ∧ w4.heap.size ≤ gg ∧ (okb = true) ∧ IsStore w.heap.size wx (.agg #[.slice au0 nu0 ku0, .slice au1 nu1 ku1, .int .i64 (Iu : Int), .int .i64 S3.State.Time, .slice au4 nu4 ku4, .slice au5 nu5 ku5, .int .i64 S3.State.Lease.Holder, .int .i64 S3.State.Lease.Epoch, .int .i64 S3.State.Lease.Until, .int .i64 S3.Num, .int .i64 S3.Last, .int .i64 S3.Busy]) S3 ∧ Hid (SInv ST (ne : Int) S3 tq) ∧ Hid (S3.State.Index = (Iu : Int)) ∧ Iu ≤ ne ∧ Blk wx gg 41 #[.slice au0 nu0 ku0, .slice au1 nu1 ku1, .int .i64 (Iu : Int), .int .i64 S3.State.Time, .slice au4 nu4 ku4, .slice au5 nu5 ku5, .int .i64 S3.State.Lease.Holder, .int .i64 S3.State.Lease.Epoch, .int .i64 S3.State.Lease.Until, .int .i64 S3.Num, .int .i64 S3.Last, .int .i64 S3.Busy] ∧ Upd w wx [g] ∧ Die B wx g ∧ Blk wx w.heap.size 41 #[.slice none 0 0, .slice none 0 0, .int .i64 0, .int .i64 0, .slice none 0 0, .slice none 0 0, .int .i64 0, .int .i64 0, .int .i64 0, .int .i64 0, .int .i64 0, .int .i64 0] ∧ Blk wx w1.heap.size 41 #[.slice az0 nz0 kz0, .slice az1 nz1 kz1, .int .i64 (Iz : Int), .int .i64 ss.State.Time, .slice az4 nz4 kz4, .slice az5 nz5 kz5, .int .i64 ss.State.Lease.Holder, .int .i64 ss.State.Lease.Epoch, .int .i64 ss.State.Lease.Until, .int .i64 ss.Num, .int .i64 ss.Last, .int .i64 ss.Busy] ∧ OwnI M 54 9 wx (.slice ae ne ke) (flEntry L))
    case first =>
     go_wp2_with fail
     refine wp_region_held_drew (S := fun w' => Upd w w' [g] ∧ Die B w' g ∧ Blk w' w1.heap.size 41 #[.slice az0 nz0 kz0, .slice az1 nz1 kz1, .int .i64 (Iz : Int), .int .i64 ss.State.Time, .slice az4 nz4 kz4, .slice az5 nz5 kz5, .int .i64 ss.State.Lease.Holder, .int .i64 ss.State.Lease.Epoch, .int .i64 ss.State.Lease.Until, .int .i64 ss.Num, .int .i64 ss.Last, .int .i64 ss.Busy]) (by kernel_rfl) (by (try dsimp only); exact ⟨(by exact updT), (by exact dieT), bC⟩) (fun hHeld => ?_)
     refine wtq 0 (fun _ h => h.2.2.cell) ?_
     (try simp only [redA, Act.put])
     refine wt 1 ?_
     (try simp only [redA, Act.put])
     refine wr2 2 8 (fun Kz hKz => ?_) fun Kz hKz => ?_
     ·
      (try simp only [redA])
      go_simp
      go_at_call 26
      refine (w6Fates_c (show Die B _ g from by exact dieT)).mono ?_
      rintro e w5 ⟨_, rfl, X5, hc5, fl, Of, hf⟩
      have P5 : Kp w.heap.size boxTs w4 w5 := Kp.upd kpT X5 oM
      have gE := gE.kp P5
      clear P5
      have hz5 := X5.sz
      have E5 : Upd w w5 [g] := X5.up
      have KR5 := KR4.upv X5
      have KS5 := KS4.upv X5
      have Oe5 := OwnI.drawn (ow_ex0x1n Oe4 KR4 KS4) X5 oM
      clear X5
      clear CR4 FR4 LR4 CS4 FS4 LS4
      obtain ⟨CR5, FR5, LR5⟩ := KR5.cfl
      obtain ⟨CS5, FS5, LS5⟩ := KS5.cfl
      obtain ⟨aq, nq, kq, rfl⟩ := Of.shape
      refine hKz.out _ _ (by (try dsimp only); exact ⟨(by exact updT), (by exact dieT), bC⟩) (fun hHeld => ?_)
      clear hKz Kz
      (try simp only [redA, Act.put])
      refine wr2 3 8 (fun Kz hKz => ?_) fun Kz hKz => ?_
      ·
       (try simp only [redA])
       go_simp
       go_at_call 25
       refine (fallenStore_k (gE.rd.ext (by exact extT)) (Of.ints.ext (by exact extT))).mono ?_
       rintro e w6 ⟨_, rfl, hx6, FD, gd0⟩
       have P6 : Kp w.heap.size boxTs w5 w6 := Kp.ext kpT hx6
       have gE := gE.kp P6
       clear P6
       have hz6 := hx6.size; (try simp only [szA] at hz6)
       have E6 : Upd w w6 [g] := Upd.ext (by exact updT) hx6
       have hc6 : Die B w6 g := Die.ext (by exact dieT) hx6
       have KR6 := KR5.exv hx6
       have KS6 := KS5.exv hx6
       have Oe6 := OwnI.ext1 (ow_ex0x1n Oe5 KR5 KS5) hx6
       clear hx6
       clear CR5 FR5 LR5 CS5 FS5 LS5
       obtain ⟨CR6, FR6, LR6⟩ := KR6.cfl
       obtain ⟨CS6, FS6, LS6⟩ := KS6.cfl
       have gd := gd0.isS; clear gd0
       obtain ⟨S2, hS2⟩ : ∃ q, q = fallenStore fl ss := ⟨_, rfl⟩
       rw [← hS2] at gd
       have HX := Lib.hid hS2; clear hS2
       obtain ⟨av0, nv0, kv0, av1, nv1, kv1, av4, nv4, kv4, av5, nv5, kv5, rfl⟩ := gd.rd.shape
       have gV := IsStore.mono (B' := w.heap.size) gd zT
       clear gd
       refine hKz.out _ _ (by (try dsimp only); exact ⟨(by exact updT), (by exact dieT), bC⟩) (fun hHeld => ?_)
       clear hKz Kz
       (try simp only [redA, Act.put])
       refine wr2 4 8 (fun Kz hKz => ?_) fun Kz hKz => ?_
       ·
        (try simp only [redA])
        go_simp
        go_at_call 24
        refine (risenStore_k (IsStore.rd (gV.kp kpT))).mono ?_
        rintro e w7 ⟨_, rfl, hx7, vd2, rfl, FD2, gd0⟩
        have P7 : Kp w.heap.size boxTs w6 w7 := Kp.ext kpT hx7
        have gV := gV.kp P7
        clear P7
        have hz7 := hx7.size; (try simp only [szA] at hz7)
        have E7 : Upd w w7 [g] := Upd.ext (by exact updT) hx7
        have hc7 : Die B w7 g := Die.ext (by exact dieT) hx7
        have KR7 := KR6.exv hx7
        have KS7 := KS6.exv hx7
        have Oe7 := OwnI.ext1 (ow_ex0x1n Oe6 KR6 KS6) hx7
        clear hx7
        clear CR6 FR6 LR6 CS6 FS6 LS6
        obtain ⟨CR7, FR7, LR7⟩ := KR7.cfl
        obtain ⟨CS7, FS7, LS7⟩ := KS7.cfl
        have gd := gd0.isS; clear gd0
        have hri : riOk S2 = true := by rw [HX.out]; exact (sinv_fallen HS.out HV.out fl).1
        rw [hri]; clear hri
        obtain ⟨S3, hS3⟩ : ∃ q, q = riD S2 := ⟨_, rfl⟩
        rw [← hS3] at gd
        have VS3 : SInv ST (ne : Int) S3 tq := by rw [hS3]; exact (by rw [HX.out]; exact (sinv_fallen HS.out HV.out fl).2)
        clear hS3
        have bbu := storeOk_bounds VS3.ok; have ttu := VS3.top
        obtain ⟨au0, nu0, ku0, au1, nu1, ku1, au4, nu4, ku4, au5, nu5, ku5, rfl⟩ := gd.rd.shape
        obtain ⟨Iu, hIu⟩ : ∃ q : Nat, S3.State.Index = (q : Int) := ⟨_, (Int.toNat_of_nonneg oM).symm⟩
        have hJu : Iu ≤ ne := by omega
        rw [hIu] at gd ⊢
        have gU := IsStore.mono (B' := w.heap.size) gd zT
        clear gd
        have HIu := Lib.hid hIu; have HVS3 := Lib.hid VS3; clear hIu VS3 bbu ttu
        refine hKz.out _ _ (by (try dsimp only); exact ⟨(by exact updT), (by exact dieT), bC⟩) (fun hHeld => ?_)
        clear hKz Kz
        (try simp only [redA, Act.put])
        refine wt 5 ?_
        (try simp only [redA, Act.put])
        refine wt 6 ?_
        (try simp only [redA, Act.put])
        refine wt 7 ?_
        (try simp only [redA, Act.put])
        refine wr1 8 fun Kz hKz => ?_
        (try simp only [redA])
        go_simp
        refine hKz.out _ _ (by (try dsimp only); exact ⟨(by exact updT), (by exact dieT), bC⟩) (fun hHeld => ?_)
        clear hKz Kz
        (try simp only [redA, Act.put])
        refine wr1 9 fun Kz hKz => ?_
        (try simp only [redA])
        go_simp
        refine hKz.out _ _ (by (try dsimp only); exact ⟨(by exact updT), (by exact dieT), bC⟩) (fun hHeld => ?_)
        clear hKz Kz
        (try simp only [redA, Act.put])
        refine wt 10 ?_
        (try simp only [redA, Act.put])
        refine wpAnyH_done (by kernel_rfl) ?_ _
        go_wp2_with fail
        go_meet
        case rel => exact ⟨_, true, S3, Iu, au0, nu0, ku0, au1, nu1, ku1, au4, nu4, ku4, au5, nu5, ku5, (by first | rfl | trivial), (by first | rfl | trivial), (by first | omega | (simp only [World.size_alloc, size_drew]; omega)), rfl, (gU.kp kpT), HVS3, HIu, hJu, bC, (by exact updT), (by exact dieT), bC, bC, (by first | (exact OwnI.ext1 Oe7 (by exact extT)) | (with_reducible exact Oe7) | (refine OwnI.drawn Oe7 ?_ oM; (exact updT); done) | (refine OwnI.updX Oe7 KR7 dC ?_; (exact updT); done) | (refine OwnI.updX Oe7 KS7 dC ?_; (exact updT); done) | (refine OwnI.updX Oe7 KU7 dC ?_; (exact updT); done) | (exact ownR))⟩
       (try simp only [redA])
       go_simp
       refine hKz.out _ _ (by (try dsimp only); exact ⟨(by exact updT), (by exact dieT), bC⟩) (fun hHeld => ?_)
       clear hKz Kz
       (try simp only [redA, Act.put])
       refine wr1 4 fun Kz hKz => ?_
       (try simp only [redA])
       go_simp
       go_at_call 24
       refine (risenStore_k (IsStore.rd (gV.kp kpT))).mono ?_
       rintro e w7 ⟨_, rfl, hx7, vd2, rfl, FD2, gd0⟩
       have P7 : Kp w.heap.size boxTs w6 w7 := Kp.ext kpT hx7
       have gE := gE.kp P7
       clear P7
       have hz7 := hx7.size; (try simp only [szA] at hz7)
       have E7 : Upd w w7 [g] := Upd.ext (by exact updT) hx7
       have hc7 : Die B w7 g := Die.ext (by exact dieT) hx7
       have KR7 := KR6.exv hx7
       have KS7 := KS6.exv hx7
       have KU7 : Blk w7 w6.heap.size 41 #[.slice none 0 0, .slice none 0 0, .int .i64 0, .int .i64 0, .slice none 0 0, .slice none 0 0, .int .i64 0, .int .i64 0, .int .i64 0, .int .i64 0, .int .i64 0, .int .i64 0] := Blk.ext bC hx7
       have Oe7 := OwnI.ext1 (ow_ex0x1n Oe6 KR6 KS6) hx7
       clear hx7
       clear CR6 FR6 LR6 CS6 FS6 LS6
       obtain ⟨CR7, FR7, LR7⟩ := KR7.cfl
       obtain ⟨CS7, FS7, LS7⟩ := KS7.cfl
       obtain ⟨CU7, FU7, LU7⟩ := KU7.cfl
       have gd := gd0.isS; clear gd0
       have hri : riOk S2 = true := by rw [HX.out]; exact (sinv_fallen HS.out HV.out fl).1
       rw [hri]; clear hri
       obtain ⟨S3, hS3⟩ : ∃ q, q = riD S2 := ⟨_, rfl⟩
       rw [← hS3] at gd
       have VS3 : SInv ST (ne : Int) S3 tq := by rw [hS3]; exact (by rw [HX.out]; exact (sinv_fallen HS.out HV.out fl).2)
       clear hS3
       have bbu := storeOk_bounds VS3.ok; have ttu := VS3.top
       obtain ⟨au0, nu0, ku0, au1, nu1, ku1, au4, nu4, ku4, au5, nu5, ku5, rfl⟩ := gd.rd.shape
       obtain ⟨Iu, hIu⟩ : ∃ q : Nat, S3.State.Index = (q : Int) := ⟨_, (Int.toNat_of_nonneg oM).symm⟩
       have hJu : Iu ≤ ne := by omega
       rw [hIu] at gd ⊢
       have gU := IsStore.mono (B' := w.heap.size) gd zT
       clear gd
       have HIu := Lib.hid hIu; have HVS3 := Lib.hid VS3; clear hIu VS3 bbu ttu
       refine hKz.out _ _ (by (try dsimp only); exact ⟨(by exact updT), (by exact dieT), bC⟩) (fun hHeld => ?_)
       clear hKz Kz
       (try simp only [redA, Act.put])
       refine wt 5 ?_
       (try simp only [redA, Act.put])
       refine wt 6 ?_
       (try simp only [redA, Act.put])
       refine wt 7 ?_
       (try simp only [redA, Act.put])
       refine wr1 9 fun Kz hKz => ?_
       (try simp only [redA])
       go_simp
       refine hKz.out _ _ (by (try dsimp only); exact ⟨(by exact updT), (by exact dieT), bC⟩) (fun hHeld => ?_)
       clear hKz Kz
       (try simp only [redA, Act.put])
       refine wt 10 ?_
       (try simp only [redA, Act.put])
       refine wpAnyH_done (by kernel_rfl) ?_ _
       go_wp2_with fail
       go_meet
       case rel => exact ⟨_, true, S3, Iu, au0, nu0, ku0, au1, nu1, ku1, au4, nu4, ku4, au5, nu5, ku5, (by first | rfl | trivial), (by first | rfl | trivial), (by first | omega | (simp only [World.size_alloc, size_drew]; omega)), rfl, (gU.kp kpT), HVS3, HIu, hJu, bC, (by exact updT), (by exact dieT), bC, bC, (by first | (exact OwnI.ext1 Oe7 (by exact extT)) | (with_reducible exact Oe7) | (refine OwnI.drawn Oe7 ?_ oM; (exact updT); done) | (refine OwnI.updX Oe7 KR7 dC ?_; (exact updT); done) | (refine OwnI.updX Oe7 KS7 dC ?_; (exact updT); done) | (refine OwnI.updX Oe7 KU7 dC ?_; (exact updT); done) | (exact ownR))⟩
      (try simp only [redA])
      go_simp
      refine hKz.out _ _ (by (try dsimp only); exact ⟨(by exact updT), (by exact dieT), bC⟩) (fun hHeld => ?_)
      clear hKz Kz
      (try simp only [redA, Act.put])
      refine wr1 3 fun Kz hKz => ?_
      (try simp only [redA])
      go_simp
      go_at_call 25
      refine (fallenStore_k (gE.rd.ext (by exact extT)) (Of.ints.ext (by exact extT))).mono ?_
      rintro e w6 ⟨_, rfl, hx6, FD, gd0⟩
      have P6 : Kp w.heap.size boxTs w5 w6 := Kp.ext kpT hx6
      have gE := gE.kp P6
      clear P6
      have hz6 := hx6.size; (try simp only [szA] at hz6)
      have E6 : Upd w w6 [g] := Upd.ext (by exact updT) hx6
      have hc6 : Die B w6 g := Die.ext (by exact dieT) hx6
      have KR6 := KR5.exv hx6
      have KS6 := KS5.exv hx6
      have KU6 : Blk w6 w5.heap.size 41 #[.slice none 0 0, .slice none 0 0, .int .i64 0, .int .i64 0, .slice none 0 0, .slice none 0 0, .int .i64 0, .int .i64 0, .int .i64 0, .int .i64 0, .int .i64 0, .int .i64 0] := Blk.ext bC hx6
      have Oe6 := OwnI.ext1 (ow_ex0x1n Oe5 KR5 KS5) hx6
      clear hx6
      clear CR5 FR5 LR5 CS5 FS5 LS5
      obtain ⟨CR6, FR6, LR6⟩ := KR6.cfl
      obtain ⟨CS6, FS6, LS6⟩ := KS6.cfl
      obtain ⟨CU6, FU6, LU6⟩ := KU6.cfl
      have gd := gd0.isS; clear gd0
      obtain ⟨S2, hS2⟩ : ∃ q, q = fallenStore fl ss := ⟨_, rfl⟩
      rw [← hS2] at gd
      have HX := Lib.hid hS2; clear hS2
      obtain ⟨av0, nv0, kv0, av1, nv1, kv1, av4, nv4, kv4, av5, nv5, kv5, rfl⟩ := gd.rd.shape
      have gV := IsStore.mono (B' := w.heap.size) gd zT
      clear gd
      refine hKz.out _ _ (by (try dsimp only); exact ⟨(by exact updT), (by exact dieT), bC⟩) (fun hHeld => ?_)
      clear hKz Kz
      (try simp only [redA, Act.put])
      refine wr1 4 fun Kz hKz => ?_
      (try simp only [redA])
      go_simp
      go_at_call 24
      refine (risenStore_k (IsStore.rd (gV.kp kpT))).mono ?_
      rintro e w7 ⟨_, rfl, hx7, vd2, rfl, FD2, gd0⟩
      have P7 : Kp w.heap.size boxTs w6 w7 := Kp.ext kpT hx7
      have gV := gV.kp P7
      clear P7
      have hz7 := hx7.size; (try simp only [szA] at hz7)
      have E7 : Upd w w7 [g] := Upd.ext (by exact updT) hx7
      have hc7 : Die B w7 g := Die.ext (by exact dieT) hx7
      have KR7 := KR6.exv hx7
      have KS7 := KS6.exv hx7
      have KU7 := KU6.exv hx7
      have Oe7 := OwnI.ext1 (ow_ex0x1x2n Oe6 KR6 KS6 KU6) hx7
      clear hx7
      clear CR6 FR6 LR6 CS6 FS6 LS6 CU6 FU6 LU6
      obtain ⟨CR7, FR7, LR7⟩ := KR7.cfl
      obtain ⟨CS7, FS7, LS7⟩ := KS7.cfl
      obtain ⟨CU7, FU7, LU7⟩ := KU7.cfl
      have gd := gd0.isS; clear gd0
      have hri : riOk S2 = true := by rw [HX.out]; exact (sinv_fallen HS.out HV.out fl).1
      rw [hri]; clear hri
      obtain ⟨S3, hS3⟩ : ∃ q, q = riD S2 := ⟨_, rfl⟩
      rw [← hS3] at gd
      have VS3 : SInv ST (ne : Int) S3 tq := by rw [hS3]; exact (by rw [HX.out]; exact (sinv_fallen HS.out HV.out fl).2)
      clear hS3
      have bbu := storeOk_bounds VS3.ok; have ttu := VS3.top
      obtain ⟨au0, nu0, ku0, au1, nu1, ku1, au4, nu4, ku4, au5, nu5, ku5, rfl⟩ := gd.rd.shape
      obtain ⟨Iu, hIu⟩ : ∃ q : Nat, S3.State.Index = (q : Int) := ⟨_, (Int.toNat_of_nonneg oM).symm⟩
      have hJu : Iu ≤ ne := by omega
      rw [hIu] at gd ⊢
      have gU := IsStore.mono (B' := w.heap.size) gd zT
      clear gd
      have HIu := Lib.hid hIu; have HVS3 := Lib.hid VS3; clear hIu VS3 bbu ttu
      refine hKz.out _ _ (by (try dsimp only); exact ⟨(by exact updT), (by exact dieT), bC⟩) (fun hHeld => ?_)
      clear hKz Kz
      (try simp only [redA, Act.put])
      refine wt 5 ?_
      (try simp only [redA, Act.put])
      refine wt 6 ?_
      (try simp only [redA, Act.put])
      refine wt 7 ?_
      (try simp only [redA, Act.put])
      refine wr1 9 fun Kz hKz => ?_
      (try simp only [redA])
      go_simp
      refine hKz.out _ _ (by (try dsimp only); exact ⟨(by exact updT), (by exact dieT), bC⟩) (fun hHeld => ?_)
      clear hKz Kz
      (try simp only [redA, Act.put])
      refine wt 10 ?_
      (try simp only [redA, Act.put])
      refine wpAnyH_done (by kernel_rfl) ?_ _
      go_wp2_with fail
      go_meet
      case rel => exact ⟨_, true, S3, Iu, au0, nu0, ku0, au1, nu1, ku1, au4, nu4, ku4, au5, nu5, ku5, (by first | rfl | trivial), (by first | rfl | trivial), (by first | omega | (simp only [World.size_alloc, size_drew]; omega)), rfl, (gU.kp kpT), HVS3, HIu, hJu, bC, (by exact updT), (by exact dieT), bC, bC, (by first | (exact OwnI.ext1 Oe7 (by exact extT)) | (with_reducible exact Oe7) | (refine OwnI.drawn Oe7 ?_ oM; (exact updT); done) | (refine OwnI.updX Oe7 KR7 dC ?_; (exact updT); done) | (refine OwnI.updX Oe7 KS7 dC ?_; (exact updT); done) | (refine OwnI.updX Oe7 KU7 dC ?_; (exact updT); done) | (exact ownR))⟩
     (try simp only [redA])
     go_simp
     refine hKz.out _ _ (by (try dsimp only); exact ⟨(by exact updT), (by exact dieT), bC⟩) (fun hHeld => ?_)
     clear hKz Kz
     (try simp only [redA, Act.put])
     refine wr1 2 fun Kz hKz => ?_
     (try simp only [redA])
     go_simp
     go_at_call 26
     refine (w6Fates_c (show Die B _ g from by exact dieT)).mono ?_
     rintro e w5 ⟨_, rfl, X5, hc5, fl, Of, hf⟩
     have P5 : Kp w.heap.size boxTs w4 w5 := Kp.upd kpT X5 oM
     have gE := gE.kp P5
     clear P5
     have hz5 := X5.sz
     have E5 : Upd w w5 [g] := X5.up
     have KR5 := KR4.upv X5
     have KS5 := KS4.upv X5
     have KU5 : Blk w5 w4.heap.size 41 #[.slice none 0 0, .slice none 0 0, .int .i64 0, .int .i64 0, .slice none 0 0, .slice none 0 0, .int .i64 0, .int .i64 0, .int .i64 0, .int .i64 0, .int .i64 0, .int .i64 0] := bU X5
     have Oe5 := OwnI.drawn (ow_ex0x1n Oe4 KR4 KS4) X5 oM
     clear X5
     clear CR4 FR4 LR4 CS4 FS4 LS4
     obtain ⟨CR5, FR5, LR5⟩ := KR5.cfl
     obtain ⟨CS5, FS5, LS5⟩ := KS5.cfl
     obtain ⟨CU5, FU5, LU5⟩ := KU5.cfl
     obtain ⟨aq, nq, kq, rfl⟩ := Of.shape
     refine hKz.out _ _ (by (try dsimp only); exact ⟨(by exact updT), (by exact dieT), bC⟩) (fun hHeld => ?_)
     clear hKz Kz
     (try simp only [redA, Act.put])
     refine wr1 3 fun Kz hKz => ?_
     (try simp only [redA])
     go_simp
     go_at_call 25
     refine (fallenStore_k (gE.rd.ext (by exact extT)) (Of.ints.ext (by exact extT))).mono ?_
     rintro e w6 ⟨_, rfl, hx6, FD, gd0⟩
     have P6 : Kp w.heap.size boxTs w5 w6 := Kp.ext kpT hx6
     have gE := gE.kp P6
     clear P6
     have hz6 := hx6.size; (try simp only [szA] at hz6)
     have E6 : Upd w w6 [g] := Upd.ext (by exact updT) hx6
     have hc6 : Die B w6 g := Die.ext (by exact dieT) hx6
     have KR6 := KR5.exv hx6
     have KS6 := KS5.exv hx6
     have KU6 := KU5.exv hx6
     have Oe6 := OwnI.ext1 (ow_ex0x1x2n Oe5 KR5 KS5 KU5) hx6
     clear hx6
     clear CR5 FR5 LR5 CS5 FS5 LS5 CU5 FU5 LU5
     obtain ⟨CR6, FR6, LR6⟩ := KR6.cfl
     obtain ⟨CS6, FS6, LS6⟩ := KS6.cfl
     obtain ⟨CU6, FU6, LU6⟩ := KU6.cfl
     have gd := gd0.isS; clear gd0
     obtain ⟨S2, hS2⟩ : ∃ q, q = fallenStore fl ss := ⟨_, rfl⟩
     rw [← hS2] at gd
     have HX := Lib.hid hS2; clear hS2
     obtain ⟨av0, nv0, kv0, av1, nv1, kv1, av4, nv4, kv4, av5, nv5, kv5, rfl⟩ := gd.rd.shape
     have gV := IsStore.mono (B' := w.heap.size) gd zT
     clear gd
     refine hKz.out _ _ (by (try dsimp only); exact ⟨(by exact updT), (by exact dieT), bC⟩) (fun hHeld => ?_)
     clear hKz Kz
     (try simp only [redA, Act.put])
     refine wr1 4 fun Kz hKz => ?_
     (try simp only [redA])
     go_simp
     go_at_call 24
     refine (risenStore_k (IsStore.rd (gV.kp kpT))).mono ?_
     rintro e w7 ⟨_, rfl, hx7, vd2, rfl, FD2, gd0⟩
     have P7 : Kp w.heap.size boxTs w6 w7 := Kp.ext kpT hx7
     have gV := gV.kp P7
     clear P7
     have hz7 := hx7.size; (try simp only [szA] at hz7)
     have E7 : Upd w w7 [g] := Upd.ext (by exact updT) hx7
     have hc7 : Die B w7 g := Die.ext (by exact dieT) hx7
     have KR7 := KR6.exv hx7
     have KS7 := KS6.exv hx7
     have KU7 := KU6.exv hx7
     have Oe7 := OwnI.ext1 (ow_ex0x1x2n Oe6 KR6 KS6 KU6) hx7
     clear hx7
     clear CR6 FR6 LR6 CS6 FS6 LS6 CU6 FU6 LU6
     obtain ⟨CR7, FR7, LR7⟩ := KR7.cfl
     obtain ⟨CS7, FS7, LS7⟩ := KS7.cfl
     obtain ⟨CU7, FU7, LU7⟩ := KU7.cfl
     have gd := gd0.isS; clear gd0
     have hri : riOk S2 = true := by rw [HX.out]; exact (sinv_fallen HS.out HV.out fl).1
     rw [hri]; clear hri
     obtain ⟨S3, hS3⟩ : ∃ q, q = riD S2 := ⟨_, rfl⟩
     rw [← hS3] at gd
     have VS3 : SInv ST (ne : Int) S3 tq := by rw [hS3]; exact (by rw [HX.out]; exact (sinv_fallen HS.out HV.out fl).2)
     clear hS3
     have bbu := storeOk_bounds VS3.ok; have ttu := VS3.top
     obtain ⟨au0, nu0, ku0, au1, nu1, ku1, au4, nu4, ku4, au5, nu5, ku5, rfl⟩ := gd.rd.shape
     obtain ⟨Iu, hIu⟩ : ∃ q : Nat, S3.State.Index = (q : Int) := ⟨_, (Int.toNat_of_nonneg oM).symm⟩
     have hJu : Iu ≤ ne := by omega
     rw [hIu] at gd ⊢
     have gU := IsStore.mono (B' := w.heap.size) gd zT
     clear gd
     have HIu := Lib.hid hIu; have HVS3 := Lib.hid VS3; clear hIu VS3 bbu ttu
     refine hKz.out _ _ (by (try dsimp only); exact ⟨(by exact updT), (by exact dieT), bC⟩) (fun hHeld => ?_)
     clear hKz Kz
     (try simp only [redA, Act.put])
     refine wt 5 ?_
     (try simp only [redA, Act.put])
     refine wt 6 ?_
     (try simp only [redA, Act.put])
     refine wt 7 ?_
     (try simp only [redA, Act.put])
     refine wr1 9 fun Kz hKz => ?_
     (try simp only [redA])
     go_simp
     refine hKz.out _ _ (by (try dsimp only); exact ⟨(by exact updT), (by exact dieT), bC⟩) (fun hHeld => ?_)
     clear hKz Kz
     (try simp only [redA, Act.put])
     refine wt 10 ?_
     (try simp only [redA, Act.put])
     refine wpAnyH_done (by kernel_rfl) ?_ _
     go_wp2_with fail
     go_meet
     case rel => exact ⟨_, true, S3, Iu, au0, nu0, ku0, au1, nu1, ku1, au4, nu4, ku4, au5, nu5, ku5, (by first | rfl | trivial), (by first | rfl | trivial), (by first | omega | (simp only [World.size_alloc, size_drew]; omega)), rfl, (gU.kp kpT), HVS3, HIu, hJu, bC, (by exact updT), (by exact dieT), bC, bC, (by first | (exact OwnI.ext1 Oe7 (by exact extT)) | (with_reducible exact Oe7) | (refine OwnI.drawn Oe7 ?_ oM; (exact updT); done) | (refine OwnI.updX Oe7 KR7 dC ?_; (exact updT); done) | (refine OwnI.updX Oe7 KS7 dC ?_; (exact updT); done) | (refine OwnI.updX Oe7 KU7 dC ?_; (exact updT); done) | (exact ownR))⟩
    revert wc; intro w5 hcut
    obtain ⟨gg, okb, S3, Iu, au0, nu0, ku0, au1, nu1, ku1, au4, nu4, ku4, au5, nu5, ku5, rfl, rfl, hgg, hok9, gU, HVS3, HIu, hJu, KU5, E5, hc5, KR5, KS5, Oe5⟩ := hcut
    have hz5 := E5.size
    clear CR4 FR4 LR4 CS4 FS4 LS4
    obtain ⟨CR5, FR5, LR5⟩ := KR5.cfl
    obtain ⟨CS5, FS5, LS5⟩ := KS5.cfl
    obtain ⟨CU5, FU5, LU5⟩ := KU5.cfl
    subst hok9
    have hup : ¬ (S3.Last < tq) := by have := HVS3.out.told; omega
    go_wp2_with (refine wpList_store_box rfl 41 (.tmp 11) (.tmp 58) rfl rfl rfl _ KS5 (by kernel_rfl) rfl (by kernel_rfl) ?_; intro KF)
    go_roundw
    case rel => exact ⟨k - 1, S3, tq, Iu, au0, nu0, ku0, au1, nu1, ku1, au4, nu4, ku4, au5, nu5, ku5, by omega, by (try simp only [Value.int.injEq, true_and]); first | omega | (congr 1; omega), rfl, HIu.out, hJu, HVS3, by exact updT, by exact dieT, bC, bC, gU.kp kpT, (by first | (exact OwnI.ext1 Oe5 (by exact extT)) | (with_reducible exact Oe5) | (refine OwnI.drawn Oe5 ?_ oM; (exact updT); done) | (refine OwnI.updX Oe5 KR5 dC ?_; (exact updT); done) | (refine OwnI.updX Oe5 KS5 dC ?_; (exact updT); done) | (refine OwnI.updX Oe5 KU5 dC ?_; (exact updT); done) | (exact ownR))⟩
    case measure => simp [intOf]; omega
   go_wp2_with fail
   go_roundw
   case rel => exact ⟨k - 1, ss, tq, Iz, az0, nz0, kz0, az1, nz1, kz1, az4, nz4, kz4, az5, nz5, kz5, by omega, by (try simp only [Value.int.injEq, true_and]); first | omega | (congr 1; omega), rfl, HIz.out, hJz, HV, by exact updT, by exact dieT, bC, bC, gE.kp kpT, (by first | (exact OwnI.ext1 Oe4 (by exact extT)) | (with_reducible exact Oe4) | (refine OwnI.drawn Oe4 ?_ oM; (exact updT); done) | (refine OwnI.updX Oe4 KR4 dC ?_; (exact updT); done) | (refine OwnI.updX Oe4 KS4 dC ?_; (exact updT); done) | (exact ownR))⟩
   case measure => simp [intOf]; omega
  obtain rfl : k = 0 := by omega
  go_wp2_with fail
  refine bodyPost_ret (by simp [results, Tryz.results9, go_sem, CR2, FR2, LR2, CS2, FS2, LS2]; try rfl) rfl ?_
  exact ⟨_, rfl, by exact updT, by exact dieT, _, ss, tq, rfl, gE.kp kpT, (by rw [← HST.out, ← Hne.out]; exact HV.out)⟩
end Go.Proofs.YtlnkggpemdpemaaGreat
