/- Contracts and plain laws: DL. -/
import Derived.Test.YtcnioiieiebodaaGreatYa
import Derived.Deep.DeepCutAuto
import Derived.Test.YtcnioiieiebodaaGreatXa
import Derived.Test.YtcnioiieiebodaaGreatYl
import Derived.Test.YtcnioiieiebodaaGreatXg
import Derived.Test.YtcnioiieiebodaaGreatYn
import Derived.Test.YtcnioiieiebodaaGreatXf
import Derived.Test.YtcnioiieiebodaaGreatXx
set_option linter.unusedSimpArgs false
set_option linter.unusedVariables false
set_option maxHeartbeats 8000000
set_option maxRecDepth 100000
namespace Go.G8
open Go.RowKit
open Go.Proofs.YtcnioiieiebodaaGreat
def IdxOk (s : DStore) : Prop := 0 ≤ s.State.Index ∧ s.State.Index ≤ 2000
theorem idx_state {s : DState} (h : stateOk s = true) : 0 ≤ s.Index ∧ s.Index ≤ 2000 := ⟨(stateOk_parts h).1, (stateOk_parts h).2.1⟩
theorem idx_fld {s : DState} {l : List DEntry} : 0 ≤ (fldD s l).Index ∧ (fldD s l).Index ≤ 2000 := by
 unfold fldD
 split
 ·
  rename_i h
  rw [Bool.and_eq_true] at h
  exact idx_state (foldS_ok l s h.1)
 exact ⟨by decide, by decide⟩
theorem idx_sb {s : DStore} (h : IdxOk s) : IdxOk (sbD s) := by
 unfold sbD IdxOk
 repeat' split
 all_goals first | exact h | exact ⟨by decide, by decide⟩ | exact ⟨by simp, by simp⟩
theorem idx_ss {s : DStore} (h : IdxOk s) : IdxOk (ssStore s) := by
 unfold ssStore IdxOk
 repeat' split
 all_goals first | exact h | exact ⟨by decide, by decide⟩ | exact ⟨by simp, by simp⟩
theorem idx_fs {fates : List Int} {s : DStore} (h : IdxOk s) : IdxOk (fallenStore fates s) := by
 unfold fallenStore IdxOk
 repeat' split
 all_goals first | exact h | exact ⟨by decide, by decide⟩ | exact ⟨by simp, by simp⟩
theorem idx_ri (s : DStore) : IdxOk (riD s) := by
 unfold riD IdxOk
 split
 ·
  split
  ·
   rename_i h
   have : newOk s.Disk = true := h
   simp only []
   unfold newOk at this
   unfold newShot
   split
   ·
    rename_i h2
    have h3 : atOk s.Disk 1 = true := by unfold newTwo at h2; rw [Bool.and_eq_true] at h2; exact h2.1
    have := shotOk_parts (atShot_ok h3)
    exact ⟨by omega, by omega⟩
   rename_i h2
   rw [if_neg h2] at this
   have := shotOk_parts (atShot_ok this)
   exact ⟨by omega, by omega⟩
  exact ⟨by simp, by simp⟩
 exact ⟨by simp, by simp⟩
theorem fl_take9 : ∀ (l : List DEntry) (k : Nat), (flEntry l).take (k * 9) = flEntry (l.take k)
 | [], k => by simp [flEntry]
 | x :: l, 0 => by simp [flEntry]
 | x :: l, k + 1 => by
  have hx : (DEntry.ints x).length = 9 := rfl
  have e : (k + 1) * 9 = (DEntry.ints x).length + k * 9 := by rw [hx]; omega
  show ((DEntry.ints x) ++ flEntry l).take _ = (DEntry.ints x) ++ flEntry (l.take k)
  rw [e, List.take_length_add_append, fl_take9 l k]
theorem fl_drop9 : ∀ (l : List DEntry) (k : Nat), (flEntry l).drop (k * 9) = flEntry (l.drop k)
 | [], k => by simp [flEntry]
 | x :: l, 0 => by simp [flEntry]
 | x :: l, k + 1 => by
  have hx : (DEntry.ints x).length = 9 := rfl
  have e : (k + 1) * 9 = (DEntry.ints x).length + k * 9 := by rw [hx]; omega
  show ((DEntry.ints x) ++ flEntry l).drop _ = flEntry (l.drop k)
  rw [e, List.drop_length_add_append, fl_drop9 l k]
end Go.G8
namespace Go.Proofs.YtcnioiieiebodaaGreat
open Go.RowKit Go.G8
section
variable {B B' : Nat} {w w' : World} {v : Value} {s : DStore}
def AnyStore (B : Nat) (w : World) (v : Value) (s : DStore) : Prop := ∃ t0 t1 t4 t5 : Value, v = .agg #[t0, t1, .int .i64 s.State.Index, .int .i64 s.State.Time, t4, t5, .int .i64 s.State.Lease.Holder, .int .i64 s.State.Lease.Epoch, .int .i64 s.State.Lease.Until, .int .i64 s.Num, .int .i64 s.Last, .int .i64 s.Busy] ∧ KrDisk B w (.agg #[t0, t1]) s.Disk ∧ OwnI B 157 2 w t4 (flPair s.State.Pairs) ∧ OwnI B 142 5 w t5 (flJob s.State.Jobs)
theorem AnyStore.kp (h : AnyStore B w v s) (x : Kp B boxTs w w') : AnyStore B w' v s := let ⟨t0, t1, t4, t5, e, h0, h4, h5⟩ := h; ⟨t0, t1, t4, t5, e, h0.kp x, h4.kp x dC, h5.kp x dC⟩
theorem AnyStore.mono9 (h : AnyStore B w v s) (x : B' ≤ B) : AnyStore B' w v s := let ⟨t0, t1, t4, t5, e, h0, h4, h5⟩ := h; ⟨t0, t1, t4, t5, e, h0.mono9 x, h4.mono x, h5.mono x⟩
theorem AnyStore.rd (h : AnyStore B w v s) : RdStore w v s := by
 obtain ⟨t0, t1, t4, t5, rfl, h0, h4, h5⟩ := h
 obtain ⟨u0, u1, e, g0, g1⟩ := h0.rd
 injection e with e; injection e with e; injection e with e1 e; injection e with e2 _
 subst e1; subst e2
 exact ⟨_, _, _, _, rfl, g0, g1, h4.ints, h5.ints⟩
theorem IsStore.any (h : IsStore B w v s) : AnyStore B w v s := by
 obtain ⟨F, t0, t1, t4, t5, s0, s1, rfl, h0, h1, h4, h5, hd, hF⟩ := h
 exact ⟨t0, t1, t4, t5, rfl, IsDisk.kr ⟨t0, t1, s0, s1, rfl, h0, h1, hd⟩, h4, h5⟩
theorem OwStore.isS {F : List Nat} (h : OwStore B w v s F) : IsStore B w v s := ⟨F, h⟩
theorem OwState.isS {F : List Nat} {s : DState} (h : OwState B w v s F) : IsState B w v s := let ⟨t0, t1, e, h0, h1, _⟩ := h; ⟨t0, t1, e, h0, h1⟩
theorem IsState.mono9 {s : DState} (h : IsState B w v s) (x : B' ≤ B) : IsState B' w v s := let ⟨t0, t1, e, h0, h1⟩ := h; ⟨t0, t1, e, h0.mono x, h1.mono x⟩
theorem RdStore.st {t0 t1 x2 x3 t4 t5 x6 x7 x8 x9 x10 x11 : Value} (h : RdStore w (.agg #[t0, t1, x2, x3, t4, t5, x6, x7, x8, x9, x10, x11]) s) : RdState w (.agg #[x2, x3, t4, t5, x6, x7, x8]) s.State := by
 obtain ⟨u0, u1, u4, u5, e, h0, h1, h4, h5⟩ := h
 injection e with e
 simp only [Array.mk.injEq, List.cons.injEq, and_true] at e
 obtain ⟨rfl, rfl, rfl, rfl, rfl, rfl, rfl, rfl, rfl, rfl, rfl, rfl⟩ := e
 exact ⟨_, _, rfl, h4, h5⟩
theorem IsStore.setSt {t0 t1 x2 x3 t4 t5 x6 x7 x8 y2 y3 u4 u5 y6 y7 y8 x9 x10 x11 : Value} {st : DState} (h : IsStore B w (.agg #[t0, t1, x2, x3, t4, t5, x6, x7, x8, x9, x10, x11]) s) (k : IsState B w (.agg #[y2, y3, u4, u5, y6, y7, y8]) st) :
  IsStore B w (.agg #[t0, t1, y2, y3, u4, u5, y6, y7, y8, x9, x10, x11]) ⟨s.Disk, st, s.Num, s.Last, s.Busy⟩ := by
 obtain ⟨F, v0, v1, v4, v5, s0, s1, e, h0, h1, h4, h5, hd, hF⟩ := h
 obtain ⟨w4, w5, e2, k4, k5⟩ := k
 injection e with e
 injection e2 with e2
 simp only [Array.mk.injEq, List.cons.injEq, and_true] at e e2
 obtain ⟨rfl, rfl, rfl, rfl, rfl, rfl, rfl, rfl, rfl, rfl, rfl, rfl⟩ := e
 obtain ⟨rfl, rfl, rfl, rfl, rfl, rfl, rfl⟩ := e2
 exact ⟨_, _, _, _, _, s0, s1, rfl, h0, h1, k4, k5, hd, rfl⟩
end
def newSt9 : DStore := ⟨newDisk 8, ⟨0, 0, [], [], ⟨0, 0, 0⟩⟩, 0, 0, 0⟩
theorem sNewStore_s (w : World) : Calls Tryz.prog 173 #[] w (Ret w fun v w' => IsStore w.heap.size w' v newSt9) := by
 refine (sNewStore_c w).mono ?_
 rintro e w' ⟨v, rfl, hx, t0, t1, s0, s1, rfl, h0, h1, hd⟩
 exact ⟨_, rfl, hx, _, t0, t1, _, _, s0, s1, rfl, h0, h1, OwnI.nil _ _ _ _, OwnI.nil _ _ _ _, hd, rfl⟩
theorem entries_cut {B : Nat} {w : World} {a : Option Addr} {n k : Nat} {l : List DEntry} (h : OwnI B 105 9 w (.slice a n k) (flEntry l)) : n = l.length ∧ n ≤ k ∧ k ≤ maxLen := by
 obtain ⟨_, _, e, h1, h2, _⟩ := h.ints.recs (f := DEntry.ints) (fun _ => rfl) dC
 injection e with _ e2 e3
 subst e2; subst e3
 exact ⟨rfl, h1, h2⟩
theorem entries_part {w : World} {a : Option Addr} {n k : Nat} {l : List DEntry} (h : Ints 9 w (.slice a n k) (flEntry l)) {i m : Nat} (h1 : i < m) (h2 : m ≤ n) (h3 : n ≤ k) :
  Ints 9 w (.slice (a.map (fun x => x.add (i * 9))) (m - i) (k - i)) (flEntry ((l.take m).drop i)) := by
 have hs := Sl.sliced (Ints.sl h) (l := i) (m := m) (Nat.le_of_lt h1) h2
 unfold Go.sliced at hs
 rw [if_neg oM] at hs
 have e : (((flEntry l).map (Value.int .i64)).take (m * 9)).drop (i * 9) = (flEntry ((l.take m).drop i)).map (.int .i64) := by
  rw [← List.map_take, ← List.map_drop, fl_take9, fl_drop9]
 rw [e] at hs
 exact hs
theorem l19DrawLife_c {B : Nat} {w : World} {g : Nat} (h : Cur B w g) : Calls Tryz.prog 140 #[.pointer (some ⟨g, 0, none⟩)] w (Dr B w g fun v w' => ∃ x u s, v = .tuple #[x, u] ∧ IsStore w.heap.size w' x s) := by
 have hc0 := h; have E0 : Upd w w [g] := Upd.refl _ _
 have hg0 := h.lt
 go_enter Tryz.func140, Tryz.ntmps140
 go_wp2_with fail
 refine (sNewState_c _).mono ?_
 rintro e w1 ⟨rfl, hx1⟩
 have hz1 := hx1.size; (try simp only [szA] at hz1)
 have E1 : Upd w w1 [g] := Upd.ext (by exact updT) hx1
 have hc1 : Cur B w1 g := Cur.ext (by exact curT) hx1
 have KR1 : Blk w1 w.heap.size 65 #[.slice none 0 0, .slice none 0 0, .int .i64 0, .int .i64 0, .slice none 0 0, .slice none 0 0, .int .i64 0, .int .i64 0, .int .i64 0, .int .i64 0, .int .i64 0, .int .i64 0] := Blk.ext bC hx1
 clear hx1
 obtain ⟨CR1, FR1, LR1⟩ := KR1.cfl
 go_wp2_with fail
 refine (l1Below_c (cU B) 30).mono ?_
 rintro e w2 ⟨_, rfl, X2, hc2, n, rfl, pn, qn, rn⟩
 have hz2 := X2.sz
 have E2 : Upd w w2 [g] := X2.up
 have KR2 := KR1.upv X2
 clear X2
 clear CR1 FR1 LR1
 obtain ⟨CR2, FR2, LR2⟩ := KR2.cfl
 have qn := qn dC; clear rn
 obtain ⟨N, rfl⟩ := Int.eq_ofNat_of_zero_le pn
 go_wp2_with fail
 refine (drawEntries_c (cU B) (M := w.heap.size) oM (IsState.nil _ _) oM N oM).mono ?_
 rintro e w3 ⟨_, rfl, X3, hc3, u, x, l, s, rfl, Ol, hl, hs, hok⟩
 have hz3 := X3.sz
 have E3 : Upd w w3 [g] := X3.up
 have KR3 := KR2.upv X3
 clear X3
 clear CR2 FR2 LR2
 obtain ⟨CR3, FR3, LR3⟩ := KR3.cfl
 obtain ⟨t2, t3, rfl, h2, h3⟩ := hs
 obtain ⟨a2, n2, k2, rfl⟩ := h2.shape
 obtain ⟨a3, n3, k3, rfl⟩ := h3.shape
 clear h2 h3 hok
 obtain ⟨ae, ne, ke, rfl⟩ := Ol.shape
 obtain ⟨hne, hke, hkm⟩ := entries_cut Ol
 unfold maxLen at hkm
 have hne2 : ne ≤ 30 := by omega
 have Hne := Lib.hid hne; clear hne hl
 have Oe3 := Ol; clear Ol
 go_wp2_with fail
 refine (sNewStore_s _).mono ?_
 rintro e w4 ⟨_, rfl, hx4, gA⟩
 have hz4 := hx4.size; (try simp only [szA] at hz4)
 have E4 : Upd w w4 [g] := Upd.ext (by exact updT) hx4
 have hc4 : Cur B w4 g := Cur.ext (by exact curT) hx4
 have KR4 := KR3.exv hx4
 have KD4 : Blk w4 w3.heap.size 63 #[.int .i64 s.Index, .int .i64 s.Time, .slice a2 n2 k2, .slice a3 n3 k3, .int .i64 s.Lease.Holder, .int .i64 s.Lease.Epoch, .int .i64 s.Lease.Until] := Blk.ext bC hx4
 have Oe4 : OwnI w2.heap.size 105 9 w4 (.slice ae ne ke) (flEntry l) := OwnI.ext1 (ow_ex0n Oe3 KR3) hx4
 clear hx4
 clear CR3 FR3 LR3
 obtain ⟨CR4, FR4, LR4⟩ := KR4.cfl
 obtain ⟨CD4, FD4, LD4⟩ := KD4.cfl
 obtain ⟨S0, hS0⟩ : ∃ q, q = newSt9 := ⟨_, rfl⟩
 rw [← hS0] at gA
 have iS0 : IdxOk S0 := by rw [hS0]; exact ⟨by decide, by decide⟩
 clear hS0
 obtain ⟨ay0, ny0, ky0, ay1, ny1, ky1, ay4, ny4, ky4, ay5, ny5, ky5, rfl⟩ := gA.rd.shape
 obtain ⟨Iy, hIy⟩ : ∃ q : Nat, S0.State.Index = (q : Int) := ⟨_, (Int.toNat_of_nonneg iS0.1).symm⟩
 have hJy : Iy ≤ 2000 := by have := iS0.2; omega
 rw [hIy] at gA ⊢
 have gE := IsStore.mono (B' := w.heap.size) gA zT
 clear gA
 have HIy := Lib.hid hIy; clear hIy iS0
 go_wp2_with fail
 refine (l1Below_c (cU B) 24).mono ?_
 rintro e w5 ⟨_, rfl, X5, hc5, m, rfl, pm, qm, rm⟩
 have P5 : Kp w.heap.size boxTs w4 w5 := Kp.upd kpT X5 oM
 have gE := gE.kp P5
 clear P5
 have hz5 := X5.sz
 have E5 : Upd w w5 [g] := X5.up
 have KR5 := KR4.upv X5
 have KD5 := KD4.upv X5
 have KS5 : Blk w5 w4.heap.size 65 #[.slice ay0 ny0 ky0, .slice ay1 ny1 ky1, .int .i64 (Iy : Int), .int .i64 S0.State.Time, .slice ay4 ny4 ky4, .slice ay5 ny5 ky5, .int .i64 S0.State.Lease.Holder, .int .i64 S0.State.Lease.Epoch, .int .i64 S0.State.Lease.Until, .int .i64 S0.Num, .int .i64 S0.Last, .int .i64 S0.Busy] := bU X5
 have Oe5 := OwnI.drawn (ow_ex0x1n Oe4 KR4 KD4) X5 oM
 clear X5
 clear CR4 FR4 LR4 CD4 FD4 LD4
 obtain ⟨CR5, FR5, LR5⟩ := KR5.cfl
 obtain ⟨CD5, FD5, LD5⟩ := KD5.cfl
 obtain ⟨CS5, FS5, LS5⟩ := KS5.cfl
 have qm := qm dC; clear rm
 obtain ⟨N2, rfl⟩ := Int.eq_ofNat_of_zero_le pm
 go_wp2_with fail
 go_loopw [7] (fun kk wr => ∃ (k : Nat) (ss : DStore) (Iz : Nat) (az0 : Option Addr) (nz0 kz0 : Nat) (az1 : Option Addr) (nz1 kz1 : Nat) (az4 : Option Addr) (nz4 kz4 : Nat) (az5 : Option Addr) (nz5 kz5 : Nat), k ≤ 24 ∧ kk = .int .i64 k ∧ ss.State.Index = (Iz : Int) ∧ Iz ≤ 2000 ∧ Upd w wr [g] ∧ Cur B wr g ∧ Blk wr w.heap.size 65 #[.slice none 0 0, .slice none 0 0, .int .i64 0, .int .i64 0, .slice none 0 0, .slice none 0 0, .int .i64 0, .int .i64 0, .int .i64 0, .int .i64 0, .int .i64 0, .int .i64 0] ∧ Blk wr w4.heap.size 65 #[.slice az0 nz0 kz0, .slice az1 nz1 kz1, .int .i64 (Iz : Int), .int .i64 ss.State.Time, .slice az4 nz4 kz4, .slice az5 nz5 kz5, .int .i64 ss.State.Lease.Holder, .int .i64 ss.State.Lease.Epoch, .int .i64 ss.State.Lease.Until, .int .i64 ss.Num, .int .i64 ss.Last, .int .i64 ss.Busy] ∧ IsStore w.heap.size wr (.agg #[.slice az0 nz0 kz0, .slice az1 nz1 kz1, .int .i64 (Iz : Int), .int .i64 ss.State.Time, .slice az4 nz4 kz4, .slice az5 nz5 kz5, .int .i64 ss.State.Lease.Holder, .int .i64 ss.State.Lease.Epoch, .int .i64 ss.State.Lease.Until, .int .i64 ss.Num, .int .i64 ss.Last, .int .i64 ss.Busy]) ss ∧ OwnI w2.heap.size 105 9 wr (.slice ae ne ke) (flEntry l)) (fun kk _ => (intOf kk).toNat)
 case atStart => exact ⟨N2, S0, Iy, ay0, ny0, ky0, ay1, ny1, ky1, ay4, ny4, ky4, ay5, ny5, ky5, by omega, rfl, HIy.out, hJy, E5, hc5, KR5, KS5, gE, Oe5⟩
 case round =>
  obtain ⟨k, ss, Iz, az0, nz0, kz0, az1, nz1, kz1, az4, nz4, kz4, az5, nz5, kz5, hk, rfl, hIz, hJz, E6, hc6, KR6, KS6, gE, Oe6⟩ := hrel
  obtain ⟨w6, hw⟩ : ∃ w6, w6 = wr := ⟨_, rfl⟩
  subst hw
  have hz6 := E6.size
  clear CR5 FR5 LR5 CD5 FD5 LD5 CS5 FS5 LS5
  have HIz := Lib.hid hIz; clear hIz
  obtain ⟨CR6, FR6, LR6⟩ := KR6.cfl
  obtain ⟨CS6, FS6, LS6⟩ := KS6.cfl
  have hl9 := KS6.lt
  by_cases hlt : 0 < k
  ·
   have hlt2 : (0 : Int) < (k : Int) := by omega
   go_wp2_with fail
   refine (l1Below_c (cU B) 10).mono ?_
   rintro e w7 ⟨_, rfl, X7, hc7, m2, rfl, pm2, qm2, rm2⟩
   have P7 : Kp w.heap.size boxTs w6 w7 := Kp.upd kpT X7 oM
   have gE := gE.kp P7
   clear P7
   have hz7 := X7.sz
   have E7 : Upd w w7 [g] := X7.up
   have KR7 : Blk w7 w.heap.size 65 #[.slice none 0 0, .slice none 0 0, .int .i64 0, .int .i64 0, .slice none 0 0, .slice none 0 0, .int .i64 0, .int .i64 0, .int .i64 0, .int .i64 0, .int .i64 0, .int .i64 0] := bU X7
   have KS7 : Blk w7 w4.heap.size 65 #[.slice az0 nz0 kz0, .slice az1 nz1 kz1, .int .i64 (Iz : Int), .int .i64 ss.State.Time, .slice az4 nz4 kz4, .slice az5 nz5 kz5, .int .i64 ss.State.Lease.Holder, .int .i64 ss.State.Lease.Epoch, .int .i64 ss.State.Lease.Until, .int .i64 ss.Num, .int .i64 ss.Last, .int .i64 ss.Busy] := bU X7
   have Oe7 : OwnI w2.heap.size 105 9 w7 (.slice ae ne ke) (flEntry l) := OwnI.drawn (ow_ex0x1n Oe6 KR6 KS6) X7 oM
   clear X7
   clear CR6 FR6 LR6 CS6 FS6 LS6
   obtain ⟨CR7, FR7, LR7⟩ := KR7.cfl
   obtain ⟨CS7, FS7, LS7⟩ := KS7.cfl
   have qm2 := qm2 dC; clear rm2
   obtain hway | hway | hway | hway : (m2 = 0 ∨ m2 = 1 ∨ m2 = 2 ∨ m2 = 3) ∨ (m2 = 4 ∨ m2 = 5 ∨ m2 = 6) ∨ (m2 = 7 ∨ m2 = 8) ∨ (m2 = 9) := by omega
   ·
    obtain rfl | rfl | rfl | rfl := hway
    all_goals
     go_wp2_with fail
     refine (l1Below_c (cU B) 4).mono ?_
     rintro e w8 ⟨_, rfl, X8, hc8, x, rfl, px, qx, rx⟩
     have P8 : Kp w.heap.size boxTs w7 w8 := Kp.upd kpT X8 oM
     have gE := gE.kp P8
     clear P8
     have hz8 := X8.sz
     have E8 : Upd w w8 [g] := X8.up
     have KR8 := KR7.upv X8
     have KS8 := KS7.upv X8
     have Oe8 := OwnI.drawn (ow_ex0x1n Oe7 KR7 KS7) X8 oM
     clear X8
     clear CR7 FR7 LR7 CS7 FS7 LS7
     obtain ⟨CR8, FR8, LR8⟩ := KR8.cfl
     obtain ⟨CS8, FS8, LS8⟩ := KS8.cfl
     have qx := qx dC; clear rx
     obtain ⟨X, rfl⟩ := Int.eq_ofNat_of_zero_le px
     obtain ⟨T, hT⟩ : ∃ T : Nat, (Iz : Int) + (X : Int) = (T : Int) := ⟨Iz + X, by omega⟩
     have hT2 : T ≤ 2010 := by omega
     by_cases hgt : ne < T
     ·
      have hgt2 : (ne : Int) < (T : Int) := by omega
      by_cases hft : Iz < ne
      ·
       have hft2 : (Iz : Int) < (ne : Int) := by omega
       have hte : ne ≤ ne := by omega
       have hle9 : Iz ≤ ne := by omega
       have htk9 : ne ≤ ke := by omega
       have hkz9 : ¬ (ke = Iz) := by omega
       go_wp2_with fail
       refine wh (S := fun w' => Upd w w' [g] ∧ Cur B w' g) fun hHeld => ?_
       refine wt 0 ?_
       (try simp only [redA, Act.put])
       refine wt 2 ?_
       (try simp only [redA, Act.put])
       refine wt 3 ?_
       (try simp only [redA, Act.put])
       refine wt 4 ?_
       (try simp only [redA, Act.put])
       refine wt 5 ?_
       (try simp only [redA, Act.put])
       refine wr1 1 fun Kz hKz => ?_
       (try simp only [redA])
       go_simp
       refine hKz.o2 fun hHeld => ?_
       clear hKz Kz
       (try simp only [redA, Act.put])
       refine wr1 6 fun Kz hKz => ?_
       (try simp only [redA])
       go_simp
       go_at_call 174
       refine (sFolded_f (RdStore.st (gE.rd.ext (by exact extT))) ((entries_part (OwnI.ints (show OwnI w2.heap.size 105 9 _ (.slice ae ne ke) (flEntry l) from by exact ownT)) (i := Iz) (m := ne) oM oM oM))).mono ?_
       rintro e w9 ⟨_, rfl, hx9, x9, rfl, FS, gs⟩
       have P9 : Kp w.heap.size boxTs w8 w9 := Kp.ext kpT hx9
       have gE := gE.kp P9
       clear P9
       have hz9 := hx9.size; (try simp only [szA] at hz9)
       have E9 : Upd w w9 [g] := Upd.ext (by exact updT) hx9
       have hc9 : Cur B w9 g := Cur.ext (by exact curT) hx9
       have KR9 := KR8.exv hx9
       have KS9 := KS8.exv hx9
       have Oe9 := OwnI.ext1 (ow_ex0x1n Oe8 KR8 KS8) hx9
       clear hx9
       clear CR8 FR8 LR8 CS8 FS8 LS8
       obtain ⟨CR9, FR9, LR9⟩ := KR9.cfl
       obtain ⟨CS9, FS9, LS9⟩ := KS9.cfl
       obtain ⟨st, hst⟩ : ∃ q, q = fldD ss.State ((l.take ne).drop Iz) := ⟨_, rfl⟩
       rw [← hst] at gs
       have ist : 0 ≤ st.Index ∧ st.Index ≤ 2000 := by rw [hst]; exact idx_fld
       clear hst
       have gS := IsState.mono9 (B' := w.heap.size) gs.isS zT
       clear gs
       have gS9 := gS
       obtain ⟨t4, t5, rfl, h4, h5⟩ := gS9
       obtain ⟨a4, n4, k4, rfl⟩ := h4.shape
       obtain ⟨a5, n5, k5, rfl⟩ := h5.shape
       clear h4 h5
       obtain ⟨Is, hIs⟩ : ∃ q : Nat, st.Index = (q : Int) := ⟨_, (Int.toNat_of_nonneg ist.1).symm⟩
       have hJs : Is ≤ 2000 := by have := ist.2; omega
       rw [hIs] at gS ⊢
       have HIs := Lib.hid hIs; clear hIs ist
       refine hKz.o2 fun hHeld => ?_
       clear hKz Kz
       (try simp only [redA, Act.put])
       refine wt 7 ?_
       (try simp only [redA, Act.put])
       refine wt 8 ?_
       (try simp only [redA, Act.put])
       refine wt 9 ?_
       (try simp only [redA, Act.put])
       refine wt 10 ?_
       (try simp only [redA, Act.put])
       refine wr1 11 fun Kz hKz => ?_
       (try simp only [redA])
       go_simp
       refine hKz.o2 fun hHeld => ?_
       clear hKz Kz
       (try simp only [redA, Act.put])
       refine wpAnyH_done (by kernel_rfl) ?_ _
       go_wp2_with fail
       go_roundw
       case rel => exact ⟨k - 1, ⟨ss.Disk, st, ss.Num, ss.Last, ss.Busy⟩, Is, az0, nz0, kz0, az1, nz1, kz1, a4, n4, k4, a5, n5, k5, by omega, by (try simp only [Value.int.injEq, true_and]); first | omega | (congr 1; omega), HIs.out, hJs, by exact updT, by exact curT, bC, bC, IsStore.setSt (gE.kp kpT) (gS.kp kpT), (ow_edx0x1 Oe9 KR9 KS9)⟩
       case measure => simp [intOf]; omega
      have hft2 : ¬ (Iz : Int) < (ne : Int) := by omega
      go_wp2_with fail
      go_roundw
      case rel => exact ⟨k - 1, ss, Iz, az0, nz0, kz0, az1, nz1, kz1, az4, nz4, kz4, az5, nz5, kz5, by omega, by (try simp only [Value.int.injEq, true_and]); first | omega | (congr 1; omega), HIz.out, hJz, by exact updT, by exact curT, bC, bC, gE.kp kpT, (ow_edx0x1 Oe8 KR8 KS8)⟩
      case measure => simp [intOf]; omega
     have hgt2 : ¬ (ne : Int) < (T : Int) := by omega
     by_cases hft : Iz < T
     ·
      have hft2 : (Iz : Int) < (T : Int) := by omega
      have hte : T ≤ ne := by omega
      have hle9 : Iz ≤ T := by omega
      have htk9 : T ≤ ke := by omega
      have hkz9 : ¬ (ke = Iz) := by omega
      go_wp2_with fail
      refine wh (S := fun w' => Upd w w' [g] ∧ Cur B w' g) fun hHeld => ?_
      refine wt 0 ?_
      (try simp only [redA, Act.put])
      refine wt 2 ?_
      (try simp only [redA, Act.put])
      refine wt 3 ?_
      (try simp only [redA, Act.put])
      refine wt 4 ?_
      (try simp only [redA, Act.put])
      refine wt 5 ?_
      (try simp only [redA, Act.put])
      refine wr1 1 fun Kz hKz => ?_
      (try simp only [redA])
      go_simp
      refine hKz.o2 fun hHeld => ?_
      clear hKz Kz
      (try simp only [redA, Act.put])
      refine wr1 6 fun Kz hKz => ?_
      (try simp only [redA])
      go_simp
      go_at_call 174
      refine (sFolded_f (RdStore.st (gE.rd.ext (by exact extT))) ((entries_part (OwnI.ints (show OwnI w2.heap.size 105 9 _ (.slice ae ne ke) (flEntry l) from by exact ownT)) (i := Iz) (m := T) oM oM oM))).mono ?_
      rintro e w9 ⟨_, rfl, hx9, x9, rfl, FS, gs⟩
      have P9 : Kp w.heap.size boxTs w8 w9 := Kp.ext kpT hx9
      have gE := gE.kp P9
      clear P9
      have hz9 := hx9.size; (try simp only [szA] at hz9)
      have E9 : Upd w w9 [g] := Upd.ext (by exact updT) hx9
      have hc9 : Cur B w9 g := Cur.ext (by exact curT) hx9
      have KR9 := KR8.exv hx9
      have KS9 := KS8.exv hx9
      have Oe9 := OwnI.ext1 (ow_ex0x1n Oe8 KR8 KS8) hx9
      clear hx9
      clear CR8 FR8 LR8 CS8 FS8 LS8
      obtain ⟨CR9, FR9, LR9⟩ := KR9.cfl
      obtain ⟨CS9, FS9, LS9⟩ := KS9.cfl
      obtain ⟨st, hst⟩ : ∃ q, q = fldD ss.State ((l.take T).drop Iz) := ⟨_, rfl⟩
      rw [← hst] at gs
      have ist : 0 ≤ st.Index ∧ st.Index ≤ 2000 := by rw [hst]; exact idx_fld
      clear hst
      have gS := IsState.mono9 (B' := w.heap.size) gs.isS zT
      clear gs
      have gS9 := gS
      obtain ⟨t4, t5, rfl, h4, h5⟩ := gS9
      obtain ⟨a4, n4, k4, rfl⟩ := h4.shape
      obtain ⟨a5, n5, k5, rfl⟩ := h5.shape
      clear h4 h5
      obtain ⟨Is, hIs⟩ : ∃ q : Nat, st.Index = (q : Int) := ⟨_, (Int.toNat_of_nonneg ist.1).symm⟩
      have hJs : Is ≤ 2000 := by have := ist.2; omega
      rw [hIs] at gS ⊢
      have HIs := Lib.hid hIs; clear hIs ist
      refine hKz.o2 fun hHeld => ?_
      clear hKz Kz
      (try simp only [redA, Act.put])
      refine wt 7 ?_
      (try simp only [redA, Act.put])
      refine wt 8 ?_
      (try simp only [redA, Act.put])
      refine wt 9 ?_
      (try simp only [redA, Act.put])
      refine wt 10 ?_
      (try simp only [redA, Act.put])
      refine wr1 11 fun Kz hKz => ?_
      (try simp only [redA])
      go_simp
      refine hKz.o2 fun hHeld => ?_
      clear hKz Kz
      (try simp only [redA, Act.put])
      refine wpAnyH_done (by kernel_rfl) ?_ _
      go_wp2_with fail
      go_roundw
      case rel => exact ⟨k - 1, ⟨ss.Disk, st, ss.Num, ss.Last, ss.Busy⟩, Is, az0, nz0, kz0, az1, nz1, kz1, a4, n4, k4, a5, n5, k5, by omega, by (try simp only [Value.int.injEq, true_and]); first | omega | (congr 1; omega), HIs.out, hJs, by exact updT, by exact curT, bC, bC, IsStore.setSt (gE.kp kpT) (gS.kp kpT), (ow_edx0x1 Oe9 KR9 KS9)⟩
      case measure => simp [intOf]; omega
     have hft2 : ¬ (Iz : Int) < (T : Int) := by omega
     go_wp2_with fail
     go_roundw
     case rel => exact ⟨k - 1, ss, Iz, az0, nz0, kz0, az1, nz1, kz1, az4, nz4, kz4, az5, nz5, kz5, by omega, by (try simp only [Value.int.injEq, true_and]); first | omega | (congr 1; omega), HIz.out, hJz, by exact updT, by exact curT, bC, bC, gE.kp kpT, (ow_edx0x1 Oe8 KR8 KS8)⟩
     case measure => simp [intOf]; omega
   ·
    obtain rfl | rfl | rfl := hway
    all_goals
     go_wp2_with fail
     refine (sShotBegun_k (gE.rd.ext (by exact extT))).mono ?_
     rintro e w8 ⟨_, rfl, hx8, vd, rfl, FD, gd0⟩
     have P8 : Kp w.heap.size boxTs w7 w8 := Kp.ext kpT hx8
     have gE := gE.kp P8
     clear P8
     have hz8 := hx8.size; (try simp only [szA] at hz8)
     have E8 : Upd w w8 [g] := Upd.ext (by exact updT) hx8
     have hc8 : Cur B w8 g := Cur.ext (by exact curT) hx8
     have KR8 := KR7.exv hx8
     have KS8 := KS7.exv hx8
     have Oe8 := OwnI.ext1 (ow_ex0x1n Oe7 KR7 KS7) hx8
     clear hx8
     clear CR7 FR7 LR7 CS7 FS7 LS7
     obtain ⟨CR8, FR8, LR8⟩ := KR8.cfl
     obtain ⟨CS8, FS8, LS8⟩ := KS8.cfl
     have gd := gd0.isS; clear gd0
     obtain ⟨S2, hS2⟩ : ∃ q, q = sbD ss := ⟨_, rfl⟩
     rw [← hS2] at gd
     have iS2 : IdxOk S2 := by rw [hS2]; exact idx_sb ⟨by rw [HIz.out]; omega, by rw [HIz.out]; omega⟩
     clear hS2
     obtain ⟨av0, nv0, kv0, av1, nv1, kv1, av4, nv4, kv4, av5, nv5, kv5, rfl⟩ := gd.rd.shape
     obtain ⟨Iv, hIv⟩ : ∃ q : Nat, S2.State.Index = (q : Int) := ⟨_, (Int.toNat_of_nonneg iS2.1).symm⟩
     have hJv : Iv ≤ 2000 := by have := iS2.2; omega
     rw [hIv] at gd ⊢
     have gV := IsStore.mono (B' := w.heap.size) gd zT
     clear gd
     have HIv := Lib.hid hIv; clear hIv iS2
     go_wp2_with fail
     go_roundw
     case rel => exact ⟨k - 1, S2, Iv, av0, nv0, kv0, av1, nv1, kv1, av4, nv4, kv4, av5, nv5, kv5, by omega, by (try simp only [Value.int.injEq, true_and]); first | omega | (congr 1; omega), HIv.out, hJv, by exact updT, by exact curT, bC, bC, gV.kp kpT, (ow_edx0x1 Oe8 KR8 KS8)⟩
     case measure => simp [intOf]; omega
   ·
    obtain rfl | rfl := hway
    all_goals
     go_wp2_with fail
     refine (sShotSynced_k (gE.rd.ext (by exact extT))).mono ?_
     rintro e w8 ⟨_, rfl, hx8, vd, rfl, FD, gd0⟩
     have P8 : Kp w.heap.size boxTs w7 w8 := Kp.ext kpT hx8
     have gE := gE.kp P8
     clear P8
     have hz8 := hx8.size; (try simp only [szA] at hz8)
     have E8 : Upd w w8 [g] := Upd.ext (by exact updT) hx8
     have hc8 : Cur B w8 g := Cur.ext (by exact curT) hx8
     have KR8 := KR7.exv hx8
     have KS8 := KS7.exv hx8
     have Oe8 := OwnI.ext1 (ow_ex0x1n Oe7 KR7 KS7) hx8
     clear hx8
     clear CR7 FR7 LR7 CS7 FS7 LS7
     obtain ⟨CR8, FR8, LR8⟩ := KR8.cfl
     obtain ⟨CS8, FS8, LS8⟩ := KS8.cfl
     have gd := gd0.isS; clear gd0
     obtain ⟨S2, hS2⟩ : ∃ q, q = ssStore ss := ⟨_, rfl⟩
     rw [← hS2] at gd
     have iS2 : IdxOk S2 := by rw [hS2]; exact idx_ss ⟨by rw [HIz.out]; omega, by rw [HIz.out]; omega⟩
     clear hS2
     obtain ⟨av0, nv0, kv0, av1, nv1, kv1, av4, nv4, kv4, av5, nv5, kv5, rfl⟩ := gd.rd.shape
     obtain ⟨Iv, hIv⟩ : ∃ q : Nat, S2.State.Index = (q : Int) := ⟨_, (Int.toNat_of_nonneg iS2.1).symm⟩
     have hJv : Iv ≤ 2000 := by have := iS2.2; omega
     rw [hIv] at gd ⊢
     have gV := IsStore.mono (B' := w.heap.size) gd zT
     clear gd
     have HIv := Lib.hid hIv; clear hIv iS2
     go_wp2_with fail
     go_roundw
     case rel => exact ⟨k - 1, S2, Iv, av0, nv0, kv0, av1, nv1, kv1, av4, nv4, kv4, av5, nv5, kv5, by omega, by (try simp only [Value.int.injEq, true_and]); first | omega | (congr 1; omega), HIv.out, hJv, by exact updT, by exact curT, bC, bC, gV.kp kpT, (ow_edx0x1 Oe8 KR8 KS8)⟩
     case measure => simp [intOf]; omega
   obtain rfl := hway
   go_wp2_with fail
   refine (l1Once_c (cU B) 3).mono ?_
   rintro e w8 ⟨_, rfl, X8, hc8, bb, rfl⟩
   have P8 : Kp w.heap.size boxTs w7 w8 := Kp.upd kpT X8 oM
   have gE := gE.kp P8
   clear P8
   have hz8 := X8.sz
   have E8 : Upd w w8 [g] := X8.up
   have KR8 := KR7.upv X8
   have KS8 := KS7.upv X8
   have Oe8 := OwnI.drawn (ow_ex0x1n Oe7 KR7 KS7) X8 oM
   clear X8
   clear CR7 FR7 LR7 CS7 FS7 LS7
   obtain ⟨CR8, FR8, LR8⟩ := KR8.cfl
   obtain ⟨CS8, FS8, LS8⟩ := KS8.cfl
   cases bb
   rotate_left
   ·
    go_wp2_with fail
    refine wh (S := fun w' => Upd w w' [g] ∧ Cur B w' g) fun hHeld => ?_
    refine wt 1 ?_
    (try simp only [redA, Act.put])
    refine wr2 0 2 (fun Kz hKz => ?_) fun Kz hKz => ?_
    ·
     (try simp only [redA])
     go_simp
     refine hKz.o2 fun hHeld => ?_
     clear hKz Kz
     (try simp only [redA, Act.put])
     refine wr1 2 fun Kz hKz => ?_
     (try simp only [redA])
     go_simp
     go_at_call 178
     refine (l3DrawFates_c (cU B)).mono ?_
     rintro e w9 ⟨_, rfl, X9, hc9, fl, Of, hf⟩
     have P9 : Kp w.heap.size boxTs w8 w9 := Kp.upd kpT X9 oM
     have gE := gE.kp P9
     clear P9
     have hz9 := X9.sz
     have E9 : Upd w w9 [g] := X9.up
     have KR9 := KR8.upv X9
     have KS9 := KS8.upv X9
     have Oe9 := OwnI.drawn (ow_ex0x1n Oe8 KR8 KS8) X9 oM
     clear X9
     clear CR8 FR8 LR8 CS8 FS8 LS8
     obtain ⟨CR9, FR9, LR9⟩ := KR9.cfl
     obtain ⟨CS9, FS9, LS9⟩ := KS9.cfl
     obtain ⟨aq, nq, kq, rfl⟩ := Of.shape
     refine hKz.o2 fun hHeld => ?_
     clear hKz Kz
     (try simp only [redA, Act.put])
     refine wr1 3 fun Kz hKz => ?_
     (try simp only [redA])
     go_simp
     go_at_call 177
     refine (sFallenStore_k (gE.rd.ext (by exact extT)) (Of.ints.ext (by exact extT))).mono ?_
     rintro e w10 ⟨_, rfl, hx10, FD, gd0⟩
     have P10 : Kp w.heap.size boxTs w9 w10 := Kp.ext kpT hx10
     have gE := gE.kp P10
     clear P10
     have hz10 := hx10.size; (try simp only [szA] at hz10)
     have E10 : Upd w w10 [g] := Upd.ext (by exact updT) hx10
     have hc10 : Cur B w10 g := Cur.ext (by exact curT) hx10
     have KR10 := KR9.exv hx10
     have KS10 := KS9.exv hx10
     have Oe10 := OwnI.ext1 (ow_ex0x1n Oe9 KR9 KS9) hx10
     clear hx10
     clear CR9 FR9 LR9 CS9 FS9 LS9
     obtain ⟨CR10, FR10, LR10⟩ := KR10.cfl
     obtain ⟨CS10, FS10, LS10⟩ := KS10.cfl
     have gd := gd0.isS; clear gd0
     obtain ⟨S2, hS2⟩ : ∃ q, q = fallenStore fl ss := ⟨_, rfl⟩
     rw [← hS2] at gd
     have iS2 : IdxOk S2 := by rw [hS2]; exact idx_fs ⟨by rw [HIz.out]; omega, by rw [HIz.out]; omega⟩
     clear hS2
     obtain ⟨av0, nv0, kv0, av1, nv1, kv1, av4, nv4, kv4, av5, nv5, kv5, rfl⟩ := gd.rd.shape
     obtain ⟨Iv, hIv⟩ : ∃ q : Nat, S2.State.Index = (q : Int) := ⟨_, (Int.toNat_of_nonneg iS2.1).symm⟩
     have hJv : Iv ≤ 2000 := by have := iS2.2; omega
     rw [hIv] at gd ⊢
     have gV := IsStore.mono (B' := w.heap.size) gd zT
     clear gd
     have HIv := Lib.hid hIv; clear hIv iS2
     refine hKz.o2 fun hHeld => ?_
     clear hKz Kz
     (try simp only [redA, Act.put])
     refine wr1 4 fun Kz hKz => ?_
     (try simp only [redA])
     go_simp
     refine hKz.o2 fun hHeld => ?_
     clear hKz Kz
     (try simp only [redA, Act.put])
     refine wpAnyH_done (by kernel_rfl) ?_ _
     go_wp2_with fail
     refine (sRisenStore_k (IsStore.rd (gV.kp kpT))).mono ?_
     rintro e w11 ⟨_, rfl, hx11, vd2, rfl, FD2, gd0⟩
     have P11 : Kp w.heap.size boxTs w10 w11 := Kp.ext kpT hx11
     have gV := gV.kp P11
     clear P11
     have hz11 := hx11.size; (try simp only [szA] at hz11)
     have E11 : Upd w w11 [g] := Upd.ext (by exact updT) hx11
     have hc11 : Cur B w11 g := Cur.ext (by exact curT) hx11
     have KR11 := KR10.exv hx11
     have KS11 : Blk w11 w4.heap.size 65 #[.slice av0 nv0 kv0, .slice av1 nv1 kv1, .int .i64 (Iv : Int), .int .i64 S2.State.Time, .slice av4 nv4 kv4, .slice av5 nv5 kv5, .int .i64 S2.State.Lease.Holder, .int .i64 S2.State.Lease.Epoch, .int .i64 S2.State.Lease.Until, .int .i64 S2.Num, .int .i64 S2.Last, .int .i64 S2.Busy] := Blk.ext bC hx11
     have Oe11 := OwnI.ext1 (ow_ex0x1n Oe10 KR10 KS10) hx11
     clear hx11
     clear CR10 FR10 LR10 CS10 FS10 LS10
     obtain ⟨CR11, FR11, LR11⟩ := KR11.cfl
     obtain ⟨CS11, FS11, LS11⟩ := KS11.cfl
     have gd := gd0.isS; clear gd0
     obtain ⟨S3, hS3⟩ : ∃ q, q = riD S2 := ⟨_, rfl⟩
     rw [← hS3] at gd
     have iS3 : IdxOk S3 := by rw [hS3]; exact idx_ri _
     clear hS3
     obtain ⟨au0, nu0, ku0, au1, nu1, ku1, au4, nu4, ku4, au5, nu5, ku5, rfl⟩ := gd.rd.shape
     obtain ⟨Iu, hIu⟩ : ∃ q : Nat, S3.State.Index = (q : Int) := ⟨_, (Int.toNat_of_nonneg iS3.1).symm⟩
     have hJu : Iu ≤ 2000 := by have := iS3.2; omega
     rw [hIu] at gd ⊢
     have gU := IsStore.mono (B' := w.heap.size) gd zT
     clear gd
     have HIu := Lib.hid hIu; clear hIu iS3
     go_wp2_with fail
     go_roundw
     case rel => exact ⟨k - 1, S3, Iu, au0, nu0, ku0, au1, nu1, ku1, au4, nu4, ku4, au5, nu5, ku5, by omega, by (try simp only [Value.int.injEq, true_and]); first | omega | (congr 1; omega), HIu.out, hJu, by exact updT, by exact curT, bC, bC, gU.kp kpT, (ow_edx0x1 Oe11 KR11 KS11)⟩
     case measure => simp [intOf]; omega
    (try simp only [redA])
    go_simp
    go_at_call 178
    refine (l3DrawFates_c (cU B)).mono ?_
    rintro e w9 ⟨_, rfl, X9, hc9, fl, Of, hf⟩
    have P9 : Kp w.heap.size boxTs w8 w9 := Kp.upd kpT X9 oM
    have gE := gE.kp P9
    clear P9
    have hz9 := X9.sz
    have E9 : Upd w w9 [g] := X9.up
    have KR9 := KR8.upv X9
    have KS9 := KS8.upv X9
    have Oe9 := OwnI.drawn (ow_ex0x1n Oe8 KR8 KS8) X9 oM
    clear X9
    clear CR8 FR8 LR8 CS8 FS8 LS8
    obtain ⟨CR9, FR9, LR9⟩ := KR9.cfl
    obtain ⟨CS9, FS9, LS9⟩ := KS9.cfl
    obtain ⟨aq, nq, kq, rfl⟩ := Of.shape
    refine hKz.o2 fun hHeld => ?_
    clear hKz Kz
    (try simp only [redA, Act.put])
    refine wr1 0 fun Kz hKz => ?_
    (try simp only [redA])
    go_simp
    refine hKz.o2 fun hHeld => ?_
    clear hKz Kz
    (try simp only [redA, Act.put])
    refine wr1 3 fun Kz hKz => ?_
    (try simp only [redA])
    go_simp
    go_at_call 177
    refine (sFallenStore_k (gE.rd.ext (by exact extT)) (Of.ints.ext (by exact extT))).mono ?_
    rintro e w10 ⟨_, rfl, hx10, FD, gd0⟩
    have P10 : Kp w.heap.size boxTs w9 w10 := Kp.ext kpT hx10
    have gE := gE.kp P10
    clear P10
    have hz10 := hx10.size; (try simp only [szA] at hz10)
    have E10 : Upd w w10 [g] := Upd.ext (by exact updT) hx10
    have hc10 : Cur B w10 g := Cur.ext (by exact curT) hx10
    have KR10 := KR9.exv hx10
    have KS10 := KS9.exv hx10
    have Oe10 := OwnI.ext1 (ow_ex0x1n Oe9 KR9 KS9) hx10
    clear hx10
    clear CR9 FR9 LR9 CS9 FS9 LS9
    obtain ⟨CR10, FR10, LR10⟩ := KR10.cfl
    obtain ⟨CS10, FS10, LS10⟩ := KS10.cfl
    have gd := gd0.isS; clear gd0
    obtain ⟨S2, hS2⟩ : ∃ q, q = fallenStore fl ss := ⟨_, rfl⟩
    rw [← hS2] at gd
    have iS2 : IdxOk S2 := by rw [hS2]; exact idx_fs ⟨by rw [HIz.out]; omega, by rw [HIz.out]; omega⟩
    clear hS2
    obtain ⟨av0, nv0, kv0, av1, nv1, kv1, av4, nv4, kv4, av5, nv5, kv5, rfl⟩ := gd.rd.shape
    obtain ⟨Iv, hIv⟩ : ∃ q : Nat, S2.State.Index = (q : Int) := ⟨_, (Int.toNat_of_nonneg iS2.1).symm⟩
    have hJv : Iv ≤ 2000 := by have := iS2.2; omega
    rw [hIv] at gd ⊢
    have gV := IsStore.mono (B' := w.heap.size) gd zT
    clear gd
    have HIv := Lib.hid hIv; clear hIv iS2
    refine hKz.o2 fun hHeld => ?_
    clear hKz Kz
    (try simp only [redA, Act.put])
    refine wr1 4 fun Kz hKz => ?_
    (try simp only [redA])
    go_simp
    refine hKz.o2 fun hHeld => ?_
    clear hKz Kz
    (try simp only [redA, Act.put])
    refine wpAnyH_done (by kernel_rfl) ?_ _
    go_wp2_with fail
    refine (sRisenStore_k (IsStore.rd (gV.kp kpT))).mono ?_
    rintro e w11 ⟨_, rfl, hx11, vd2, rfl, FD2, gd0⟩
    have P11 : Kp w.heap.size boxTs w10 w11 := Kp.ext kpT hx11
    have gV := gV.kp P11
    clear P11
    have hz11 := hx11.size; (try simp only [szA] at hz11)
    have E11 : Upd w w11 [g] := Upd.ext (by exact updT) hx11
    have hc11 : Cur B w11 g := Cur.ext (by exact curT) hx11
    have KR11 := KR10.exv hx11
    have KS11 : Blk w11 w4.heap.size 65 #[.slice av0 nv0 kv0, .slice av1 nv1 kv1, .int .i64 (Iv : Int), .int .i64 S2.State.Time, .slice av4 nv4 kv4, .slice av5 nv5 kv5, .int .i64 S2.State.Lease.Holder, .int .i64 S2.State.Lease.Epoch, .int .i64 S2.State.Lease.Until, .int .i64 S2.Num, .int .i64 S2.Last, .int .i64 S2.Busy] := Blk.ext bC hx11
    have Oe11 := OwnI.ext1 (ow_ex0x1n Oe10 KR10 KS10) hx11
    clear hx11
    clear CR10 FR10 LR10 CS10 FS10 LS10
    obtain ⟨CR11, FR11, LR11⟩ := KR11.cfl
    obtain ⟨CS11, FS11, LS11⟩ := KS11.cfl
    have gd := gd0.isS; clear gd0
    obtain ⟨S3, hS3⟩ : ∃ q, q = riD S2 := ⟨_, rfl⟩
    rw [← hS3] at gd
    have iS3 : IdxOk S3 := by rw [hS3]; exact idx_ri _
    clear hS3
    obtain ⟨au0, nu0, ku0, au1, nu1, ku1, au4, nu4, ku4, au5, nu5, ku5, rfl⟩ := gd.rd.shape
    obtain ⟨Iu, hIu⟩ : ∃ q : Nat, S3.State.Index = (q : Int) := ⟨_, (Int.toNat_of_nonneg iS3.1).symm⟩
    have hJu : Iu ≤ 2000 := by have := iS3.2; omega
    rw [hIu] at gd ⊢
    have gU := IsStore.mono (B' := w.heap.size) gd zT
    clear gd
    have HIu := Lib.hid hIu; clear hIu iS3
    go_wp2_with fail
    go_roundw
    case rel => exact ⟨k - 1, S3, Iu, au0, nu0, ku0, au1, nu1, ku1, au4, nu4, ku4, au5, nu5, ku5, by omega, by (try simp only [Value.int.injEq, true_and]); first | omega | (congr 1; omega), HIu.out, hJu, by exact updT, by exact curT, bC, bC, gU.kp kpT, (ow_edx0x1 Oe11 KR11 KS11)⟩
    case measure => simp [intOf]; omega
   go_wp2_with fail
   go_roundw
   case rel => exact ⟨k - 1, ss, Iz, az0, nz0, kz0, az1, nz1, kz1, az4, nz4, kz4, az5, nz5, kz5, by omega, by (try simp only [Value.int.injEq, true_and]); first | omega | (congr 1; omega), HIz.out, hJz, by exact updT, by exact curT, bC, bC, gE.kp kpT, (ow_edx0x1 Oe8 KR8 KS8)⟩
   case measure => simp [intOf]; omega
  obtain rfl : k = 0 := by omega
  go_wp2_with fail
  refine bodyPost_ret (by simp [results, Tryz.results140, go_sem, CR6, FR6, LR6, CS6, FS6, LS6]; try rfl) rfl ?_
  exact ⟨_, rfl, by exact updT, by exact curT, _, _, ss, rfl, gE.kp kpT⟩
end Go.Proofs.YtcnioiieiebodaaGreat
