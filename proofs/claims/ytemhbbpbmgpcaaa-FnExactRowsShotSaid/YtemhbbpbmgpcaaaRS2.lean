/- Snapshots read off their rows: the program. -/
import Derived.Test.YtemhbbpbmgpcaaaRS
import Derived.Test.YtemhbbpbmgpcaaaNS
import Derived.Test.YtemhbbpbmgpcaaaSh1
import Derived.Test.YtemhbbpbmgpcaaaSR
set_option linter.unusedSimpArgs false
set_option linter.unusedVariables false
namespace Go.Proofs.Ytemhbbpbmgpcaaa
open Go.RowKit Go.G8

end Go.Proofs.Ytemhbbpbmgpcaaa
namespace Go.G8
open Go.RowKit Go.Proofs.Ytemhbbpbmgpcaaa
/-- Whoever is told by these rows is the one that was read. -/
theorem shot_uniq {l : List (List Int)} {r : List Int} {x : Int} {t : DState} (h0 : l[0]? = some r) (h1 : r[0]? = some x) (ht : parsed (l.flatMap mid) t) {s : DShot} (hs : shotOk s = true) (e : shotRows s = l) : s = ⟨x, t⟩ := by
  have h2 : parsed (l.flatMap mid) s.State := ⟨(shotOk_parts hs).2.2.1, by rw [← e, (shotRows_parse hs).2]⟩
  have h3 := parsed_uniq h2 ht
  obtain ⟨r', hr', h4, _⟩ := shotRows_first hs
  rw [e, h0] at hr'
  obtain rfl := Option.some.inj hr'
  rw [h1] at h4
  obtain ⟨a, b⟩ := s
  have h5 := Option.some.inj h4
  simp only [] at h3 h5
  rw [h3, h5]
theorem shotRows_ne {s : DShot} (h : 0 < (shotRows s).length) : shotOk s = true := by
  cases hs : shotOk s
  · simp [shotRows, hs] at h
  · rfl
end Go.G8
namespace Go.Proofs.Ytemhbbpbmgpcaaa
open Go.RowKit Go.G8
set_option maxHeartbeats 8000000 in
set_option maxRecDepth 100000 in
theorem rowsShot_k {w : World} {v : Value} {l : List (List Int)} (h : RdRows w v l) (hr : l.length ≤ 2000000) : Calls Try.prog 17 #[v] w (Ret w fun r w' => (∃ s, shotOk s = true ∧ shotRows s = l ∧ ∃ u, r = .tuple #[u, .bool true] ∧ IsShot w.heap.size w' u s) ∨ ((∀ s, shotOk s = true → shotRows s ≠ l) ∧ r = .tuple #[.agg #[.int .i64 0, .int .i64 0, .int .i64 0, .slice none 0 0, .slice none 0 0, .int .i64 0, .int .i64 0, .int .i64 0], .bool false])) := by
  obtain ⟨a, cap, rfl, hcap, hm, ha⟩ := Nest.rows h
  have HA := Lib.hid ha
  unfold maxLen at hm
  clear ha
  obtain ⟨W1, hW1⟩ : ∃ W1, W1 = w.alloc (.cells #[.int .i64 0, .int .i64 0, .int .i64 0, .slice none 0 0, .slice none 0 0, .int .i64 0, .int .i64 0, .int .i64 0] 39) := ⟨_, rfl⟩
  have E1 : Ext w W1 := by rw [hW1]; exact (Ext.refl _).alloc _
  have R1 : Blk W1 w.heap.size 39 #[.int .i64 0, .int .i64 0, .int .i64 0, .slice none 0 0, .slice none 0 0, .int .i64 0, .int .i64 0, .int .i64 0] := by rw [hW1]; exact Blk.new _ _ _
  have hs1 : W1.heap.size = w.heap.size + 1 := by rw [hW1]; simp
  have HW1 := Lib.hid hW1
  clear hW1
  have HRD := Lib.hid h
  clear h
  go_enter Try.func17, Try.ntmps17
  go_wp2_with fail
  rw [← HW1.out]
  refine (gathered_c _ _ l (HRD.out.ext E1) hr).mono ?_
  rintro e w2 ⟨_, rfl, hx2, na, nn, nc, rfl, o2⟩
  have KR2 := R1.ext hx2
  have E2 : Ext w w2 := E1.trans hx2
  have hz2 := hx2.size
  cases hall : l.all partOk
  · have HAL := Lib.hid hall
    clear hall o2
    have CR2 := KR2.cell; have FR2 := KR2.frozen; have LR2 := KR2.lt
    go_wp2_with fail
    refine bodyPost_ret (by simp [results, Try.results17, go_sem, CR2, FR2, LR2]; try rfl) rfl ?_
    refine ⟨_, rfl, ?_, .inr ⟨fun s hs e => ?_, rfl⟩⟩
    · (repeat (refine Ext.setCell ?_ (Nat.le_refl _) _)); exact E2
    · have h1 := (shotRows_parse hs).1; rw [e, HAL.out] at h1; exact Bool.noConfusion h1
  have o2 := o2 hall
  have HAL := Lib.hid hall
  have hnl := mids_len l hall
  clear hall
  by_cases hl0 : l.length = 0
  · have hz : (((l.length : Nat) : Int) == 0) = true := by simp; exact List.eq_nil_of_length_eq_zero hl0
    have hz' : decide (((l.length : Nat) : Int) = 0) = true := by simp; exact List.eq_nil_of_length_eq_zero hl0
    have HL0 := Lib.hid hl0
    clear hl0 hnl
    have CR2 := KR2.cell; have FR2 := KR2.frozen; have LR2 := KR2.lt
    go_wp2_with fail
    refine bodyPost_ret (by simp [results, Try.results17, go_sem, CR2, FR2, LR2]; try rfl) rfl ?_
    refine ⟨_, rfl, ?_, .inr ⟨fun s hs e => ?_, rfl⟩⟩
    · (repeat (refine Ext.setCell ?_ (Nat.le_refl _) _)); exact E2
    · have h1 := (shotRows_len hs).2.1; rw [e] at h1; have := HL0.out; omega
  have hlp : 0 < l.length := by omega
  have hz : (((l.length : Nat) : Int) == 0) = false := by simp; intro e; rw [e] at hl0; exact hl0 rfl
  have hz' : decide (((l.length : Nat) : Int) = 0) = false := by simp; intro e; rw [e] at hl0; exact hl0 rfl
  have hnl2 : (l.flatMap mid).length ≤ 100000000000 := by omega
  clear hl0 hnl
  obtain ⟨r0, b0, q0, sa, sn, sc, hr0, rfl, hb0, c0, hin⟩ := HA.out 0 hlp
  simp only [Nat.add_zero] at c0
  have hr7 : 7 ≤ r0.length := by
    have h1 := (List.all_eq_true.1 HAL.out) r0 (List.mem_of_getElem? hr0)
    simp only [partOk, Bool.and_eq_true, decide_eq_true_eq] at h1
    exact h1.2
  obtain ⟨_, _, e9, hc9, hm9, hat⟩ := hin.one
  injection e9 with e1 e2 e3; subst e1; subst e3
  obtain ⟨x, sb, so, hx0, rfl, _, cx⟩ := hat 0 (by omega)
  simp only [Nat.add_zero] at cx
  have hsn : 0 < sn := by omega
  have HR0 := Lib.hid hr0; have HX0 := Lib.hid hx0
  clear e2 hat hr0 hx0 hr7 hin hc9
  go_wp2_with fail
  refine (numbersState_c _ _ _ (OwnI.ints o2) hnl2).mono ?_
  rintro e w3 ⟨_, rfl, hx3, hN⟩
  have KR3 := KR2.ext hx3
  have E3 : Ext w w3 := E2.trans hx3
  have hz3 := hx3.size
  rcases hN with ⟨t, ht, u, rfl, t2, t3, rfl, p2, p3⟩ | ⟨hno, rfl⟩
  rotate_left
  · have HNO := Lib.hid hno
    clear hno
    have CR3 := KR3.cell; have FR3 := KR3.frozen; have LR3 := KR3.lt
    go_wp2_with fail
    refine bodyPost_ret (by simp [results, Try.results17, go_sem, CR3, FR3, LR3]; try rfl) rfl ?_
    refine ⟨_, rfl, ?_, .inr ⟨fun s hs e => ?_, rfl⟩⟩
    · repeat' (first | (with_reducible exact Ext.refl _) | (with_reducible assumption) | (with_reducible refine Ext.drewN ?_ _) | (with_reducible refine Ext.drew ?_) | (with_reducible refine Ext.alloc ?_ _) | (with_reducible refine Ext.setCell ?_ ?_ _) | (with_reducible refine Ext.setRow ?_ ?_ _) | (with_reducible exact Nat.le_refl _) | (with_reducible refine Ext.trans ?_ (by assumption)) | omega)
    · exact HNO.out s.State ⟨(shotOk_parts hs).2.2.1, by rw [← e, (shotRows_parse hs).2]⟩
  obtain ⟨a2, n2, k2, rfl⟩ := p2.shape
  obtain ⟨a3, n3, k3, rfl⟩ := p3.shape
  have HT := Lib.hid ht
  clear ht
  go_wp2_with fail
  obtain ⟨W5, hW5⟩ : ∃ W5, W5 = w3.alloc (.cells #[.int .i64 t.Index, .int .i64 t.Time, .slice a2 n2 k2, .slice a3 n3 k3, .int .i64 t.Lease.Holder, .int .i64 t.Lease.Epoch, .int .i64 t.Lease.Until] 37) := ⟨_, rfl⟩
  rw [← hW5]
  have X5 : Ext w3 W5 := by rw [hW5]; exact (Ext.refl _).alloc _
  have B5 : Blk W5 w3.heap.size 37 #[.int .i64 t.Index, .int .i64 t.Time, .slice a2 n2 k2, .slice a3 n3 k3, .int .i64 t.Lease.Holder, .int .i64 t.Lease.Epoch, .int .i64 t.Lease.Until] := by rw [hW5]; exact Blk.new _ _ _
  have hs5 : W5.heap.size = w3.heap.size + 1 := by rw [hW5]; simp
  clear hW5
  have E5 : Ext w W5 := E3.trans X5
  have KR5 := KR3.ext X5
  have d0 := E5.cell c0; have dx := E5.cell cx
  have m0 : W5.cell? ⟨w3.heap.size, 0, none⟩ = some (.int .i64 t.Index) := B5.cell 0
  have m1 : W5.cell? ⟨w3.heap.size, 1, none⟩ = some (.int .i64 t.Time) := B5.cell 1
  have m2 : W5.cell? ⟨w3.heap.size, 2, none⟩ = some (.slice a2 n2 k2) := B5.cell 2
  have m3 : W5.cell? ⟨w3.heap.size, 3, none⟩ = some (.slice a3 n3 k3) := B5.cell 3
  have m4 : W5.cell? ⟨w3.heap.size, 4, none⟩ = some (.int .i64 t.Lease.Holder) := B5.cell 4
  have m5 : W5.cell? ⟨w3.heap.size, 5, none⟩ = some (.int .i64 t.Lease.Epoch) := B5.cell 5
  have m6 : W5.cell? ⟨w3.heap.size, 6, none⟩ = some (.int .i64 t.Lease.Until) := B5.cell 6
  have LB5 := B5.lt
  have HS5 := Lib.hid hs5
  clear hs5
  go_region_held3 (fun w' => w'.cell? ⟨b0, q0, none⟩ = some (.slice (some ⟨sb, so, none⟩) sn sc) ∧ w'.cell? ⟨sb, so, none⟩ = some (.int .i64 x) ∧ w'.cell? ⟨w3.heap.size, 0, none⟩ = some (.int .i64 t.Index) ∧ w'.cell? ⟨w3.heap.size, 1, none⟩ = some (.int .i64 t.Time) ∧ w'.cell? ⟨w3.heap.size, 2, none⟩ = some (.slice a2 n2 k2) ∧ w'.cell? ⟨w3.heap.size, 3, none⟩ = some (.slice a3 n3 k3) ∧ w'.cell? ⟨w3.heap.size, 4, none⟩ = some (.int .i64 t.Lease.Holder) ∧ w'.cell? ⟨w3.heap.size, 5, none⟩ = some (.int .i64 t.Lease.Epoch) ∧ w'.cell? ⟨w3.heap.size, 6, none⟩ = some (.int .i64 t.Lease.Until)) (first | (refine ⟨Ext.cell (w := W5) ?_ d0, Ext.cell (w := W5) ?_ dx, Ext.cell (w := W5) ?_ m0, Ext.cell (w := W5) ?_ m1, Ext.cell (w := W5) ?_ m2, Ext.cell (w := W5) ?_ m3, Ext.cell (w := W5) ?_ m4, Ext.cell (w := W5) ?_ m5, Ext.cell (w := W5) ?_ m6⟩ <;> (repeat' (first | (with_reducible exact Ext.refl _) | (with_reducible assumption) | (with_reducible refine Ext.drewN ?_ _) | (with_reducible refine Ext.drew ?_) | (with_reducible refine Ext.alloc ?_ _) | (with_reducible refine Ext.setCell ?_ ?_ _) | (with_reducible refine Ext.setRow ?_ ?_ _) | (with_reducible exact Nat.le_refl _) | (with_reducible refine Ext.trans ?_ (by assumption)) | omega)); done)) (fail)
  all_goals
    go_wp2_with fail
    have hrs : ∀ W, Ext w3 W → RdShot W (.agg #[.int .i64 x, .int .i64 t.Index, .int .i64 t.Time, .slice a2 n2 k2, .slice a3 n3 k3, .int .i64 t.Lease.Holder, .int .i64 t.Lease.Epoch, .int .i64 t.Lease.Until]) ⟨x, t⟩ := fun W hW => ⟨_, _, rfl, (OwnI.ints p2).ext hW, (OwnI.ints p3).ext hW⟩
    refine (shotRows_k (hrs _ (by repeat' (first | (with_reducible exact Ext.refl _) | (with_reducible assumption) | (with_reducible refine Ext.drewN ?_ _) | (with_reducible refine Ext.drew ?_) | (with_reducible refine Ext.alloc ?_ _) | (with_reducible refine Ext.setCell ?_ ?_ _) | (with_reducible refine Ext.setRow ?_ ?_ _) | (with_reducible exact Nat.le_refl _) | (with_reducible refine Ext.trans ?_ (by assumption)) | omega)))).mono ?_
    rintro e w6 ⟨_, rfl, hx6, FF, g6⟩
    have B6 : Blk w6 W5.heap.size 39 _ := Blk.ext (by repeat' (first | (with_reducible assumption) | (with_reducible exact Blk.new _ _ _) | (with_reducible exact Blk.new2 _ _ _ _) | (with_reducible exact Blk.new3 _ _ _ _ _) | (with_reducible apply Blk.drew) | (with_reducible apply Blk.drewN) | (with_reducible apply Blk.alloc) | (with_reducible apply Blk.set_) | (with_reducible apply Blk.row) | (with_reducible apply Blk.far) | (with_reducible apply Blk.rowFar) | omega | (simp; omega))) hx6
    (try simp only [List.setIfInBounds_toArray, List.set_cons_zero, List.set_cons_succ] at B6)
    have X6 : Ext W5 w6 := Ext.trans (by repeat' (first | (with_reducible exact Ext.refl _) | (with_reducible assumption) | (with_reducible refine Ext.drewN ?_ _) | (with_reducible refine Ext.drew ?_) | (with_reducible refine Ext.alloc ?_ _) | (with_reducible refine Ext.setCell ?_ ?_ _) | (with_reducible refine Ext.setRow ?_ ?_ _) | (with_reducible exact Nat.le_refl _) | (with_reducible refine Ext.trans ?_ (by assumption)) | omega)) hx6
    have E6 : Ext w w6 := E5.trans X6
    have KR6 := KR5.ext X6
    have hz6 := X6.size
    have hz5 := X5.size
    have hne : w.heap.size ≠ W5.heap.size := by omega
    clear d0 dx m0 m1 m2 m3 m4 m5 m6 hrs
    have P2 : OwnI W1.heap.size 106 2 w6 (.slice a2 n2 k2) (flPair t.Pairs) := OwnI.mono (OwnI.ext p2 (X5.trans X6)) (by omega)
    have P3 : OwnI W1.heap.size 104 5 w6 (.slice a3 n3 k3) (flJob t.Jobs) := OwnI.mono (OwnI.ext p3 (X5.trans X6)) (by omega)
    obtain ⟨S, hS⟩ : ∃ S : DShot, S = ⟨x, t⟩ := ⟨_, rfl⟩
    rw [← hS] at g6
    have HS := Lib.hid hS
    clear hS
    obtain ⟨ga, gc, rfl, hgc, hgm, hga⟩ := Nest.rows g6.rd
    unfold maxLen at hgm
    have HG := Lib.hid hga
    clear hga
    by_cases hlen : (shotRows S).length = l.length
    rotate_left
    · have hlb : (((shotRows S).length : Int) != ((l.length : Nat) : Int)) = true := by simp; omega
      have hlb2 : (((shotRows S).length : Int) == ((l.length : Nat) : Int)) = false := by simp; omega
      have HLEN := Lib.hid hlen
      have CR6 := KR6.cell; have FR6 := KR6.frozen; have LR6 := KR6.lt
      go_wp2_with fail
      refine bodyPost_ret (by simp [results, Try.results17, go_sem, CR6, FR6, LR6]; try rfl) rfl ?_
      refine ⟨_, rfl, ?_, .inr ⟨fun s hs e => ?_, rfl⟩⟩
      · (repeat (refine Ext.setCell ?_ (Nat.le_refl _) _)); exact E6
      · have h9 := shot_uniq HR0.out HX0.out HT.out hs e; rw [← HS.out] at h9; subst h9; exact HLEN.out (by rw [e])
    have HLEN := Lib.hid hlen
    rw [hlen] at HG hgc ⊢
    clear hlen
    have CB6 := B6.cell; have LB6 := B6.lt
    have CR6 := KR6.cell; have FR6 := KR6.frozen; have LR6 := KR6.lt
    go_wp2_with fail
    go_loopw [50] (fun i wr => ∃ k : Nat, k ≤ l.length ∧ i = .int .i64 k ∧ Ext w6 wr ∧ Hid ((shotRows S).take k = l.take k)) (fun i _ => l.length - (intOf i).toNat)
    case atStart => exact ⟨0, Nat.zero_le _, rfl, Ext.refl _, Lib.hid (by simp)⟩
    case round =>
      obtain ⟨k, hk, rfl, he, heq⟩ := hrel
      have KR7 := KR6.ext he
      have B7 := B6.ext he
      have CB7 := B7.cell; have LB7 := B7.lt
      have CR7 := KR7.cell; have FR7 := KR7.frozen; have LR7 := KR7.lt
      by_cases hlt : k < l.length
      · obtain ⟨ra, b1, o1, xa, xn, xc, hra, rfl, _, ca, ia⟩ := HG.out k hlt
        obtain ⟨rb, b2, o2', ya, yn, yc, hrb, r9, _, cb, ib⟩ := HA.out k hlt
        injection r9 with r9; injection r9 with r91 r92; subst r91; subst r92
        have da := he.cell ca
        have db := (E6.trans he).cell cb
        have HRA := Lib.hid hra; have HRB := Lib.hid hrb
        have ia' := Lib.hid (ia.ext he); have ib' := Lib.hid (ib.ext (E6.trans he))
        clear hra hrb ca cb ia ib CB6 CR6 FR6
        go_wp2_with fail
        refine (sameRow_c _ _ _ ra rb ia'.out ib'.out).mono ?_
        rintro e w7 ⟨rfl, hx7⟩
        by_cases hab : ra = rb
        · rw [show decide (ra = rb) = true by simp [hab]]
          have HAB := Lib.hid hab
          clear hab
          go_wp2_with fail
          go_roundw
          case rel => exact ⟨k + 1, by omega, by go_num, he.trans hx7, Lib.hid (by rw [take_snoc HRA.out, take_snoc HRB.out, heq.out, HAB.out])⟩
          case measure => simp [intOf]; omega
        · rw [show decide (ra = rb) = false by simp [hab]]
          have HAB := Lib.hid hab
          clear hab CB7 CR7 FR7
          have KR8 := KR7.ext hx7
          have CR8 := KR8.cell; have FR8 := KR8.frozen; have LR8 := KR8.lt
          go_wp2_with fail
          refine bodyPost_ret (by simp [results, Try.results17, go_sem, CR8, FR8, LR8]; try rfl) rfl ?_
          refine ⟨_, rfl, ?_, .inr ⟨fun s hs e => ?_, rfl⟩⟩
          · (repeat (refine Ext.setCell ?_ (Nat.le_refl _) _)); exact (E6.trans he).trans hx7
          · have h9 := shot_uniq HR0.out HX0.out HT.out hs e; rw [← HS.out] at h9; subst h9; have h8 := HRA.out; rw [e, HRB.out] at h8; exact HAB.out (Option.some.inj h8).symm
      · obtain rfl : k = l.length := by omega
        have hfin : shotRows S = l := by
          have h9 := heq.out
          rw [List.take_length, List.take_of_length_le (by rw [HLEN.out]; exact Nat.le_refl _)] at h9
          exact h9
        have HF := Lib.hid hfin
        clear hfin CB6 CR6 FR6
        go_wp2_with fail
        refine bodyPost_ret (by simp [results, Try.results17, go_sem, CR7, FR7, LR7, CB7, LB7]; try rfl) rfl ?_
        refine ⟨_, rfl, ?_, .inl ⟨S, shotRows_ne (by rw [HF.out]; exact hlp), HF.out, _, rfl, ?_⟩⟩
        · (repeat (refine Ext.setCell ?_ (Nat.le_refl _) _)); exact E6.trans he
        · rw [HS.out]
          exact ⟨_, _, rfl, OwnI.mono (OwnI.keep (OwnI.ext P2 he) (by repeat' (first | (with_reducible exact Chg.refl _ _) | (with_reducible refine Chg.drewN ?_ _) | (with_reducible refine Chg.drew ?_) | (with_reducible refine Chg.alloc ?_ _) | (with_reducible refine Chg.setLow ?_ (by omega) _) | (with_reducible refine Chg.setNew ?_ (by omega) _) | (with_reducible refine Chg.setRow ?_ (by omega) _) | (with_reducible refine Chg.ext ?_ (by assumption)) | omega))) (by omega), OwnI.mono (OwnI.keep (OwnI.ext P3 he) (by repeat' (first | (with_reducible exact Chg.refl _ _) | (with_reducible refine Chg.drewN ?_ _) | (with_reducible refine Chg.drew ?_) | (with_reducible refine Chg.alloc ?_ _) | (with_reducible refine Chg.setLow ?_ (by omega) _) | (with_reducible refine Chg.setNew ?_ (by omega) _) | (with_reducible refine Chg.setRow ?_ (by omega) _) | (with_reducible refine Chg.ext ?_ (by assumption)) | omega))) (by omega)⟩

end Go.Proofs.Ytemhbbpbmgpcaaa
