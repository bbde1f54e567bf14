/- Contracts and plain laws: RA SAM SA SA2 SAF NW. -/
import Derived.Test.YtlnkggpemdpemaaGreatYa
import Derived.Test.YtlnkggpemdpemaaGreatYu
import Derived.Test.YtlnkggpemdpemaaGreatYg
import Derived.Test.YtlnkggpemdpemaaGreatYw
import Derived.Test.YtlnkggpemdpemaaGreatYv
set_option linter.unusedSimpArgs false
set_option linter.unusedVariables false
set_option maxHeartbeats 8000000
set_option maxRecDepth 100000
namespace Go.G8
open Go.RowKit Go.Proofs.YtlnkggpemdpemaaGreat
def readAt (d : DDisk) (at_ : Int) : List Int := match d.Wait.reverse.find? (fun x => decide (x.At = at_)) with | some x => x.Row | none => (d.Kept[at_.toNat]?).getD []
def readOk (d : DDisk) (at_ : Int) : Bool := diskOk d && inb at_ 0 ((d.Kept.length : Int) - 1)
def readIf (d : DDisk) (at_ : Int) : List Int := if readOk d at_ then readAt d at_ else []
theorem find_rev_some {l : List DWrite} {k : Nat} {x : DWrite} {p : DWrite → Bool} (hx : l[k]? = some x) (hp : p x = true) (h : ∀ (j : Nat) y, k < j → l[j]? = some y → p y = false) : l.reverse.find? p = some x := by
 obtain ⟨hk, rfl⟩ := List.getElem?_eq_some_iff.1 hx
 have e : l = l.take k ++ (l[k] :: l.drop (k + 1)) := by
  rw [← List.drop_eq_getElem_cons hk, List.take_append_drop]
 have hn : (l.drop (k + 1)).reverse.find? p = none := by
  rw [List.find?_eq_none]
  intro y hy
  rw [List.mem_reverse] at hy
  obtain ⟨i, hi⟩ := List.mem_iff_getElem?.1 hy
  rw [List.getElem?_drop] at hi
  rw [h (k + 1 + i) y oM hi]; decide
 have e2 : l.reverse = (l.drop (k + 1)).reverse ++ (l[k] :: (l.take k).reverse) := by
  conv => lhs; rw [e]
  simp
 rw [e2, List.find?_append, hn]
 simp [hp]
theorem find_rev_none {l : List DWrite} {p : DWrite → Bool} (h : ∀ (j : Nat) y, l[j]? = some y → p y = false) : l.reverse.find? p = none := by
 rw [List.find?_eq_none]
 intro y hy
 rw [List.mem_reverse] at hy
 obtain ⟨i, hi⟩ := List.mem_iff_getElem?.1 hy
 rw [h i y hi]; decide
theorem readOk_row {d : DDisk} {at_ : Int} (h : readOk d at_ = true) : (readAt d at_).length ≤ 48 := by
 simp only [readOk, diskOk, Bool.and_eq_true, decide_eq_true_eq, List.all_eq_true] at h
 obtain ⟨⟨_, h1, h2⟩, _⟩ := h
 unfold readAt
 split
 ·
  rename_i x hx
  have := h2 x (by have := List.mem_of_find?_eq_some hx; simpa using this)
  simp only [writeOk, Bool.and_eq_true] at this
  exact (rowOk_len this.2).1
 cases hk : d.Kept[at_.toNat]? with
 | none => simp
 | some r => exact (rowOk_len (h1 r (List.mem_of_getElem? hk))).1
end Go.G8
namespace Go.Proofs.YtlnkggpemdpemaaGreat
open Go.RowKit Go.G8
theorem sReadAt_k0 (w : World) (s0 s1 : Value) (l0 : List (List Int)) (l1 : List DWrite) (at_ : Int) (h0 : Nest 0 w s0 (nestInt64S l0)) (h1 : Nest 1 w s1 (nestWrite l1)) :
  Calls Tryz.prog 103 #[.agg #[s0, s1], .int .i64 at_] w (Ret w fun r w' => ∃ a n c, r = .tuple #[.slice a n c, .bool (readOk ⟨l0, l1⟩ at_)] ∧ OwnI w.heap.size 2 1 w' (.slice a n c) (readIf ⟨l0, l1⟩ at_)) := by
 obtain ⟨a0, c0, rfl, hc0, hm0, ha0⟩ := Nest.rows h0
 obtain ⟨a1, c1, rfl, hc1, hm1, ha1⟩ := Nest.writes h1
 have HA := Lib.hid ha0; have HB := Lib.hid ha1
 have H0 := Lib.hid h0; have H1 := Lib.hid h1
 clear ha0 ha1 h0 h1
 unfold maxLen at hm0 hm1
 have E0 : Ext w (w.alloc (.cells #[.slice a0 l0.length c0, .slice a1 l1.length c1] 33)) := (Ext.refl _).alloc _
 have B0 : Blk (w.alloc (.cells #[.slice a0 l0.length c0, .slice a1 l1.length c1] 33)) w.heap.size 33 #[.slice a0 l0.length c0, .slice a1 l1.length c1] := Blk.new _ _ _
 go_enter Tryz.func103, Tryz.ntmps103
 go_wp2_with fail
 refine (sDiskOk_c _ _ l0 _ l1 (H0.out.ext E0) (H1.out.ext E0)).mono ?_
 rintro e w1 ⟨rfl, hx1⟩
 have KB1 := B0.ext hx1
 have CB1 := KB1.cell; have LB1 := KB1.lt
 have E1 : Ext w w1 := E0.trans hx1
 cases hd : diskOk ⟨l0, l1⟩
 ·
  have hn : readOk ⟨l0, l1⟩ at_ = false := by simp [readOk, hd]
  have HN := Lib.hid hn
  clear hn hd
  go_wp2_with fail
  go_ret2
  refine ⟨_, rfl, ?_, _, _, _, by rw [HN.out]; rfl, ?_⟩
  ·
   exact xT
  rw [show readIf ⟨l0, l1⟩ at_ = [] by simp [readIf, HN.out]]; exact OwnI.mono (show OwnI w1.heap.size 2 1 (w1.alloc _) (.slice (some ⟨w1.heap.size, 0, none⟩) 0 0) [] from Own.fresh w1 2 1) E1.size
 have HD := Lib.hid hd
 clear hd
 go_wp2_with fail
 refine (l3Has_c _ _ l0 _ l1 at_ (H0.out.ext E1) (H1.out.ext E1)).mono ?_
 rintro e w2 ⟨rfl, hx2⟩
 have KB2 := KB1.ext hx2
 have E2 : Ext w w2 := E1.trans hx2
 clear CB1
 have CB2 := KB2.cell; have LB2 := KB2.lt
 cases hb : inb at_ 0 ((l0.length : Int) - 1)
 ·
  have hn : readOk ⟨l0, l1⟩ at_ = false := by simp [readOk, hb]
  have HN := Lib.hid hn
  have HB2 := Lib.hid hb
  clear hn hb
  go_wp2_with fail
  go_ret2
  refine ⟨_, rfl, ?_, _, _, _, by rw [HN.out]; rfl, ?_⟩
  ·
   exact xT
  rw [show readIf ⟨l0, l1⟩ at_ = [] by simp [readIf, HN.out]]; exact OwnI.mono (show OwnI w2.heap.size 2 1 (w2.alloc _) (.slice (some ⟨w2.heap.size, 0, none⟩) 0 0) [] from Own.fresh w2 2 1) E2.size
 obtain ⟨hat0, hat1⟩ := inb_true.1 hb
 obtain ⟨A, rfl⟩ := Int.eq_ofNat_of_zero_le hat0
 have hAl : A < l0.length := by omega
 have hok : readOk ⟨l0, l1⟩ (A : Int) = true := by simp [readOk, HD.out, hb]
 have HOK := Lib.hid hok
 have hrow := readOk_row hok
 have HROW := Lib.hid hrow
 clear hb hok hrow hat0
 go_wp2_with fail
 go_loopw [6] (fun i wr => ∃ k : Nat, k ≤ l1.length ∧ i = .int .i64 ((k : Int) - 1) ∧ Ext w2 wr ∧ Hid (∀ (j : Nat) y, k ≤ j → l1[j]? = some y → decide (y.At = (A : Int)) = false)) (fun i _ => (intOf i + 1).toNat)
 case atStart => exact ⟨l1.length, Nat.le_refl _, rfl, Ext.refl _, Lib.hid (fun j y hj hy => by have := (List.getElem?_eq_some_iff.1 hy).1; omega)⟩
 case round =>
  obtain ⟨k, hk, rfl, he, hno⟩ := hrel
  have KBr := KB2.ext he
  have CBr := KBr.cell; have LBr := KBr.lt
  have Er : Ext w wr := E2.trans he
  cases k with
  | zero =>
   obtain ⟨r, b1, o1, sa, sn, sc, hr, rfl, hb1, cc, hin⟩ := HA.out A hAl
   have dd := Er.cell cc
   have he1 : readAt ⟨l0, l1⟩ (A : Int) = r := by
    unfold readAt
    rw [find_rev_none (fun j y hy => hno.out j y oM hy)]
    simp [hr]
   have HE := Lib.hid he1; have HIN := Lib.hid (hin.ext Er)
   have hrl : r.length ≤ 1000000 := by have := HROW.out; rw [he1] at this; omega
   clear hr cc hin he1 CB2
   go_wp2_with (first | (go_at_call 68; refine (l1Copy_c _ _ _ HIN.out hrl).mono ?_; rintro e w5 ⟨_, rfl, hx5, g5⟩; obtain ⟨ta, tn, tc, rfl⟩ := g5.shape))
   go_ret2
   refine ⟨_, rfl, Er.trans hx5, _, _, _, by rw [HOK.out]; rfl, ?_⟩
   rw [show readIf ⟨l0, l1⟩ (A : Int) = r by simp [readIf, HOK.out, HE.out]]
   exact OwnI.mono g5 Er.size
  | succ m =>
   have hml : m < l1.length := by omega
   have hmI : (((m + 1 : Nat) : Int) - 1) = (m : Int) := by omega
   rw [hmI]
   clear hmI
   obtain ⟨d, b1, o1, sa, sn, sc, hr, rfl, hb1, cc0, cc1, hin⟩ := HB.out m hml
   have dd0 := Er.cell cc0; have dd1 := Er.cell cc1
   have HR := Lib.hid hr; have HIN := Lib.hid (hin.ext Er)
   clear hr cc0 cc1 hin CB2
   by_cases hat : d.At = (A : Int)
   ·
    have he1 : readAt ⟨l0, l1⟩ (A : Int) = d.Row := by
     unfold readAt
     rw [find_rev_some HR.out (by simp [hat]) (fun j y hj hy => hno.out j y oM hy)]
    have HE := Lib.hid he1
    have hrl : d.Row.length ≤ 1000000 := by have := HROW.out; rw [he1] at this; omega
    have hbt : (d.At == (A : Int)) = true := by simp [hat]
    have HAT := Lib.hid hat
    clear he1
    go_wp2_with (first | (go_at_call 68; refine (l1Copy_c _ _ _ HIN.out hrl).mono ?_; rintro e w5 ⟨_, rfl, hx5, g5⟩; obtain ⟨ta, tn, tc, rfl⟩ := g5.shape))
    go_ret2
    refine ⟨_, rfl, Er.trans hx5, _, _, _, by rw [HOK.out]; rfl, ?_⟩
    rw [show readIf ⟨l0, l1⟩ (A : Int) = d.Row by simp [readIf, HOK.out, HE.out]]
    exact OwnI.mono g5 Er.size
   have hbt : (d.At == (A : Int)) = false := by simp [hat]
   have HAT := Lib.hid hat
   go_wp2_with fail
   go_roundw
   case rel =>
    refine ⟨m, by omega, rfl, he, Lib.hid (fun j y hj hy => ?_)⟩
    by_cases hjm : j = m
    ·
     subst hjm
     have h9 := HR.out
     rw [hy] at h9
     obtain rfl := Option.some.inj h9
     simp [HAT.out]
    exact hno.out j y oM hy
   case measure => first | (simp [intOf]; done) | (simp [intOf]; omega)
theorem sReadAt_k {w : World} {v : Value} {d : DDisk} (h : RdDisk w v d) (at_ : Int) : Calls Tryz.prog 103 #[v, .int .i64 at_] w (Ret w fun r w' => ∃ a n c, r = .tuple #[.slice a n c, .bool (readOk d at_)] ∧ OwnI w.heap.size 2 1 w' (.slice a n c) (readIf d at_)) := by
 obtain ⟨t0, t1, rfl, h0, h1⟩ := h
 exact sReadAt_k0 w t0 t1 d.Kept d.Wait at_ h0 h1
theorem readAt_k0 (w : World) (s0 s1 : Value) (l0 : List (List Int)) (l1 : List DWrite) (at_ : Int) (h0 : Nest 0 w s0 (nestInt64S l0)) (h1 : Nest 1 w s1 (nestWrite l1)) :
  Calls Tryz.prog 95 #[.agg #[s0, s1], .int .i64 at_] w (Ret w fun r w' => ∃ a n c, r = .tuple #[.slice a n c, .bool (readOk ⟨l0, l1⟩ at_)] ∧ OwnI w.heap.size 2 1 w' (.slice a n c) (readIf ⟨l0, l1⟩ at_)) := by
 obtain ⟨a0, c0, rfl, hc0, hm0, ha0⟩ := Nest.rows h0
 obtain ⟨a1, c1, rfl, hc1, hm1, ha1⟩ := Nest.writes h1
 have HA := Lib.hid ha0; have HB := Lib.hid ha1
 have H0 := Lib.hid h0; have H1 := Lib.hid h1
 clear ha0 ha1 h0 h1
 unfold maxLen at hm0 hm1
 have E0 : Ext w (w.alloc (.cells #[.slice a0 l0.length c0, .slice a1 l1.length c1] 33)) := (Ext.refl _).alloc _
 have B0 : Blk (w.alloc (.cells #[.slice a0 l0.length c0, .slice a1 l1.length c1] 33)) w.heap.size 33 #[.slice a0 l0.length c0, .slice a1 l1.length c1] := Blk.new _ _ _
 go_enter Tryz.func95, Tryz.ntmps95
 go_wp2_with fail
 refine (diskOk_c _ _ l0 _ l1 (H0.out.ext E0) (H1.out.ext E0)).mono ?_
 rintro e w1 ⟨rfl, hx1⟩
 have KB1 := B0.ext hx1
 have CB1 := KB1.cell; have LB1 := KB1.lt
 have E1 : Ext w w1 := E0.trans hx1
 cases hd : diskOk ⟨l0, l1⟩
 ·
  have hn : readOk ⟨l0, l1⟩ at_ = false := by simp [readOk, hd]
  have HN := Lib.hid hn
  clear hn hd
  go_wp2_with fail
  go_ret2
  refine ⟨_, rfl, ?_, _, _, _, by rw [HN.out]; rfl, ?_⟩
  ·
   exact xT
  rw [show readIf ⟨l0, l1⟩ at_ = [] by simp [readIf, HN.out]]; exact OwnI.nil _ _ _ _
 have HD := Lib.hid hd
 clear hd
 go_wp2_with fail
 refine (sectorOk_c _ _ l0 _ l1 at_ (H0.out.ext E1) (H1.out.ext E1)).mono ?_
 rintro e w2 ⟨rfl, hx2⟩
 have KB2 := KB1.ext hx2
 have E2 : Ext w w2 := E1.trans hx2
 clear CB1
 have CB2 := KB2.cell; have LB2 := KB2.lt
 cases hb : inb at_ 0 ((l0.length : Int) - 1)
 ·
  have hn : readOk ⟨l0, l1⟩ at_ = false := by simp [readOk, hb]
  have HN := Lib.hid hn
  have HB2 := Lib.hid hb
  clear hn hb
  go_wp2_with fail
  go_ret2
  refine ⟨_, rfl, ?_, _, _, _, by rw [HN.out]; rfl, ?_⟩
  ·
   exact xT
  rw [show readIf ⟨l0, l1⟩ at_ = [] by simp [readIf, HN.out]]; exact OwnI.nil _ _ _ _
 obtain ⟨hat0, hat1⟩ := inb_true.1 hb
 obtain ⟨A, rfl⟩ := Int.eq_ofNat_of_zero_le hat0
 have hAl : A < l0.length := by omega
 have hok : readOk ⟨l0, l1⟩ (A : Int) = true := by simp [readOk, HD.out, hb]
 have HOK := Lib.hid hok
 have hrow := readOk_row hok
 have HROW := Lib.hid hrow
 clear hb hok hrow hat0
 go_wp2_with fail
 go_loopw [6] (fun i wr => ∃ k : Nat, k ≤ l1.length ∧ i = .int .i64 ((k : Int) - 1) ∧ Ext w2 wr ∧ Hid (∀ (j : Nat) y, k ≤ j → l1[j]? = some y → decide (y.At = (A : Int)) = false)) (fun i _ => (intOf i + 1).toNat)
 case atStart => exact ⟨l1.length, Nat.le_refl _, rfl, Ext.refl _, Lib.hid (fun j y hj hy => by have := (List.getElem?_eq_some_iff.1 hy).1; omega)⟩
 case round =>
  obtain ⟨k, hk, rfl, he, hno⟩ := hrel
  have KBr := KB2.ext he
  have CBr := KBr.cell; have LBr := KBr.lt
  have Er : Ext w wr := E2.trans he
  cases k with
  | zero =>
   obtain ⟨r, b1, o1, sa, sn, sc, hr, rfl, hb1, cc, hin⟩ := HA.out A hAl
   have dd := Er.cell cc
   have he1 : readAt ⟨l0, l1⟩ (A : Int) = r := by
    unfold readAt
    rw [find_rev_none (fun j y hy => hno.out j y oM hy)]
    simp [hr]
   have HE := Lib.hid he1; have HIN := Lib.hid (hin.ext Er)
   have hrl : r.length ≤ 1000000 := by have := HROW.out; rw [he1] at this; omega
   clear hr cc hin he1 CB2
   go_wp2_with (first | (go_at_call 101; refine (copyRow_c _ _ _ HIN.out hrl).mono ?_; rintro e w5 ⟨_, rfl, hx5, g5⟩; obtain ⟨ta, tn, tc, rfl⟩ := g5.shape))
   go_ret2
   refine ⟨_, rfl, Er.trans hx5, _, _, _, by rw [HOK.out]; rfl, ?_⟩
   rw [show readIf ⟨l0, l1⟩ (A : Int) = r by simp [readIf, HOK.out, HE.out]]
   exact OwnI.mono g5 Er.size
  | succ m =>
   have hml : m < l1.length := by omega
   have hmI : (((m + 1 : Nat) : Int) - 1) = (m : Int) := by omega
   rw [hmI]
   clear hmI
   obtain ⟨d, b1, o1, sa, sn, sc, hr, rfl, hb1, cc0, cc1, hin⟩ := HB.out m hml
   have dd0 := Er.cell cc0; have dd1 := Er.cell cc1
   have HR := Lib.hid hr; have HIN := Lib.hid (hin.ext Er)
   clear hr cc0 cc1 hin CB2
   by_cases hat : d.At = (A : Int)
   ·
    have he1 : readAt ⟨l0, l1⟩ (A : Int) = d.Row := by
     unfold readAt
     rw [find_rev_some HR.out (by simp [hat]) (fun j y hj hy => hno.out j y oM hy)]
    have HE := Lib.hid he1
    have hrl : d.Row.length ≤ 1000000 := by have := HROW.out; rw [he1] at this; omega
    have hbt : (d.At == (A : Int)) = true := by simp [hat]
    have HAT := Lib.hid hat
    clear he1
    go_wp2_with (first | (go_at_call 101; refine (copyRow_c _ _ _ HIN.out hrl).mono ?_; rintro e w5 ⟨_, rfl, hx5, g5⟩; obtain ⟨ta, tn, tc, rfl⟩ := g5.shape))
    go_ret2
    refine ⟨_, rfl, Er.trans hx5, _, _, _, by rw [HOK.out]; rfl, ?_⟩
    rw [show readIf ⟨l0, l1⟩ (A : Int) = d.Row by simp [readIf, HOK.out, HE.out]]
    exact OwnI.mono g5 Er.size
   have hbt : (d.At == (A : Int)) = false := by simp [hat]
   have HAT := Lib.hid hat
   go_wp2_with fail
   go_roundw
   case rel =>
    refine ⟨m, by omega, rfl, he, Lib.hid (fun j y hj hy => ?_)⟩
    by_cases hjm : j = m
    ·
     subst hjm
     have h9 := HR.out
     rw [hy] at h9
     obtain rfl := Option.some.inj h9
     simp [HAT.out]
    exact hno.out j y oM hy
   case measure => first | (simp [intOf]; done) | (simp [intOf]; omega)
theorem readAt_k {w : World} {v : Value} {d : DDisk} (h : RdDisk w v d) (at_ : Int) : Calls Tryz.prog 95 #[v, .int .i64 at_] w (Ret w fun r w' => ∃ a n c, r = .tuple #[.slice a n c, .bool (readOk d at_)] ∧ OwnI w.heap.size 2 1 w' (.slice a n c) (readIf d at_)) := by
 obtain ⟨t0, t1, rfl, h0, h1⟩ := h
 exact readAt_k0 w t0 t1 d.Kept d.Wait at_ h0 h1
end Go.Proofs.YtlnkggpemdpemaaGreat
namespace Go.G8
open Go.RowKit Go.Proofs.YtlnkggpemdpemaaGreat
def secRow (d : DDisk) (slot : Int) (i : Nat) : List Int := readIf d (slot * 4 + (i : Int))
def secRows (d : DDisk) (slot : Int) (k : Nat) : List (List Int) := (List.range k).map (secRow d slot)
def slot01 (n : Int) : Bool := n == 0 || n == 1
noncomputable def zShot : DShot := ⟨0, ⟨0, 0, [], [], ⟨0, 0, 0⟩⟩⟩
noncomputable def shotAt (d : DDisk) (slot : Int) : Option DShot :=
 if shelfOk d && slot01 slot then (match (secRow d slot 0)[3]? with | some t => if inb t 1 80 then readShot (secRows d slot (parts t.toNat)) else none | none => none) else none
theorem secRows_succ (d : DDisk) (slot : Int) (k : Nat) : secRows d slot (k + 1) = secRows d slot k ++ [secRow d slot k] := by simp [secRows, List.range_succ]
theorem secRows_shot {d : DDisk} {slot : Int} {k : Nat} {s : DShot} (h : readShot (secRows d slot k) = some s) :
  (secRow d slot 0)[3]? = some ((stateNums s.State).length : Int) ∧ inb ((stateNums s.State).length : Int) 1 80 = true ∧ parts (stateNums s.State).length = k ∧ k ≤ 4 := by
 obtain ⟨h1, h2⟩ := readShot_is h
 have hl := shotRows_len h1
 have hb := stateNums_bound (shotOk_parts h1).2.2.1
 have hn := stateNums_len s.State
 obtain ⟨r, hr, _, _, h3, _⟩ := shotRows_first h1
 have hk : (secRows d slot k).length = k := by simp [secRows]
 rw [h2] at hl hr
 rw [hk] at hl
 have h0 : (secRows d slot k)[0]? = some (secRow d slot 0) := by
  have : 0 < k := by omega
  simp [secRows, this]
 rw [h0] at hr
 obtain rfl := Option.some.inj hr
 exact ⟨h3, inb_of oM oM, hl.1.symm, hl.2.2⟩
theorem shotAt_some {d : DDisk} {slot : Int} {k : Nat} {s : DShot} (hd : shelfOk d = true) (hs : slot01 slot = true) (h : readShot (secRows d slot k) = some s) : shotAt d slot = some s := by
 obtain ⟨h1, h2, h3, _⟩ := secRows_shot h
 simp only [shotAt, hd, hs, Bool.and_self, if_true, h1, h2]
 rw [Int.toNat_natCast, h3, h]
theorem shotAt_none {d : DDisk} {slot : Int} (h : ∀ k, 1 ≤ k → k ≤ 4 → readShot (secRows d slot k) = none) : shotAt d slot = none := by
 unfold shotAt
 split
 ·
  split
  ·
   rename_i t ht
   split
   ·
    rename_i hi
    have hi := inb_true.1 hi
    cases hr : readShot (secRows d slot (parts t.toNat)) with
    | none => rfl
    | some s =>
     have h4 := (secRows_shot hr).2.2.2
     rw [h _ (by unfold parts; omega) h4] at hr
     cases hr
   rfl
  rfl
 rfl
theorem shotAt_bad {d : DDisk} {slot : Int} (h : (shelfOk d && slot01 slot) = false) : shotAt d slot = none := by
 unfold shotAt
 rw [h]; rfl
theorem shotAt_short {d : DDisk} {slot : Int} (h : (secRow d slot 0).length < 4) : shotAt d slot = none := by
 unfold shotAt
 rw [List.getElem?_eq_none oM]
 split <;> rfl
theorem shotAt_out {d : DDisk} {slot t : Int} (h : (secRow d slot 0)[3]? = some t) (ht : inb t 1 80 = false) : shotAt d slot = none := by
 unfold shotAt
 rw [h]
 simp [ht]
theorem shotAt_in {d : DDisk} {slot t : Int} (hd : shelfOk d = true) (hs : slot01 slot = true) (h : (secRow d slot 0)[3]? = some t) (ht : inb t 1 80 = true) : shotAt d slot = readShot (secRows d slot (parts t.toNat)) := by
 simp only [shotAt, hd, hs, Bool.and_self, if_true, h, ht]
theorem secRow_len (d : DDisk) (slot : Int) (i : Nat) : (secRow d slot i).length ≤ 48 := by
 unfold secRow readIf
 split
 ·
  rename_i h; exact readOk_row h
 simp
end Go.G8
namespace Go.Proofs.YtlnkggpemdpemaaGreat
open Go.RowKit Go.G8
theorem slotOk_s (w : World) (n : Int) : Calls Tryz.prog 85 #[.int .i64 n] w fun e w' => e = .returned (.bool (slot01 n)) ∧ w = w' := by
 go_enter Tryz.func85, Tryz.ntmps85
 go_wp2_with fail
 all_goals
  go_ret
  simp_all [slot01]
theorem shotAt_k {w : World} {v : Value} {d : DDisk} (h : RdDisk w v d) (slot : Int) : Calls Tryz.prog 63 #[v, .int .i64 slot] w (Ret w fun r w' => ∃ u, r = .tuple #[u, .bool (shotAt d slot).isSome] ∧ ∃ FF, OwShot w.heap.size w' u ((shotAt d slot).getD zShot) FF) := by
 have HRD := Lib.hid h
 obtain ⟨a0, n0, k0, a1, n1, k1, rfl⟩ := h.shape
 obtain ⟨h0, h1⟩ := h.get
 have H0 := Lib.hid h0; have H1 := Lib.hid h1
 clear h h0 h1
 obtain ⟨j0, hj, hy0, hy1, hy2⟩ := info_parts info_Int64S
 obtain ⟨W1, hW1⟩ : ∃ W1, W1 = (w.alloc (.cells #[.slice a0 n0 k0, .slice a1 n1 k1] 33)).alloc (.cells #[.int .i64 0, .int .i64 0, .int .i64 0, .slice none 0 0, .slice none 0 0, .int .i64 0, .int .i64 0, .int .i64 0] 78) := ⟨_, rfl⟩
 have E1 : Ext w W1 := by rw [hW1]; exact ((Ext.refl _).alloc _).alloc _
 have KD1 : Blk W1 w.heap.size 33 #[.slice a0 n0 k0, .slice a1 n1 k1] := by rw [hW1]; exact (Blk.new _ _ _).alloc _
 have KR1 : Blk W1 (w.heap.size + 1) 78 #[.int .i64 0, .int .i64 0, .int .i64 0, .slice none 0 0, .slice none 0 0, .int .i64 0, .int .i64 0, .int .i64 0] := by rw [hW1]; exact Blk.new2 _ _ _ _
 have hs1 : W1.heap.size = w.heap.size + 1 + 1 := by rw [hW1]; simp
 have HW1 := Lib.hid hW1
 clear hW1
 go_enter Tryz.func63, Tryz.ntmps63
 go_wp2_with fail
 rw [← HW1.out]
 refine (shelfOk_c _ _ d.Kept _ d.Wait (H0.out.ext E1) (H1.out.ext E1)).mono ?_
 rintro e w2 ⟨rfl, hx2⟩
 have KD2 := KD1.ext hx2; have KR2 := KR1.ext hx2
 have E2 : Ext w w2 := E1.trans hx2
 have hz2 := hx2.size
 cases hd : shelfOk d
 ·
  have HD := Lib.hid hd
  clear hd
  have hn : shotAt d slot = none := shotAt_bad (by rw [HD.out]; rfl)
  have HN := Lib.hid hn
  clear hn
  obtain ⟨CR2, FR2, LR2⟩ := KR2.cfl
  have CD2 := KD2.cell; have LD2 := KD2.lt
  go_wp2_with fail
  refine bodyPost_ret (by simp [results, Tryz.results63, go_sem, CR2, FR2, LR2]; try rfl) rfl ?_
  refine ⟨_, rfl, ?_, _, by rw [HN.out]; rfl, ?_⟩
  ·
   (repeat (refine Ext.setCell ?_ oM _)); exact E2
  rw [HN.out]
  exact IsShot.ow ⟨_, _, rfl, OwnI.nil _ _ _ _, OwnI.nil _ _ _ _⟩
 have HD := Lib.hid hd
 clear hd
 obtain ⟨CR2, FR2, LR2⟩ := KR2.cfl
 have CD2 := KD2.cell; have LD2 := KD2.lt
 go_wp2_with fail
 refine (slotOk_s _ slot).mono ?_
 rintro e w2' ⟨rfl, rfl⟩
 cases hs : slot01 slot
 ·
  have HS := Lib.hid hs
  clear hs CR2 FR2 CD2
  have hn : shotAt d slot = none := shotAt_bad (by rw [HD.out, HS.out]; rfl)
  have HN := Lib.hid hn
  clear hn
  obtain ⟨CR2, FR2, LR2⟩ := KR2.cfl
  have CD2 := KD2.cell; have LD2 := KD2.lt
  go_wp2_with fail
  refine bodyPost_ret (by simp [results, Tryz.results63, go_sem, CR2, FR2, LR2]; try rfl) rfl ?_
  refine ⟨_, rfl, ?_, _, by rw [HN.out]; rfl, ?_⟩
  ·
   (repeat (refine Ext.setCell ?_ oM _)); exact E2
  rw [HN.out]
  exact IsShot.ow ⟨_, _, rfl, OwnI.nil _ _ _ _, OwnI.nil _ _ _ _⟩
 have HS := Lib.hid hs
 have hsl : slot = 0 ∨ slot = 1 := by simpa [slot01] using hs
 have hsb : 0 ≤ slot ∧ slot ≤ 1 := by omega
 obtain ⟨hsb0, hsb1⟩ := hsb
 clear hs hsl
 go_wp2_with fail
 refine (readAt_k (HRD.out.ext E2) (slot * 4)).mono ?_
 rintro e w3 ⟨_, rfl, hx3, fa, fn, fc, rfl, o3⟩
 rw [show readIf d (slot * 4) = secRow d slot 0 by simp [secRow]] at o3
 have KD3 := KD2.ext hx3; have KR3 := KR2.ext hx3
 have E3 : Ext w w3 := E2.trans hx3
 have hz3 := hx3.size
 obtain ⟨_, _, e9, hfc, hfm, hat⟩ := o3.ints.one
 injection e9 with e1 e2 e3; subst e1; subst e3
 have hsl := secRow_len d slot 0
 unfold maxLen at hfm
 have hfn : fn ≤ 48 := by omega
 have HFN := Lib.hid e2
 clear CR2 FR2 CD2 o3
 by_cases h4 : (fn : Int) < 4
 ·
  have H4 := Lib.hid h4
  clear hat e2
  have hn : shotAt d slot = none := shotAt_short (by have := H4.out; have := HFN.out; omega)
  have HN := Lib.hid hn
  clear hn
  obtain ⟨CR3, FR3, LR3⟩ := KR3.cfl
  have CD3 := KD3.cell; have LD3 := KD3.lt
  go_wp2_with fail
  refine bodyPost_ret (by simp [results, Tryz.results63, go_sem, CR3, FR3, LR3]; try rfl) rfl ?_
  refine ⟨_, rfl, ?_, _, by rw [HN.out]; rfl, ?_⟩
  ·
   (repeat (refine Ext.setCell ?_ oM _)); exact E3
  rw [HN.out]
  exact IsShot.ow ⟨_, _, rfl, OwnI.nil _ _ _ _, OwnI.nil _ _ _ _⟩
 obtain ⟨t, fb, fo, ht, rfl, _, c3⟩ := hat 3 oM
 have HT := Lib.hid ht
 have h4n : 4 ≤ fn := by omega
 have h3n : (3 : Int) < (fn : Int) := by omega
 clear hat e2 ht
 obtain ⟨CR3, FR3, LR3⟩ := KR3.cfl
 have CD3 := KD3.cell; have LD3 := KD3.lt
 go_wp2_with fail
 refine (between_c _ t 1 80).mono ?_
 rintro e w3' ⟨rfl, rfl⟩
 cases hi : inb t 1 80
 ·
  have HI := Lib.hid hi
  clear hi CR3 FR3 CD3
  have hn : shotAt d slot = none := shotAt_out HT.out HI.out
  have HN := Lib.hid hn
  clear hn
  obtain ⟨CR3, FR3, LR3⟩ := KR3.cfl
  have CD3 := KD3.cell; have LD3 := KD3.lt
  go_wp2_with fail
  refine bodyPost_ret (by simp [results, Tryz.results63, go_sem, CR3, FR3, LR3]; try rfl) rfl ?_
  refine ⟨_, rfl, ?_, _, by rw [HN.out]; rfl, ?_⟩
  ·
   (repeat (refine Ext.setCell ?_ oM _)); exact E3
  rw [HN.out]
  exact IsShot.ow ⟨_, _, rfl, OwnI.nil _ _ _ _, OwnI.nil _ _ _ _⟩
 have HI := Lib.hid hi
 obtain ⟨ht0, ht1⟩ := inb_true.1 hi
 obtain ⟨T, rfl⟩ := Int.eq_ofNat_of_zero_le (show 0 ≤ t by omega)
 have hp4 : parts T ≤ 5 := by unfold parts; omega
 clear hi
 go_wp2_with fail
 obtain ⟨W4, hW4⟩ : ∃ W4, W4 = w3.alloc (.cells #[] 49) := ⟨_, rfl⟩
 rw [← hW4]
 have X4 : Ext w3 W4 := by rw [hW4]; exact (Ext.refl _).alloc _
 have O4 : OwnNs w3.heap.size 49 2 0 W4 (.slice (some ⟨w3.heap.size, 0, none⟩) 0 0) [] [] := by rw [hW4]; exact OwnNs.made0 w3 _ _ 0 0 #[] (by simp) dC
 clear hW4 CR3 FR3 CD3
 go_loopw [8, 9] (fun rows part wr => ∃ k : Nat, k ≤ parts T ∧ part = .int .i64 k ∧ Ext w3 wr ∧ ∃ ss, OwnNs w3.heap.size 49 2 0 wr rows (nestInt64S (secRows d slot k)) ss) (fun _ part _ => parts T - (intOf part).toNat)
 case atStart => exact ⟨0, Nat.zero_le _, rfl, X4, [], by simpa [nestInt64S, secRows] using O4⟩
 case round =>
  obtain ⟨k, hk, rfl, he, ss, hown⟩ := hrel
  obtain ⟨ra, rn, rc, rfl⟩ := hown.nest.shape
  have KDr := KD3.ext he; have KRr := KR3.ext he
  have CDr := KDr.cell; have LDr := KDr.lt
  have Er : Ext w wr := E3.trans he
  have hzr := he.size
  have cr := he.cell c3
  have hlen : (nestInt64S (secRows d slot k)).length = k := by simp [nestInt64S, secRows]
  go_wp2_with fail
  refine (partsOf_c _ T oM).mono ?_
  rintro e wr' ⟨rfl, rfl⟩
  by_cases hlt : k < parts T
  ·
   have hOW := Lib.hid hown
   have hfo := hown.foot
   clear hown
   go_wp2_with fail
   refine (readAt_k (HRD.out.ext Er) (slot * 4 + (k : Int))).mono ?_
   rintro e w5 ⟨_, rfl, hx5, qa, qn, qc, rfl, o5⟩
   have hz5 := hx5.size
   go_wp2_with (first | (at_builtin; refine wp_append_row (n := 0) (r := ([], secRow d slot k)) rfl _ _ 30 rfl j0 _ 24 Tryz.underlying30 hj hy0 hy1 hy2 rfl rfl ((hOW.out.ext hx5).ext ((Ext.refl _).alloc _)) w5.heap.size rfl _ (Blk.new _ _ _) rfl rfl (o5.ext ((Ext.refl _).alloc _)) oM (fun q hq => Nat.lt_of_lt_of_le (hfo q hq).2 oM) 1000001 (by rw [hlen]; omega) (by unfold maxLen; omega) oM (by simp; omega) ?_; rotate_right; intro g cp wa hown1 hga hxa _))
   go_roundw
   case rel => exact ⟨k + 1, by omega, by go_num, hxa w3 ((he.trans hx5).alloc _) (Nat.le_refl _), ss ++ [.slice qa qn qc], by have h9 := hown1; rw [hlen] at h9; rw [secRows_succ, nestI_snoc]; exact h9⟩
   case measure => simp [intOf]; omega
  obtain rfl : k = parts T := by omega
  have hrs : RdRows wr (.slice ra rn rc) (secRows d slot (parts T)) := hown.nest
  have HRS := Lib.hid hrs
  clear hrs hown CDr
  go_wp2_with fail
  refine (rowsShot_f HRS.out (by simp [secRows]; omega)).mono ?_
  rintro e w6 ⟨_, rfl, hx6, u, rfl, FF, g6⟩
  obtain ⟨b2, m2, l2, b3, m3, l3, rfl⟩ := g6.rd.shape
  have KR6 := KRr.ext hx6
  obtain ⟨CR6, FR6, LR6⟩ := KR6.cfl
  have hfin : shotAt d slot = readShot (secRows d slot (parts T)) := by
   have := shotAt_in HD.out HS.out HT.out HI.out
   rwa [Int.toNat_natCast] at this
  have HFI := Lib.hid hfin
  clear hfin
  go_wp2_with fail
  refine bodyPost_ret (by simp [results, Tryz.results63, go_sem, CR6, FR6, LR6]; try rfl) rfl ?_
  refine ⟨_, rfl, ?_, _, by rw [HFI.out]; rfl, FF, ?_⟩
  ·
   (repeat (refine Ext.setCell ?_ oM _)); exact Er.trans hx6
  rw [HFI.out]
  exact (g6.keep chgT).mono oM
theorem l18Slot_s (w : World) (n : Int) : Calls Tryz.prog 102 #[.int .i64 n] w fun e w' => e = .returned (.bool (slot01 n)) ∧ w = w' := by
 go_enter Tryz.func102, Tryz.ntmps102
 go_wp2_with fail
 all_goals
  go_ret
  simp_all [slot01]
theorem sShotAt_k {w : World} {v : Value} {d : DDisk} (h : RdDisk w v d) (slot : Int) : Calls Tryz.prog 67 #[v, .int .i64 slot] w (Ret w fun r w' => ∃ u, r = .tuple #[u, .bool (shotAt d slot).isSome] ∧ ∃ FF, OwShot w.heap.size w' u ((shotAt d slot).getD zShot) FF) := by
 have HRD := Lib.hid h
 obtain ⟨a0, n0, k0, a1, n1, k1, rfl⟩ := h.shape
 obtain ⟨h0, h1⟩ := h.get
 have H0 := Lib.hid h0; have H1 := Lib.hid h1
 clear h h0 h1
 obtain ⟨j0, hj, hy0, hy1, hy2⟩ := info_parts info_Int64S
 obtain ⟨W1, hW1⟩ : ∃ W1, W1 = (w.alloc (.cells #[.slice a0 n0 k0, .slice a1 n1 k1] 33)).alloc (.cells #[.int .i64 0, .int .i64 0, .int .i64 0, .slice none 0 0, .slice none 0 0, .int .i64 0, .int .i64 0, .int .i64 0] 78) := ⟨_, rfl⟩
 have E1 : Ext w W1 := by rw [hW1]; exact ((Ext.refl _).alloc _).alloc _
 have KD1 : Blk W1 w.heap.size 33 #[.slice a0 n0 k0, .slice a1 n1 k1] := by rw [hW1]; exact (Blk.new _ _ _).alloc _
 have KR1 : Blk W1 (w.heap.size + 1) 78 #[.int .i64 0, .int .i64 0, .int .i64 0, .slice none 0 0, .slice none 0 0, .int .i64 0, .int .i64 0, .int .i64 0] := by rw [hW1]; exact Blk.new2 _ _ _ _
 have hs1 : W1.heap.size = w.heap.size + 1 + 1 := by rw [hW1]; simp
 have HW1 := Lib.hid hW1
 clear hW1
 go_enter Tryz.func67, Tryz.ntmps67
 go_wp2_with fail
 rw [← HW1.out]
 refine (sShelfOk_c _ _ d.Kept _ d.Wait (H0.out.ext E1) (H1.out.ext E1)).mono ?_
 rintro e w2 ⟨rfl, hx2⟩
 have KD2 := KD1.ext hx2; have KR2 := KR1.ext hx2
 have E2 : Ext w w2 := E1.trans hx2
 have hz2 := hx2.size
 cases hd : shelfOk d
 ·
  have HD := Lib.hid hd
  clear hd
  have hn : shotAt d slot = none := shotAt_bad (by rw [HD.out]; rfl)
  have HN := Lib.hid hn
  clear hn
  obtain ⟨CR2, FR2, LR2⟩ := KR2.cfl
  have CD2 := KD2.cell; have LD2 := KD2.lt
  go_wp2_with fail
  refine bodyPost_ret (by simp [results, Tryz.results67, go_sem, CR2, FR2, LR2]; try rfl) rfl ?_
  refine ⟨_, rfl, ?_, _, by rw [HN.out]; rfl, ?_⟩
  ·
   (repeat (refine Ext.setCell ?_ oM _)); exact E2
  rw [HN.out]
  exact IsShot.ow ⟨_, _, rfl, OwnI.nil _ _ _ _, OwnI.nil _ _ _ _⟩
 have HD := Lib.hid hd
 clear hd
 obtain ⟨CR2, FR2, LR2⟩ := KR2.cfl
 have CD2 := KD2.cell; have LD2 := KD2.lt
 go_wp2_with fail
 refine (l18Slot_s _ slot).mono ?_
 rintro e w2' ⟨rfl, rfl⟩
 cases hs : slot01 slot
 ·
  have HS := Lib.hid hs
  clear hs CR2 FR2 CD2
  have hn : shotAt d slot = none := shotAt_bad (by rw [HD.out, HS.out]; rfl)
  have HN := Lib.hid hn
  clear hn
  obtain ⟨CR2, FR2, LR2⟩ := KR2.cfl
  have CD2 := KD2.cell; have LD2 := KD2.lt
  go_wp2_with fail
  refine bodyPost_ret (by simp [results, Tryz.results67, go_sem, CR2, FR2, LR2]; try rfl) rfl ?_
  refine ⟨_, rfl, ?_, _, by rw [HN.out]; rfl, ?_⟩
  ·
   (repeat (refine Ext.setCell ?_ oM _)); exact E2
  rw [HN.out]
  exact IsShot.ow ⟨_, _, rfl, OwnI.nil _ _ _ _, OwnI.nil _ _ _ _⟩
 have HS := Lib.hid hs
 have hsl : slot = 0 ∨ slot = 1 := by simpa [slot01] using hs
 have hsb : 0 ≤ slot ∧ slot ≤ 1 := by omega
 obtain ⟨hsb0, hsb1⟩ := hsb
 clear hs hsl
 go_wp2_with fail
 obtain ⟨W4, hW4⟩ : ∃ W4, W4 = w2.alloc (.cells #[] 49) := ⟨_, rfl⟩
 rw [← hW4]
 have X4 : Ext w2 W4 := by rw [hW4]; exact (Ext.refl _).alloc _
 have O4 : OwnNs w2.heap.size 49 2 0 W4 (.slice (some ⟨w2.heap.size, 0, none⟩) 0 0) [] [] := by rw [hW4]; exact OwnNs.made0 w2 _ _ 0 0 #[] (by simp) dC
 clear hW4 CR2 FR2 CD2
 go_loopw [6, 7] (fun rows part wr => ∃ k : Nat, k ≤ 4 ∧ part = .int .i64 k ∧ Ext w2 wr ∧ Hid (∀ j, 1 ≤ j → j ≤ k → readShot (secRows d slot j) = none) ∧ ∃ ss, OwnNs w2.heap.size 49 2 0 wr rows (nestInt64S (secRows d slot k)) ss) (fun _ part _ => 4 - (intOf part).toNat)
 case atStart => exact ⟨0, Nat.zero_le _, rfl, X4, Lib.hid (fun j h1 h2 => by omega), [], by simpa [nestInt64S, secRows] using O4⟩
 case round =>
  obtain ⟨k, hk, rfl, he, hno, ss, hown⟩ := hrel
  obtain ⟨ra, rn, rc, rfl⟩ := hown.nest.shape
  have KDr := KD2.ext he; have KRr := KR2.ext he
  have CDr := KDr.cell; have LDr := KDr.lt
  have Er : Ext w wr := E2.trans he
  have hzr := he.size
  have hlen : (nestInt64S (secRows d slot k)).length = k := by simp [nestInt64S, secRows]
  by_cases hlt : (k : Int) < 4
  ·
   have hOW := Lib.hid hown
   have hfo := hown.foot
   clear hown
   go_wp2_with fail
   refine (sReadAt_k (HRD.out.ext Er) (slot * 4 + (k : Int))).mono ?_
   rintro e w5 ⟨_, rfl, hx5, qa, qn, qc, rfl, o5⟩
   have hz5 := hx5.size
   go_wp2_with (first | (at_builtin; refine wp_append_row (n := 0) (r := ([], secRow d slot k)) rfl _ _ 30 rfl j0 _ 24 Tryz.underlying30 hj hy0 hy1 hy2 rfl rfl ((hOW.out.ext hx5).ext ((Ext.refl _).alloc _)) w5.heap.size rfl _ (Blk.new _ _ _) rfl rfl (o5.ext ((Ext.refl _).alloc _)) oM (fun q hq => Nat.lt_of_lt_of_le (hfo q hq).2 oM) 1000001 (by rw [hlen]; omega) (by unfold maxLen; omega) oM (by simp; omega) ?_; rotate_right; intro g cp wa hown1 hga hxa _))
   have hE9 : Ext w2 wa := hxa w2 ((he.trans hx5).alloc _) (Nat.le_refl _)
   have O9 : OwnNs w2.heap.size 49 2 0 wa (.slice (some ⟨g, 0, none⟩) (k + 1) cp) (nestInt64S (secRows d slot (k + 1))) (ss ++ [.slice qa qn qc]) := by have h9 := hown1; rw [hlen] at h9; rw [secRows_succ, nestI_snoc]; exact h9
   have hrs : RdRows wa (.slice (some ⟨g, 0, none⟩) (k + 1) cp) (secRows d slot (k + 1)) := O9.nest
   refine (sRowsShot_f hrs (by simp [secRows]; omega)).mono ?_
   rintro e w6 ⟨_, rfl, hx6, u, rfl, FF, g6⟩
   obtain ⟨b2, m2, l2, b3, m3, l3, rfl⟩ := g6.rd.shape
   have KR6 := KR2.ext (hE9.trans hx6)
   obtain ⟨CR6, FR6, LR6⟩ := KR6.cfl
   have E6 : Ext w w6 := E2.trans (hE9.trans hx6)
   have hz6 := hx6.size
   have hz9 := hE9.size
   cases hr : readShot (secRows d slot (k + 1)) with
   | none =>
    rw [show rsOk (secRows d slot (k + 1)) = false by simp [rsOk, hr]]
    have HR := Lib.hid hr
    clear hr CDr
    go_wp2_with fail
    go_roundw
    case rel => exact ⟨k + 1, by omega, by go_num, (hE9.trans hx6).alloc _, Lib.hid (fun j h1 h2 => by by_cases hj : j = k + 1; (· rw [hj]; exact HR.out); exact hno.out j h1 oM), _, (O9.ext hx6).ext ((Ext.refl _).alloc _)⟩
    case measure => simp [intOf]; omega
   | some sh =>
    rw [show rsOk (secRows d slot (k + 1)) = true by simp [rsOk, hr]]
    have hfin : shotAt d slot = some sh := shotAt_some HD.out HS.out hr
    have hsh : rsShot (secRows d slot (k + 1)) = sh := by simp [rsShot, hr]
    have HFI := Lib.hid hfin; have HSH := Lib.hid hsh
    clear hr hfin hsh CDr
    go_wp2_with fail
    refine bodyPost_ret (by simp [results, Tryz.results67, go_sem, CR6, FR6, LR6]; try rfl) rfl ?_
    refine ⟨_, rfl, ?_, _, by rw [HFI.out]; rfl, FF, ?_⟩
    ·
     exact xT
    rw [HFI.out]
    rw [Option.getD_some, ← HSH.out]
    with_reducible refine OwShot.mono (OwShot.keep g6 ?_) ?_
    ·
     exact chgT
    omega
  obtain rfl : k = 4 := by omega
  have hn : shotAt d slot = none := shotAt_none (fun j h1 h2 => hno.out j h1 h2)
  have HN := Lib.hid hn
  obtain ⟨CRr, FRr, LRr⟩ := KRr.cfl
  clear hn hown CDr
  go_wp2_with fail
  refine bodyPost_ret (by simp [results, Tryz.results67, go_sem, CRr, FRr, LRr]; try rfl) rfl ?_
  refine ⟨_, rfl, ?_, _, by rw [HN.out]; rfl, ?_⟩
  ·
   (repeat (refine Ext.setCell ?_ oM _)); exact Er
  rw [HN.out]
  exact IsShot.ow ⟨_, _, rfl, OwnI.nil _ _ _ _, OwnI.nil _ _ _ _⟩
end Go.Proofs.YtlnkggpemdpemaaGreat
namespace Go.G8
open Go.RowKit Go.Proofs.YtlnkggpemdpemaaGreat
theorem shotAt_ok {d : DDisk} {slot : Int} {s : DShot} (h : shotAt d slot = some s) : shotOk s = true := by
 unfold shotAt at h
 split at h
 ·
  split at h
  ·
   split at h
   ·
    exact (readShot_is h).1
   cases h
  cases h
 cases h
noncomputable def atShot (d : DDisk) (slot : Int) : DShot := (shotAt d slot).getD zShot
noncomputable def atOk (d : DDisk) (slot : Int) : Bool := (shotAt d slot).isSome
theorem atShot_ok {d : DDisk} {slot : Int} (h : atOk d slot = true) : shotOk (atShot d slot) = true := by
 unfold atOk at h; unfold atShot
 cases hs : shotAt d slot with
 | none => rw [hs] at h; cases h
 | some s => exact shotAt_ok hs
noncomputable def newTwo (d : DDisk) : Bool := atOk d 1 && (!atOk d 0 || decide ((atShot d 0).Num < (atShot d 1).Num))
noncomputable def newShot (d : DDisk) : DShot := if newTwo d then atShot d 1 else atShot d 0
noncomputable def newAt (d : DDisk) : Int := if newTwo d then 1 else 0
noncomputable def newOk (d : DDisk) : Bool := if newTwo d then true else atOk d 0
end Go.G8
namespace Go.Proofs.YtlnkggpemdpemaaGreat
open Go.RowKit Go.G8
theorem shotAt_f {w : World} {v : Value} {d : DDisk} (h : RdDisk w v d) (slot : Int) : Calls Tryz.prog 63 #[v, .int .i64 slot] w (Ret w fun r w' => ∃ u, r = .tuple #[u, .bool (atOk d slot)] ∧ ∃ FF, OwShot w.heap.size w' u (atShot d slot) FF) := shotAt_k h slot
theorem sShotAt_f {w : World} {v : Value} {d : DDisk} (h : RdDisk w v d) (slot : Int) : Calls Tryz.prog 67 #[v, .int .i64 slot] w (Ret w fun r w' => ∃ u, r = .tuple #[u, .bool (atOk d slot)] ∧ ∃ FF, OwShot w.heap.size w' u (atShot d slot) FF) := sShotAt_k h slot
theorem newestShot_k {w : World} {v : Value} {d : DDisk} (h : RdDisk w v d) : Calls Tryz.prog 34 #[v] w (Ret w fun r w' => ∃ u, r = .tuple #[u, .int .i64 (newAt d), .bool (newOk d)] ∧ ∃ FF, OwShot w.heap.size w' u (newShot d) FF) := by
 have HRD := Lib.hid h
 obtain ⟨a0, n0, k0, a1, n1, k1, rfl⟩ := h.shape
 clear h
 obtain ⟨W1, hW1⟩ : ∃ W1, W1 = (w.alloc (.cells #[.slice a0 n0 k0, .slice a1 n1 k1] 33)).alloc (.cells #[.int .i64 0, .int .i64 0, .int .i64 0, .slice none 0 0, .slice none 0 0, .int .i64 0, .int .i64 0, .int .i64 0] 78) := ⟨_, rfl⟩
 have E1 : Ext w W1 := by rw [hW1]; exact ((Ext.refl _).alloc _).alloc _
 have KD1 : Blk W1 w.heap.size 33 #[.slice a0 n0 k0, .slice a1 n1 k1] := by rw [hW1]; exact (Blk.new _ _ _).alloc _
 have KR1 : Blk W1 (w.heap.size + 1) 78 #[.int .i64 0, .int .i64 0, .int .i64 0, .slice none 0 0, .slice none 0 0, .int .i64 0, .int .i64 0, .int .i64 0] := by rw [hW1]; exact Blk.new2 _ _ _ _
 have hs1 : W1.heap.size = w.heap.size + 1 + 1 := by rw [hW1]; simp
 have HW1 := Lib.hid hW1
 clear hW1
 go_enter Tryz.func34, Tryz.ntmps34
 go_wp2_with fail
 rw [← HW1.out]
 have CD1 := KD1.cell; have LD1 := KD1.lt
 go_wp2_with fail
 refine (shotAt_f (HRD.out.ext E1) 0).mono ?_
 rintro e w2 ⟨_, rfl, hx2, u, rfl, F2, g2⟩
 obtain ⟨ap2, np2, kp2, ap3, np3, kp3, rfl⟩ := g2.rd.shape
 have E2 : Ext w w2 := E1.trans hx2
 have hz2 := hx2.size
 have KD2 := KD1.ext hx2; have KR2 := KR1.ext hx2
 obtain ⟨P0, hP0⟩ : ∃ P0, P0 = atShot d 0 := ⟨_, rfl⟩
 obtain ⟨o0, ho0⟩ : ∃ o0, o0 = atOk d 0 := ⟨_, rfl⟩
 rw [← hP0] at g2 ⊢
 rw [← ho0]
 have HP0 := Lib.hid hP0; have HO0 := Lib.hid ho0
 clear hP0 ho0 CD1 LD1
 have CD2 := KD2.cell; have LD2 := KD2.lt
 go_wp2_with fail
 obtain ⟨W3, hW3⟩ : ∃ W3, W3 = w2.alloc (.cells #[.int .i64 P0.Num, .int .i64 P0.State.Index, .int .i64 P0.State.Time, .slice ap2 np2 kp2, .slice ap3 np3 kp3, .int .i64 P0.State.Lease.Holder, .int .i64 P0.State.Lease.Epoch, .int .i64 P0.State.Lease.Until] 78) := ⟨_, rfl⟩
 rw [← hW3]
 have KB : Blk W3 w2.heap.size 78 #[.int .i64 P0.Num, .int .i64 P0.State.Index, .int .i64 P0.State.Time, .slice ap2 np2 kp2, .slice ap3 np3 kp3, .int .i64 P0.State.Lease.Holder, .int .i64 P0.State.Lease.Epoch, .int .i64 P0.State.Lease.Until] := by rw [hW3]; exact Blk.new _ _ _
 have X3 : Ext w2 W3 := by rw [hW3]; exact (Ext.refl _).alloc _
 have hs3 : W3.heap.size = w2.heap.size + 1 := by rw [hW3]; simp
 have KD3 := KD2.ext X3; have KR3 := KR2.ext X3
 have g3 := g2.ext X3
 clear hW3 CD2 LD2
 have E3 : Ext w W3 := E2.trans X3
 refine (shotAt_f (HRD.out.ext E3) 1).mono ?_
 rintro e w4 ⟨_, rfl, hx4, u, rfl, F4, g4⟩
 obtain ⟨aq2, nq2, kq2, aq3, nq3, kq3, rfl⟩ := g4.rd.shape
 have E4 : Ext w w4 := E3.trans hx4
 have hz4 := hx4.size
 have KB4 := KB.ext hx4; have KR4 := KR3.ext hx4
 have g5 := g3.ext hx4
 obtain ⟨P1, hP1⟩ : ∃ P1, P1 = atShot d 1 := ⟨_, rfl⟩
 obtain ⟨o1, ho1⟩ : ∃ o1, o1 = atOk d 1 := ⟨_, rfl⟩
 rw [← hP1] at g4 ⊢
 rw [← ho1]
 have HP1 := Lib.hid hP1; have HO1 := Lib.hid ho1
 have hT : newTwo d = (o1 && (!o0 || decide (P0.Num < P1.Num))) := by rw [ho1, hP1, HO0.out, HP0.out]; rfl
 clear hP1 ho1 KB KD3 KD2 KD1 KR1 KR2 KR3
 have CB := KB4.cell; have LB := KB4.lt
 have CR := KR4.cell; have FR := KR4.frozen; have LR := KR4.lt
 cases o1
 ·
  have hT : newTwo d = false := by rw [hT]; rfl
  have e1 : newAt d = 0 := by simp [newAt, hT]
  have e2 : newOk d = o0 := by rw [HO0.out]; simp [newOk, hT]
  have e3 : newShot d = P0 := by rw [HP0.out]; simp [newShot, hT]
  have HE1 := Lib.hid e1; have HE2 := Lib.hid e2; have HE3 := Lib.hid e3
  clear hT e1 e2 e3
  go_wp2_with fail
  refine bodyPost_ret (by simp [results, Tryz.results34, go_sem, CR, FR, LR]; try rfl) rfl ?_
  refine ⟨_, rfl, ?_, _, by rw [HE1.out, HE2.out], F2, ?_⟩
  ·
   exact xT
  rw [HE3.out]
  with_reducible refine OwShot.mono (OwShot.keep g5 ?_) ?_
  ·
   exact chgT
  omega
 cases o0
 ·
  have hT : newTwo d = true := by rw [hT]; rfl
  have e1 : newAt d = 1 := by simp [newAt, hT]
  have e2 : newOk d = true := by simp [newOk, hT]
  have e3 : newShot d = P1 := by rw [HP1.out]; simp [newShot, hT]
  have HE1 := Lib.hid e1; have HE2 := Lib.hid e2; have HE3 := Lib.hid e3
  clear hT e1 e2 e3
  go_wp2_with fail
  refine bodyPost_ret (by simp [results, Tryz.results34, go_sem, CR, FR, LR]; try rfl) rfl ?_
  refine ⟨_, rfl, ?_, _, by rw [HE1.out, HE2.out], F4, ?_⟩
  ·
   exact xT
  rw [HE3.out]
  with_reducible refine OwShot.mono (OwShot.keep g4 ?_) ?_
  ·
   exact chgT
  omega
 by_cases hlt : P0.Num < P1.Num
 ·
  have hT : newTwo d = true := by rw [hT]; simp [hlt]
  have e1 : newAt d = 1 := by simp [newAt, hT]
  have e2 : newOk d = true := by simp [newOk, hT]
  have e3 : newShot d = P1 := by rw [HP1.out]; simp [newShot, hT]
  have HE1 := Lib.hid e1; have HE2 := Lib.hid e2; have HE3 := Lib.hid e3
  clear hT e1 e2 e3
  go_wp2_with fail
  refine bodyPost_ret (by simp [results, Tryz.results34, go_sem, CR, FR, LR]; try rfl) rfl ?_
  refine ⟨_, rfl, ?_, _, by rw [HE1.out, HE2.out], F4, ?_⟩
  ·
   exact xT
  rw [HE3.out]
  with_reducible refine OwShot.mono (OwShot.keep g4 ?_) ?_
  ·
   exact chgT
  omega
 have hT : newTwo d = false := by rw [hT]; simp [hlt]
 have e1 : newAt d = 0 := by simp [newAt, hT]
 have e2 : newOk d = true := by rw [HO0.out]; simp [newOk, hT]
 have e3 : newShot d = P0 := by rw [HP0.out]; simp [newShot, hT]
 have HE1 := Lib.hid e1; have HE2 := Lib.hid e2; have HE3 := Lib.hid e3
 clear hT e1 e2 e3
 go_wp2_with fail
 refine bodyPost_ret (by simp [results, Tryz.results34, go_sem, CR, FR, LR]; try rfl) rfl ?_
 refine ⟨_, rfl, ?_, _, by rw [HE1.out, HE2.out], F2, ?_⟩
 ·
  exact xT
 rw [HE3.out]
 with_reducible refine OwShot.mono (OwShot.keep g5 ?_) ?_
 ·
  exact chgT
 omega
theorem sNewestShot_k {w : World} {v : Value} {d : DDisk} (h : RdDisk w v d) : Calls Tryz.prog 36 #[v] w (Ret w fun r w' => ∃ u, r = .tuple #[u, .int .i64 (newAt d), .bool (newOk d)] ∧ ∃ FF, OwShot w.heap.size w' u (newShot d) FF) := by
 have HRD := Lib.hid h
 obtain ⟨a0, n0, k0, a1, n1, k1, rfl⟩ := h.shape
 clear h
 obtain ⟨W1, hW1⟩ : ∃ W1, W1 = (w.alloc (.cells #[.slice a0 n0 k0, .slice a1 n1 k1] 33)).alloc (.cells #[.int .i64 0, .int .i64 0, .int .i64 0, .slice none 0 0, .slice none 0 0, .int .i64 0, .int .i64 0, .int .i64 0] 78) := ⟨_, rfl⟩
 have E1 : Ext w W1 := by rw [hW1]; exact ((Ext.refl _).alloc _).alloc _
 have KD1 : Blk W1 w.heap.size 33 #[.slice a0 n0 k0, .slice a1 n1 k1] := by rw [hW1]; exact (Blk.new _ _ _).alloc _
 have KR1 : Blk W1 (w.heap.size + 1) 78 #[.int .i64 0, .int .i64 0, .int .i64 0, .slice none 0 0, .slice none 0 0, .int .i64 0, .int .i64 0, .int .i64 0] := by rw [hW1]; exact Blk.new2 _ _ _ _
 have hs1 : W1.heap.size = w.heap.size + 1 + 1 := by rw [hW1]; simp
 have HW1 := Lib.hid hW1
 clear hW1
 go_enter Tryz.func36, Tryz.ntmps36
 go_wp2_with fail
 rw [← HW1.out]
 have CD1 := KD1.cell; have LD1 := KD1.lt
 go_wp2_with fail
 refine (sShotAt_f (HRD.out.ext E1) 0).mono ?_
 rintro e w2 ⟨_, rfl, hx2, u, rfl, F2, g2⟩
 obtain ⟨ap2, np2, kp2, ap3, np3, kp3, rfl⟩ := g2.rd.shape
 have E2 : Ext w w2 := E1.trans hx2
 have hz2 := hx2.size
 have KD2 := KD1.ext hx2; have KR2 := KR1.ext hx2
 obtain ⟨P0, hP0⟩ : ∃ P0, P0 = atShot d 0 := ⟨_, rfl⟩
 obtain ⟨o0, ho0⟩ : ∃ o0, o0 = atOk d 0 := ⟨_, rfl⟩
 rw [← hP0] at g2 ⊢
 rw [← ho0]
 have HP0 := Lib.hid hP0; have HO0 := Lib.hid ho0
 clear hP0 ho0 CD1 LD1
 have CD2 := KD2.cell; have LD2 := KD2.lt
 go_wp2_with fail
 obtain ⟨W3, hW3⟩ : ∃ W3, W3 = w2.alloc (.cells #[.int .i64 P0.Num, .int .i64 P0.State.Index, .int .i64 P0.State.Time, .slice ap2 np2 kp2, .slice ap3 np3 kp3, .int .i64 P0.State.Lease.Holder, .int .i64 P0.State.Lease.Epoch, .int .i64 P0.State.Lease.Until] 78) := ⟨_, rfl⟩
 rw [← hW3]
 have KB : Blk W3 w2.heap.size 78 #[.int .i64 P0.Num, .int .i64 P0.State.Index, .int .i64 P0.State.Time, .slice ap2 np2 kp2, .slice ap3 np3 kp3, .int .i64 P0.State.Lease.Holder, .int .i64 P0.State.Lease.Epoch, .int .i64 P0.State.Lease.Until] := by rw [hW3]; exact Blk.new _ _ _
 have X3 : Ext w2 W3 := by rw [hW3]; exact (Ext.refl _).alloc _
 have hs3 : W3.heap.size = w2.heap.size + 1 := by rw [hW3]; simp
 have KD3 := KD2.ext X3; have KR3 := KR2.ext X3
 have g3 := g2.ext X3
 clear hW3 CD2 LD2
 have E3 : Ext w W3 := E2.trans X3
 refine (sShotAt_f (HRD.out.ext E3) 1).mono ?_
 rintro e w4 ⟨_, rfl, hx4, u, rfl, F4, g4⟩
 obtain ⟨aq2, nq2, kq2, aq3, nq3, kq3, rfl⟩ := g4.rd.shape
 have E4 : Ext w w4 := E3.trans hx4
 have hz4 := hx4.size
 have KB4 := KB.ext hx4; have KR4 := KR3.ext hx4
 have g5 := g3.ext hx4
 obtain ⟨P1, hP1⟩ : ∃ P1, P1 = atShot d 1 := ⟨_, rfl⟩
 obtain ⟨o1, ho1⟩ : ∃ o1, o1 = atOk d 1 := ⟨_, rfl⟩
 rw [← hP1] at g4 ⊢
 rw [← ho1]
 have HP1 := Lib.hid hP1; have HO1 := Lib.hid ho1
 have hT : newTwo d = (o1 && (!o0 || decide (P0.Num < P1.Num))) := by rw [ho1, hP1, HO0.out, HP0.out]; rfl
 clear hP1 ho1 KB KD3 KD2 KD1 KR1 KR2 KR3
 have CB := KB4.cell; have LB := KB4.lt
 have CR := KR4.cell; have FR := KR4.frozen; have LR := KR4.lt
 cases o1
 ·
  have hT : newTwo d = false := by rw [hT]; rfl
  have e1 : newAt d = 0 := by simp [newAt, hT]
  have e2 : newOk d = o0 := by rw [HO0.out]; simp [newOk, hT]
  have e3 : newShot d = P0 := by rw [HP0.out]; simp [newShot, hT]
  have HE1 := Lib.hid e1; have HE2 := Lib.hid e2; have HE3 := Lib.hid e3
  clear hT e1 e2 e3
  go_wp2_with fail
  refine bodyPost_ret (by simp [results, Tryz.results36, go_sem, CR, FR, LR]; try rfl) rfl ?_
  refine ⟨_, rfl, ?_, _, by rw [HE1.out, HE2.out], F2, ?_⟩
  ·
   exact xT
  rw [HE3.out]
  with_reducible refine OwShot.mono (OwShot.keep g5 ?_) ?_
  ·
   exact chgT
  omega
 cases o0
 ·
  have hT : newTwo d = true := by rw [hT]; rfl
  have e1 : newAt d = 1 := by simp [newAt, hT]
  have e2 : newOk d = true := by simp [newOk, hT]
  have e3 : newShot d = P1 := by rw [HP1.out]; simp [newShot, hT]
  have HE1 := Lib.hid e1; have HE2 := Lib.hid e2; have HE3 := Lib.hid e3
  clear hT e1 e2 e3
  go_wp2_with fail
  refine bodyPost_ret (by simp [results, Tryz.results36, go_sem, CR, FR, LR]; try rfl) rfl ?_
  refine ⟨_, rfl, ?_, _, by rw [HE1.out, HE2.out], F4, ?_⟩
  ·
   exact xT
  rw [HE3.out]
  with_reducible refine OwShot.mono (OwShot.keep g4 ?_) ?_
  ·
   exact chgT
  omega
 by_cases hlt : P0.Num < P1.Num
 ·
  have hT : newTwo d = true := by rw [hT]; simp [hlt]
  have e1 : newAt d = 1 := by simp [newAt, hT]
  have e2 : newOk d = true := by simp [newOk, hT]
  have e3 : newShot d = P1 := by rw [HP1.out]; simp [newShot, hT]
  have HE1 := Lib.hid e1; have HE2 := Lib.hid e2; have HE3 := Lib.hid e3
  clear hT e1 e2 e3
  go_wp2_with fail
  refine bodyPost_ret (by simp [results, Tryz.results36, go_sem, CR, FR, LR]; try rfl) rfl ?_
  refine ⟨_, rfl, ?_, _, by rw [HE1.out, HE2.out], F4, ?_⟩
  ·
   exact xT
  rw [HE3.out]
  with_reducible refine OwShot.mono (OwShot.keep g4 ?_) ?_
  ·
   exact chgT
  omega
 have hT : newTwo d = false := by rw [hT]; simp [hlt]
 have e1 : newAt d = 0 := by simp [newAt, hT]
 have e2 : newOk d = true := by rw [HO0.out]; simp [newOk, hT]
 have e3 : newShot d = P0 := by rw [HP0.out]; simp [newShot, hT]
 have HE1 := Lib.hid e1; have HE2 := Lib.hid e2; have HE3 := Lib.hid e3
 clear hT e1 e2 e3
 go_wp2_with fail
 refine bodyPost_ret (by simp [results, Tryz.results36, go_sem, CR, FR, LR]; try rfl) rfl ?_
 refine ⟨_, rfl, ?_, _, by rw [HE1.out, HE2.out], F2, ?_⟩
 ·
  exact xT
 rw [HE3.out]
 with_reducible refine OwShot.mono (OwShot.keep g5 ?_) ?_
 ·
  exact chgT
 omega
end Go.Proofs.YtlnkggpemdpemaaGreat
