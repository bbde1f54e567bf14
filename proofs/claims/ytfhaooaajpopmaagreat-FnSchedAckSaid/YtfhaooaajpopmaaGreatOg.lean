/- Contracts and plain laws: DG3 PB LGm. -/
import Derived.Deep.DeepCutAuto
import Derived.Test.YtfhaooaajpopmaaGreatOf
import Derived.Test.YtfhaooaajpopmaaGreatMp
import Derived.Deep.MidRow
import Derived.Deep.WholeRow
import Derived.Test.YtfhaooaajpopmaaGreatMa
set_option linter.unusedSimpArgs false
set_option linter.unusedVariables false
set_option maxHeartbeats 400000000
set_option maxRecDepth 100000
namespace Go.Proofs.YtfhaooaajpopmaaGreat
open Go.RowKit Go.G8
theorem l21DrawAny_c {B : Nat} {w : World} {g : Nat} (h : Cur B w g) : Calls Tryz.prog 13 #[.pointer (some ⟨g, 0, none⟩)] w (Dr B w g fun v w' => ∃ s : DSched, IsSched w.heap.size w' v s) := by
 have hc0 := h; have E0 : Upd w w [g] := Upd.refl _ _
 have hg0 := h.lt
 go_enter Tryz.func13, Tryz.ntmps13
 go_wp2_with fail
 refine (l21Draw_c (cU B)).mono ?_
 rintro e w1 ⟨_, rfl, X1, hc1, s, HS⟩
 have hz1 := X1.sz
 have E1 : Upd w w1 [g] := X1.up
 have KR1 : Blk w1 w.heap.size 32 #[.int .i64 0, .int .i64 0, .int .i64 0, .int .i64 0, .int .i64 0, .int .i64 0, .int .i64 0, .slice none 0 0, .bool false, .int .i64 0, .int .i64 0, .int .i64 0, .int .i64 0, .int .i64 0, .int .i64 0] := bU X1
 clear X1
 obtain ⟨CR1, FR1, LR1⟩ := KR1.cfl
 obtain ⟨bz, hbz⟩ : ∃ b, b = s.Busy := ⟨_, rfl⟩
 obtain ⟨tq, rfl, HQ⟩ := HS
 rw [← hbz]; clear hbz
 obtain ⟨aq, nq, kq, rfl⟩ := HQ.shape
 have Oq1 : OwnI w.heap.size 72 2 w1 (.slice aq nq kq) (dues s.View.Jobs.Open) := OwnI.mono HQ zT
 clear HQ
 go_wp2_with fail
 refine (l1Once_c (cU B) 6).mono ?_
 rintro e w2 ⟨_, rfl, X2, hc2, b1, rfl⟩
 have hz2 := X2.sz
 have E2 : Upd w w2 [g] := X2.up
 have KR2 := KR1.upv X2
 have KD2 : Blk w2 w1.heap.size 32 #[.int .i64 s.Id, .int .i64 s.Seq, .int .i64 s.View.Jobs.Index, .int .i64 s.View.Jobs.Time, .int .i64 s.View.Jobs.Holder, .int .i64 s.View.Jobs.Epoch, .int .i64 s.View.Jobs.Until, .slice aq nq kq, .bool bz, .int .i64 s.Op.Kind, .int .i64 s.Op.A, .int .i64 s.Op.B, .int .i64 s.Op.C, .int .i64 s.Op.D, .int .i64 s.Index] := bU X2
 have Oq2 : OwnI w.heap.size 72 2 w2 (.slice aq nq kq) (dues s.View.Jobs.Open) := OwnI.drawn (by exact ownR) X2 oM
 clear X2
 clear CR1 FR1 LR1
 obtain ⟨CR2, FR2, LR2⟩ := KR2.cfl
 obtain ⟨CD2, FD2, LD2⟩ := KD2.cfl
 go_upto_if 7 with (fail)
 go_cut [] (fun wx => ∃ z0 : Int, ∃ z1 : Int, ∃ z2 : Int, ∃ z3 : Int, ∃ z4 : Int, ∃ z5 : Int, ∃ z6 : Int, ∃ az : Option Addr, ∃ nz : Nat, ∃ kz : Nat, ∃ zb : Bool, ∃ y0 : Int, ∃ y1 : Int, ∃ y2 : Int, ∃ y3 : Int, ∃ y4 : Int, ∃ zi : Int, ∃ lz : List DDue, Blk wx w1.heap.size 32 #[.int .i64 z0, .int .i64 z1, .int .i64 z2, .int .i64 z3, .int .i64 z4, .int .i64 z5, .int .i64 z6, .slice az nz kz, .bool zb, .int .i64 y0, .int .i64 y1, .int .i64 y2, .int .i64 y3, .int .i64 y4, .int .i64 zi] ∧ OwnI w.heap.size 72 2 wx (.slice az nz kz) (dues lz) ∧ Upd w wx [g] ∧ Cur B wx g ∧ Blk wx w.heap.size 32 #[.int .i64 0, .int .i64 0, .int .i64 0, .int .i64 0, .int .i64 0, .int .i64 0, .int .i64 0, .slice none 0 0, .bool false, .int .i64 0, .int .i64 0, .int .i64 0, .int .i64 0, .int .i64 0, .int .i64 0])
 case first =>
  cases b1
  rotate_left
  ·
   go_wp2_with fail
   refine (l1Below_c (cU B) 6).mono ?_
   rintro e w3 ⟨_, rfl, X3, hc3, m, rfl, pm, qm, rm⟩
   have hz3 := X3.sz
   have E3 : Upd w w3 [g] := X3.up
   have KR3 := KR2.upv X3
   have KD3 := KD2.upv X3
   have Oq3 : OwnI w.heap.size 72 2 w3 (.slice aq nq kq) (dues s.View.Jobs.Open) := OwnI.drawn (by exact ownR) X3 oM
   clear X3
   clear CR2 FR2 LR2 CD2 FD2 LD2
   obtain ⟨CR3, FR3, LR3⟩ := KR3.cfl
   obtain ⟨CD3, FD3, LD3⟩ := KD3.cfl
   have qm := qm dC; clear rm
   obtain rfl | rfl | rfl | rfl | rfl | rfl : m = 0 ∨ m = 1 ∨ m = 2 ∨ m = 3 ∨ m = 4 ∨ m = 5 := by omega
   ·
    go_wp2_with fail
    refine (l1Num_c (cU B) 5 oM oM).mono ?_
    rintro e w4 ⟨_, rfl, X4, hc4, u, rfl⟩
    have hz4 := X4.sz
    have E4 : Upd w w4 [g] := X4.up
    have KR4 := KR3.upv X4
    have KD4 := KD3.upv X4
    have Oq4 : OwnI w.heap.size 72 2 w4 (.slice aq nq kq) (dues s.View.Jobs.Open) := OwnI.drawn (by exact ownR) X4 oM
    clear X4
    clear CR3 FR3 LR3 CD3 FD3 LD3
    obtain ⟨CR4, FR4, LR4⟩ := KR4.cfl
    obtain ⟨CD4, FD4, LD4⟩ := KD4.cfl
    go_wp2_with fail
    go_meet
    case rel => exact ⟨u, s.Seq, s.View.Jobs.Index, s.View.Jobs.Time, s.View.Jobs.Holder, s.View.Jobs.Epoch, s.View.Jobs.Until, aq, nq, kq, bz, s.Op.Kind, s.Op.A, s.Op.B, s.Op.C, s.Op.D, s.Index, s.View.Jobs.Open, bC, (by exact ownR), (by exact updT), (by exact curT), bC⟩
   ·
    go_wp2_with fail
    refine (l1Below_c (cU B) 4).mono ?_
    rintro e w4 ⟨_, rfl, X4, hc4, ui, rfl, pu, qu, ru⟩
    have hz4 := X4.sz
    have E4 : Upd w w4 [g] := X4.up
    have KR4 := KR3.upv X4
    have KD4 := KD3.upv X4
    have KPk4 : Blk w4 w3.heap.size 2 #[.int .i64 (-1), .int .i64 0, .int .i64 2000, .int .i64 2001] := bU X4
    have Oq4 : OwnI w.heap.size 72 2 w4 (.slice aq nq kq) (dues s.View.Jobs.Open) := OwnI.drawn (by exact ownR) X4 oM
    clear X4
    clear CR3 FR3 LR3 CD3 FD3 LD3
    obtain ⟨CR4, FR4, LR4⟩ := KR4.cfl
    obtain ⟨CD4, FD4, LD4⟩ := KD4.cfl
    obtain ⟨CPk4, FPk4, LPk4⟩ := KPk4.cfl
    have qu := qu dC; clear ru
    obtain ⟨u, hu⟩ : ∃ u : Int, w4.cell? ⟨w3.heap.size, ui.toNat, none⟩ = some (.int .i64 u) := by
     rw [KPk4.cell]
     have : ui.toNat < 4 := by omega
     exact pick_int [-1, 0, 2000, 2001] this
    clear CPk4
    go_wp2_with fail
    go_meet
    case rel => exact ⟨s.Id, u, s.View.Jobs.Index, s.View.Jobs.Time, s.View.Jobs.Holder, s.View.Jobs.Epoch, s.View.Jobs.Until, aq, nq, kq, bz, s.Op.Kind, s.Op.A, s.Op.B, s.Op.C, s.Op.D, s.Index, s.View.Jobs.Open, bC, (by exact ownR), (by exact updT), (by exact curT), bC⟩
   ·
    go_wp2_with fail
    refine (l20DrawAny_c (cU B)).mono ?_
    rintro e w4 ⟨_, rfl, X4, hc4, v, hj, hl⟩
    have hz4 := X4.sz
    have E4 : Upd w w4 [g] := X4.up
    have KR4 := KR3.upv X4
    have KD4 := KD3.upv X4
    have Oq4 : OwnI w.heap.size 72 2 w4 (.slice aq nq kq) (dues s.View.Jobs.Open) := OwnI.drawn (by exact ownR) X4 oM
    clear X4
    clear CR3 FR3 LR3 CD3 FD3 LD3
    obtain ⟨CR4, FR4, LR4⟩ := KR4.cfl
    obtain ⟨CD4, FD4, LD4⟩ := KD4.cfl
    obtain ⟨tv, rfl, HQ⟩ := hj
    clear Oq4
    obtain ⟨av, nv, kv, rfl⟩ := HQ.shape
    have Oq4 : OwnI w.heap.size 72 2 w4 (.slice av nv kv) (dues v.Jobs.Open) := OwnI.mono HQ zT
    clear HQ
    go_wp2_with fail
    go_meet
    case rel => exact ⟨s.Id, s.Seq, v.Jobs.Index, v.Jobs.Time, v.Jobs.Holder, v.Jobs.Epoch, v.Jobs.Until, av, nv, kv, bz, s.Op.Kind, s.Op.A, s.Op.B, s.Op.C, s.Op.D, s.Index, v.Jobs.Open, bC, (by exact ownR), (by exact updT), (by exact curT), bC⟩
   ·
    go_wp2_with fail
    go_meet
    case rel => exact ⟨s.Id, s.Seq, s.View.Jobs.Index, s.View.Jobs.Time, s.View.Jobs.Holder, s.View.Jobs.Epoch, s.View.Jobs.Until, aq, nq, kq, (!bz), s.Op.Kind, s.Op.A, s.Op.B, s.Op.C, s.Op.D, s.Index, s.View.Jobs.Open, bC, (by exact ownR), (by exact updT), (by exact curT), bC⟩
   ·
    have hgM : g < w.heap.size := by omega
    go_wp2_with fail
    refine (drawOp_c (cU B) hgM (IsState.nil _ _) _).mono ?_
    rintro e w4 ⟨_, rfl, X4, hc4, oa, ob, oc, od, oe, rfl⟩
    have hz4 := X4.sz
    have E4 : Upd w w4 [g] := X4.up
    have KR4 := KR3.upv X4
    have KD4 := KD3.upv X4
    have Oq4 : OwnI w.heap.size 72 2 w4 (.slice aq nq kq) (dues s.View.Jobs.Open) := OwnI.drawn (by exact ownR) X4 oM
    clear X4
    clear CR3 FR3 LR3 CD3 FD3 LD3
    obtain ⟨CR4, FR4, LR4⟩ := KR4.cfl
    obtain ⟨CD4, FD4, LD4⟩ := KD4.cfl
    go_wp2_with fail
    go_meet
    case rel => exact ⟨s.Id, s.Seq, s.View.Jobs.Index, s.View.Jobs.Time, s.View.Jobs.Holder, s.View.Jobs.Epoch, s.View.Jobs.Until, aq, nq, kq, bz, oa, ob, oc, od, oe, s.Index, s.View.Jobs.Open, bC, (by exact ownR), (by exact updT), (by exact curT), bC⟩
   go_wp2_with fail
   refine (l1Below_c (cU B) 4).mono ?_
   rintro e w4 ⟨_, rfl, X4, hc4, ui, rfl, pu, qu, ru⟩
   have hz4 := X4.sz
   have E4 : Upd w w4 [g] := X4.up
   have KR4 := KR3.upv X4
   have KD4 := KD3.upv X4
   have KPk4 : Blk w4 w3.heap.size 2 #[.int .i64 (-1), .int .i64 0, .int .i64 2000, .int .i64 2001] := bU X4
   have Oq4 : OwnI w.heap.size 72 2 w4 (.slice aq nq kq) (dues s.View.Jobs.Open) := OwnI.drawn (by exact ownR) X4 oM
   clear X4
   clear CR3 FR3 LR3 CD3 FD3 LD3
   obtain ⟨CR4, FR4, LR4⟩ := KR4.cfl
   obtain ⟨CD4, FD4, LD4⟩ := KD4.cfl
   obtain ⟨CPk4, FPk4, LPk4⟩ := KPk4.cfl
   have qu := qu dC; clear ru
   obtain ⟨u, hu⟩ : ∃ u : Int, w4.cell? ⟨w3.heap.size, ui.toNat, none⟩ = some (.int .i64 u) := by
    rw [KPk4.cell]
    have : ui.toNat < 4 := by omega
    exact pick_int [-1, 0, 2000, 2001] this
   clear CPk4
   go_wp2_with fail
   go_meet
   case rel => exact ⟨s.Id, s.Seq, s.View.Jobs.Index, s.View.Jobs.Time, s.View.Jobs.Holder, s.View.Jobs.Epoch, s.View.Jobs.Until, aq, nq, kq, bz, s.Op.Kind, s.Op.A, s.Op.B, s.Op.C, s.Op.D, u, s.View.Jobs.Open, bC, (by exact ownR), (by exact updT), (by exact curT), bC⟩
  go_wp2_with fail
  go_meet
  case rel => exact ⟨s.Id, s.Seq, s.View.Jobs.Index, s.View.Jobs.Time, s.View.Jobs.Holder, s.View.Jobs.Epoch, s.View.Jobs.Until, aq, nq, kq, bz, s.Op.Kind, s.Op.A, s.Op.B, s.Op.C, s.Op.D, s.Index, s.View.Jobs.Open, bC, (by exact ownR), (by exact updT), (by exact curT), bC⟩
 revert wc; intro w3 hcut
 obtain ⟨z0, z1, z2, z3, z4, z5, z6, az, nz, kz, zb, y0, y1, y2, y3, y4, zi, lz, KD3, Oq3, E3, hc3, KR3⟩ := hcut
 have hz3 := E3.size
 clear CR2 FR2 LR2 CD2 FD2 LD2
 obtain ⟨CR3, FR3, LR3⟩ := KR3.cfl
 obtain ⟨CD3, FD3, LD3⟩ := KD3.cfl
 go_wp2_with (refine wpList_store_box rfl 32 (.tmp 2) (.tmp 50) rfl rfl rfl _ (show Blk _ _ 32 #[.int .i64 0, .int .i64 0, .int .i64 0, .int .i64 0, .int .i64 0, .int .i64 0, .int .i64 0, .slice none 0 0, .bool false, .int .i64 0, .int .i64 0, .int .i64 0, .int .i64 0, .int .i64 0, .int .i64 0] from by exact blkT) (by kernel_rfl) rfl (by kernel_rfl) ?_; intro KF)
 generalize hwz : World.setRow _ _ _ = wz at KF ⊢
 have CKF := KF.cell; have FKF := KF.frozen; have LKF := KF.lt
 refine bodyPost_ret (by simp [results, Tryz.results13, go_sem, CKF, FKF, LKF]; try rfl) rfl ?_
 exact ⟨_, rfl, by rw [← hwz]; exact updT, by rw [← hwz]; exact curT, ⟨z0, z1, ⟨⟨z2, z3, z4, z5, z6, lz⟩⟩, zb, ⟨y0, y1, y2, y3, y4⟩, zi⟩, _, rfl, by rw [← hwz]; exact OwnI.mono (show OwnI w.heap.size 72 2 _ (.slice az nz kz) (dues lz) from by exact ownR) oM⟩
end Go.Proofs.YtfhaooaajpopmaaGreat
namespace Go.G8
open Go.RowKit
def Bk (w : World) (g : Nat) (t : TypeId) (L : List Value) : Prop := Blk w g t L.toArray
section
variable {w w' : World} {g : Nat} {t : TypeId} {L A cs C : List Value} {o : Nat} {v : Value}
theorem rangeAt_ext {b : Nat} (h : w.rangeAt b o cs) (x : Ext w w') : w'.rangeAt b o cs := fun j v hv => x.cell (h j v hv)
theorem Bk.range (h : Bk w g t (A ++ (cs ++ C))) (ho : A.length = o) : w.rangeAt g o cs := by
 subst ho
 intro j v hv
 have hj := (List.getElem?_eq_some_iff.1 hv).1
 rw [Blk.cell h]
 simp only [List.getElem?_toArray]
 rw [List.getElem?_append_right oM, Nat.add_sub_cancel_left, List.getElem?_append_left hj, hv]
theorem Bk.cast (h : Bk w g t L) (e : L = C) : Bk w g t C := e ▸ h
theorem Bk.c (h : Bk w g t L) (e : L = C := by simp only [List.append_assoc, List.nil_append, List.cons_append, List.append_nil]) : Bk w g t C := e ▸ h
theorem Bk.ext (h : Bk w g t L) (x : Ext w w') : Bk w' g t L := Blk.ext h x
theorem Bk.lt (h : Bk w g t L) : g < w.heap.size := Blk.lt h
theorem Bk.new (w : World) (t : TypeId) (L : List Value) : Bk (w.alloc (.cells L.toArray t)) w.heap.size t L := Blk.new _ _ _
theorem Bk.alloc (h : Bk w g t L) (o : Obj) : Bk (w.alloc o) g t L := Blk.alloc h o
theorem Bk.there (h : Bk w g t L) {n : Nat} (hl : o + n ≤ L.length) : w.there g o n := fun j hj => by
 rw [Blk.cell h, List.getElem?_toArray, List.getElem?_eq_getElem oM]
 exact ⟨rfl, Blk.frozen h _⟩
theorem Bk.rowFar {b : Nat} (h : Bk w b t L) (hn : b ≠ g) (cells : Array Value) : Bk (w.setRow g cells) b t L := Blk.rowFar h hn cells
theorem setCells_row : ∀ (new A old C : List Value) (w : World), Blk w g t (A ++ (old ++ C)).toArray → old.length = new.length → w.setCells g A.length new = w.setRow g (A ++ (new ++ C)).toArray
 | [], A, old, C, w, h, hl => by
  have : old = [] := List.eq_nil_of_length_eq_zero (by simpa using hl)
  subst this
  rw [World.setCells]
  simp only [List.nil_append] at h ⊢
  have h2 : w.heap[g]? = some (.cells (A ++ C).toArray t (0, 0)) := h
  unfold World.setRow
  have hg : g < w.heap.size := Blk.lt h
  cases w with
  | mk heap rest1 rest2 rest3 =>
   congr 1
   apply Array.ext_getElem?
   intro i
   rw [Array.getElem?_modify]
   split
   ·
    rename_i hi; subst hi
    have h3 : heap[g]? = some (.cells (A ++ C).toArray t (0, 0)) := h2
    rw [h3]; rfl
   rfl
 | v :: new, A, old, C, w, h, hl => by
  cases old with
  | nil => simp at hl
  | cons u old =>
   have hset : w.setCell ⟨g, A.length, none⟩ v = w.setRow g (A ++ (v :: (old ++ C))).toArray := by
    rw [setCell_eq_setRow w g A.length _ t (0, 0) v h]
    congr 1
    simp only [List.setIfInBounds_toArray]
    congr 1
    rw [List.set_append_right _ _ (Nat.le_refl _)]
    simp
   have h1 : Blk (w.setRow g (A ++ (v :: (old ++ C))).toArray) g t ((A ++ [v]) ++ (old ++ C)).toArray := by
    have := Blk.row h (A ++ (v :: (old ++ C))).toArray
    simpa using this
   have ih := setCells_row new (A ++ [v]) old C _ h1 (by simpa using hl)
   rw [World.setCells, hset]
   simp only [List.length_append, List.length_cons, List.length_nil, Nat.zero_add] at ih
   rw [ih, setRow_setRow]
   congr 2
   simp
end
section
variable {P : Program}
theorem run_storeVar_any (w : World) (b o : Nat) (ty : TypeId) (v : Value) (cells : Array Value) (hc : v.cells = cells) (ht : w.there b o cells.size) (hi : (P.info? ty).map (·.size) = some cells.size) (h1 : cells.all (·.oneCell') = true) :
  (storeVar ty ⟨b, o, none⟩ v).run P w = .ok () (w.setCells b o cells.toList) := by
 have := run_storeCells_cells (P := P) b o cells.toList 0 w (fun j hj => by simpa using (ht j (by simpa using hj)).1) (fun j hj => by simpa using (ht j (by simpa using hj)).2)
  (fun v hv => (Array.all_eq_true_iff_forall_mem.1 h1) v (by simpa using hv))
 cases hq : P.info? ty with
 | none => simp [hq] at hi
 | some i =>
  have hs : cells.size = i.size := by simp [hq] at hi; omega
  simp only [Nat.add_zero] at this
  simp [storeVar, sizeOf, typeInfo, hq, hc, hs, this]
theorem wp_store_part {op : Oper} {a : Act} {w : World} {K : Act → World → Prop} {Q : Exit → Act → World → Prop} (ty : TypeId) (x y : Operand) (ho : op.op = .store ty x y)
  (g o : Nat) (v : Value) (new : List Value) (hx : a.eval x = .pointer (some ⟨g, o, none⟩)) (hy : a.eval y = v) (hc : v.cells = new.toArray)
  (t : TypeId) (A old C : List Value) (hb : Bk w g t (A ++ (old ++ C))) (hA : A.length = o) (hl : old.length = new.length) (hi : (P.info? ty).map (·.size) = some new.length) (h1 : ∀ v ∈ new, v.oneCell' = true)
  (h : ∀ wz, wz = w.setRow g (A ++ (new ++ C)).toArray → Bk wz g t (A ++ (new ++ C)) → K (a.put op.dst undef) wz) : op.wp P a w K Q := by
 subst hA
 have hrow := setCells_row new A old C w hb hl
 have hr := run_storeVar_any (P := P) w g A.length ty v new.toArray hc (by have := Bk.there hb (o := A.length) (n := new.length) (by simp; omega); simpa using this) (by simpa using hi) (all_oneCell_toArray h1)
 have hnew : Bk (w.setRow g (A ++ (new ++ C)).toArray) g t (A ++ (new ++ C)) := Blk.row hb _
 unfold Oper.wp execOp
 simp only [ho, hx, hy, Instr.storeAt, Instr.sureAddr, Sem.run_bind, Sem.run_pure, Result.andThen_ok, hr, List.toList_toArray, hrow]
 exact h _ rfl hnew
theorem wpList_store_part {ops : Array Oper} {rest : List Oper} {op : Oper} {a : Act} {w : World} {Q : Exit → Act → World → Prop} (hgd : op.guard = none) (ty : TypeId) (x y : Operand) (ho : op.op = .store ty x y)
  (g o : Nat) (v : Value) (new : List Value) (hx : a.eval x = .pointer (some ⟨g, o, none⟩)) (hy : a.eval y = v) (hc : v.cells = new.toArray)
  (t : TypeId) (A old C : List Value) (hb : Bk w g t (A ++ (old ++ C))) (hA : A.length = o) (hl : old.length = new.length) (hi : (P.info? ty).map (·.size) = some new.length) (h1 : ∀ v ∈ new, v.oneCell' = true)
  (h : ∀ wz, wz = w.setRow g (A ++ (new ++ C)).toArray → Bk wz g t (A ++ (new ++ C)) → wpList P ops Q rest (a.put op.dst undef) wz) : wpList P ops Q (op :: rest) a w :=
 wpList_plain hgd fun _ hK => wp_store_part ty x y ho g o v new hx hy hc t A old C hb hA hl hi h1 fun wz h2 h3 => hK _ _ (h wz h2 h3)
end
theorem wpList_load_midG {P : Program} {ops : Array Oper} {rest : List Oper} {op : Oper} {a : Act} {w : World} {Q : Exit → Act → World → Prop} (hw : Region.wanted op (yielded ops a.tmps) = true) (ty : TypeId) (x : Operand) (ho : op.op = .load ty x)
  (b o : Nat) (hx : a.eval x = .pointer (some ⟨b, o, none⟩)) (cs : List Value) (d : TypeDesc) (hc : w.rangeAt b o cs)
  (hu : P.underlying ty = some d) (hd : d.isRow = true) (hi : (P.info? ty).map (·.size) = some cs.length)
  (h : wpList P ops Q rest (a.put op.dst (.agg cs.toArray)) w) : wpList P ops Q (op :: rest) a w :=
 wpList_step fun _ hK => by rw [if_pos hw]; exact wp_load_mid ty x ho b o hx cs d hc hu hd hi (hK _ _ h)
end Go.G8
