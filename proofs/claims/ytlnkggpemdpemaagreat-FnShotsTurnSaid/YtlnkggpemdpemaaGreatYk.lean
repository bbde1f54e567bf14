/- Contracts and plain laws: Ins Ins2 Ins3 Ins4 Pu Pc Ja Ff Ap1 Ap2 Sp. -/
import Derived.Shelf.RegionOpenPlain
import Derived.Lib.Overlaps
import Derived.Lib.AppendZerosOnto
import Derived.Laws.Externs
import Derived.Test.YtlnkggpemdpemaaGreatYf
import Derived.Test.YtlnkggpemdpemaaGreatYa
import Derived.Test.YtlnkggpemdpemaaGreatYj
import Derived.Laws.EntriesVeiled
import Derived.Deep.DeepCutAuto
set_option linter.unusedSimpArgs false
set_option linter.unusedVariables false
set_option maxHeartbeats 8000000
set_option maxRecDepth 100000
namespace Go.G8
open Go.RowKit
def seg (cur : Array Value) (o : Nat) (vs : List Value) : Array Value := (cur.toList.take o ++ vs ++ cur.toList.drop (o + vs.length)).toArray
section
variable {cur : Array Value} {o : Nat} {vs : List Value}
theorem seg_size (h : o + vs.length ≤ cur.size) : (seg cur o vs).size = cur.size := by
 simp [seg]; omega
theorem seg_lt {j : Nat} (h : o ≤ cur.size) (hj : j < o) : (seg cur o vs)[j]? = cur[j]? := by
 unfold seg
 rw [List.getElem?_toArray, List.append_assoc, List.getElem?_append_left (by simp; omega), List.getElem?_take, if_pos hj, Array.getElem?_toList]
theorem seg_in {j : Nat} (h : o ≤ cur.size) (hj : j < vs.length) : (seg cur o vs)[o + j]? = vs[j]? := by
 unfold seg
 rw [List.getElem?_toArray, List.append_assoc, List.getElem?_append_right (by simp; omega), List.getElem?_append_left (by simp; omega)]
 congr 1; simp; omega
theorem seg_ge {j : Nat} (h : o + vs.length ≤ cur.size) (hj : o + vs.length ≤ j) : (seg cur o vs)[j]? = cur[j]? := by
 unfold seg
 rw [List.getElem?_toArray, List.append_assoc, List.getElem?_append_right (by simp; omega), List.getElem?_append_right (by simp; omega), List.getElem?_drop, Array.getElem?_toList]
 congr 1; simp; omega
end
section
variable {P : Program}
theorem run_copy_n (w : World) (dT sT ty elem : TypeId) (k g o dLen dCap : Nat) (a : Addr) (sLen sCap : Nat) (cur : Array Value) (t : TypeId) (cs : List Value)
  (hu : P.underlying dT = some (.slice elem)) (hs : (P.info? elem).map (·.size) = some k)
  (hg : Blk w g t cur) (hn : cs.length = Nat.min sLen dLen * k)
  (hsrc : ∀ j v, cs[j]? = some v → w.cell? (a.add j) = some v) (hfit : o + cs.length ≤ cur.size) (h1 : ∀ v ∈ cs, v.oneCell' = true) :
  (Builtin.copy_ #[dT, sT] ty #[.slice (some ⟨g, o, none⟩) dLen dCap, .slice (some a) sLen sCap]).run P w = .ok (goInt (Nat.min sLen dLen)) (w.setRow g (seg cur o cs)) := by
 have hl := run_loadCells_list (P := P) w a cs hsrc
 have hst := run_storeCells_at P g o t cs 0 cur w hg (by simpa using hfit) h1
 cases hq : P.info? elem with
 | none => simp [hq] at hs
 | some i =>
  have hi : i.size = k := by simpa [hq] using hs
  simp [Builtin.copy_, run_underlying hu, Builtin.lenOf, Builtin.firstCells, sizeOf, typeInfo, hq, hi, ← hn, hl, hst, seg]
theorem run_clear_n (w : World) (t ty e : TypeId) (i : TypeInfo) (z : Value) (g o n c : Nat) (cur : Array Value) (te : TypeId)
  (hu : P.underlying t = some (.slice e)) (hi : P.info? e = some i) (hz : i.zero = some z) (hg : Blk w g te cur) (hn : 0 < n) (hfit : o + n * z.cells.size ≤ cur.size)
  (h1 : ∀ v ∈ (Builtin.zeroCells z.cells n).toList, v.oneCell' = true) :
  (Builtin.clear_ #[t] ty #[.slice (some ⟨g, o, none⟩) n c]).run P w = .ok (.tuple #[]) (w.setRow g (seg cur o (Builtin.zeroCells z.cells n).toList)) := by
 have hst := run_storeCells_at P g o te (Builtin.zeroCells z.cells n).toList 0 cur w hg (by rw [Array.length_toList, Go.size_zeroCells]; omega) h1
 cases n with
 | zero => omega
 | succ n =>
  simp [Builtin.clear_, run_underlying hu, zeroValue, typeInfo, hi, hz, hst, seg]
theorem wpList_copy_run (w : World) {ops : Array Oper} {rest : List Oper} {o : Oper} {a : Act} {Q : Exit → Act → World → Prop} (hgd : o.guard = none) (d s : Operand) (t t' : TypeId)
  (ho : o.op = .call { callee := .builtin .copy, args := #[d, s], argTypes := #[t, t'] }) (v u : Value) (hd : a.eval d = v) (hs : a.eval s = u) {v' : Value} {w' : World}
  (hr : (Builtin.copy_ #[t, t'] o.type #[v, u]).run P w = .ok v' w') (h : wpList P ops Q rest (a.put o.dst v') w') : wpList P ops Q (o :: rest) a w :=
 wpList_plain hgd fun _ hK => by
  unfold Oper.wp execOp
  simp only [ho, resolve, invoke, builtin, Sem.run_bind, Sem.run_pure, Result.andThen_ok, List.map_toArray, List.map_cons, List.map_nil, hd, hs, hr]
  exact hK _ _ h
theorem wpList_clear_run (w : World) {ops : Array Oper} {rest : List Oper} {o : Oper} {a : Act} {Q : Exit → Act → World → Prop} (hgd : o.guard = none) (d : Operand) (t : TypeId)
  (ho : o.op = .call { callee := .builtin .clear, args := #[d], argTypes := #[t] }) (v : Value) (hd : a.eval d = v) {v' : Value} {w' : World}
  (hr : (Builtin.clear_ #[t] o.type #[v]).run P w = .ok v' w') (h : wpList P ops Q rest (a.put o.dst v') w') : wpList P ops Q (o :: rest) a w :=
 wpList_plain hgd fun _ hK => by
  unfold Oper.wp execOp
  simp only [ho, resolve, invoke, builtin, Sem.run_bind, Sem.run_pure, Result.andThen_ok, List.map_toArray, List.map_cons, List.map_nil, hd, hr]
  exact hK _ _ h
theorem step_copy_run {ops : Array Oper} {o : Oper} {a : Act} {w : World} {K : Act → World → Prop} {Q : Exit → Act → World → Prop} {E : Prop}
  (hg : o.guard = none) (d x : Operand) (dT sT : TypeId) (hop : o.op = Op.call { callee := Callee.builtin Builtin.copy, args := #[d, x], argTypes := #[dT, sT] })
  (v u : Value) (hd : a.eval d = v) (hx : a.eval x = u) {v' : Value} {w' : World} (hr : (Builtin.copy_ #[dT, sT] o.type #[v, u]).run P w = .ok v' w') (hK : K (a.put o.dst v') w') :
  if Region.wanted o (yielded ops a.tmps) = true then Oper.wp P o a w K Q else E := by
 have hw : Region.wanted o (yielded ops a.tmps) = true := by simp [Region.wanted, hg]
 rw [if_pos hw]
 unfold Oper.wp
 simp [execOp, hop, resolve, invoke, builtin, hd, hx, hr, Result.andThen]
 exact hK
theorem step_append_run {ops : Array Oper} {o : Oper} {a : Act} {w : World} {K : Act → World → Prop} {Q : Exit → Act → World → Prop} {E : Prop}
  (hg : o.guard = none) (d x : Operand) (dT sT : TypeId) (hop : o.op = Op.call { callee := Callee.builtin Builtin.append, args := #[d, x], argTypes := #[dT, sT] })
  (v u : Value) (hd : a.eval d = v) (hx : a.eval x = u) {v' : Value} {w' : World} (hr : (Builtin.append_ #[dT, sT] o.type #[v, u]).run P w = .ok v' w') (hK : K (a.put o.dst v') w') :
  if Region.wanted o (yielded ops a.tmps) = true then Oper.wp P o a w K Q else E := by
 have hw : Region.wanted o (yielded ops a.tmps) = true := by simp [Region.wanted, hg]
 rw [if_pos hw]
 unfold Oper.wp
 simp [execOp, hop, resolve, invoke, builtin, hd, hx, hr, Result.andThen]
 exact hK
end
theorem ins_pre0 {cur c1 c2 : Array Value} {xs vs : List Value} {A B N M k : Nat} (hp : Pre cur A xs) (hx : xs.length = N) (hv : vs.length = k) (hB : B = A + k) (hM : M = N + k) (hA : A ≤ N) (hsz : M ≤ cur.size)
  (h : (c1 = seg cur B (xs.drop A) ∧ c2 = seg c1 A vs) ∨ (c1 = seg cur A vs ∧ c2 = seg c1 B (xs.drop A))) :
  c2.size = cur.size ∧ Pre c2 M (xs.take A ++ vs ++ xs.drop A) := by
 have hd : (xs.drop A).length = N - A := by rw [List.length_drop, hx]
 have f1 : B + (xs.drop A).length ≤ cur.size := by omega
 have f2 : A + vs.length ≤ cur.size := by omega
 have main : ∀ j, j < M → c2[j]? = if j < A then cur[j]? else if j < A + k then vs[j - A]? else (xs.drop A)[j - B]? := by
  intro j hj
  rcases h with ⟨rfl, rfl⟩ | ⟨rfl, rfl⟩
  ·
   by_cases h1 : j < A
   ·
    rw [if_pos h1, seg_lt (by rw [seg_size f1]; omega) h1, seg_lt oM oM]
   rw [if_neg h1]
   by_cases h2 : j < A + k
   ·
    rw [if_pos h2]
    have := seg_in (cur := seg cur B (xs.drop A)) (o := A) (vs := vs) (j := j - A) (by rw [seg_size f1]; omega) oM
    rw [show A + (j - A) = j by omega] at this
    exact this
   rw [if_neg h2, seg_ge (by rw [seg_size f1]; omega) oM]
   have := seg_in (cur := cur) (o := B) (vs := xs.drop A) (j := j - B) oM oM
   rw [show B + (j - B) = j by omega] at this
   exact this
  by_cases h1 : j < A
  ·
   rw [if_pos h1, seg_lt (by rw [seg_size f2]; omega) oM, seg_lt oM h1]
  rw [if_neg h1]
  by_cases h2 : j < A + k
  ·
   rw [if_pos h2, seg_lt (by rw [seg_size f2]; omega) oM]
   have := seg_in (cur := cur) (o := A) (vs := vs) (j := j - A) oM oM
   rw [show A + (j - A) = j by omega] at this
   exact this
  rw [if_neg h2]
  have := seg_in (cur := seg cur A vs) (o := B) (vs := xs.drop A) (j := j - B) (by rw [seg_size f2]; omega) oM
  rw [show B + (j - B) = j by omega] at this
  exact this
 refine ⟨?_, fun j hj => ?_⟩
 ·
  rcases h with ⟨rfl, rfl⟩ | ⟨rfl, rfl⟩
  ·
   rw [seg_size (by rw [seg_size f1]; exact f2), seg_size f1]
  rw [seg_size (by rw [seg_size f2]; exact f1), seg_size f2]
 rw [main j hj]
 have ht : (xs.take A).length = A := by rw [List.length_take]; omega
 by_cases h1 : j < A
 ·
  rw [if_pos h1, List.append_assoc, List.getElem?_append_left oM, List.getElem?_take, if_pos h1]
  exact hp j h1
 rw [if_neg h1]
 by_cases h2 : j < A + k
 ·
  rw [if_pos h2, List.append_assoc, List.getElem?_append_right oM, List.getElem?_append_left oM, ht]
 rw [if_neg h2, List.getElem?_append_right (by rw [List.length_append]; omega)]
 rw [List.length_append]
 congr 1
 omega
theorem ins_pre {cur c1 c2 : Array Value} {xs vs : List Value} {i k n : Nat} (hp : Pre cur (i * k) xs) (hx : xs.length = n * k) (hv : vs.length = k) (hi : i ≤ n) (hsz : (n + 1) * k ≤ cur.size)
  (h : (c1 = seg cur ((i + 1) * k) (xs.drop (i * k)) ∧ c2 = seg c1 (i * k) vs) ∨ (c1 = seg cur (i * k) vs ∧ c2 = seg c1 ((i + 1) * k) (xs.drop (i * k)))) :
  c2.size = cur.size ∧ Pre c2 ((n + 1) * k) (xs.take (i * k) ++ vs ++ xs.drop (i * k)) :=
 ins_pre0 hp hx hv (by rw [Nat.add_mul, Nat.one_mul]) (by rw [Nat.add_mul, Nat.one_mul]) (Nat.mul_le_mul_right _ hi) hsz h
end Go.G8
namespace Go.Proofs.YtlnkggpemdpemaaGreat
open Go.RowKit Go.G8
theorem insPair_shift (w : World) (g n c i vb : Nat) (cur : Array Value) (xs vs : List Value) (hG : Blk w g 113 cur) (hcs : cur.size = c * 2) (hm : n ≤ 1000) (hp : Pre cur (n * 2) xs) (hx : xs.length = n * 2)
  (hv : Blk w vb 113 vs.toArray) (hvl : vs.length = 2) (hne : vb ≠ g) (hi : i < n) (hr : n + 1 ≤ c) (h1x : ∀ v ∈ xs, v.oneCell' = true) (h1v : ∀ v ∈ vs, v.oneCell' = true) :
  Calls Tryz.prog 168 #[.slice (some ⟨g, 0, none⟩) n c, .int .i64 i, .slice (some ⟨vb, 0, none⟩) 1 1] w (fun e w' => e = .returned (.slice (some ⟨g, 0, none⟩) (n + 1) c) ∧ w' = w.drew.setRow g (seg (seg cur ((i + 1) * 2) (xs.drop (i * 2))) (i * 2) vs)) := by
 obtain ⟨i0, hi0, hz0, hz1, hz2⟩ := info_parts info_Pair
 have hsz : (Tryz.prog.info? 113).map (·.size) = some 2 := by rw [hi0]; simp [hz1]
 have hdl : (xs.drop (i * 2)).length = (n - i) * 2 := by rw [List.length_drop, hx]; omega
 have hcp1 : ∀ ty dc sc, (Builtin.copy_ #[34, 34] ty #[.slice (some ⟨g, (i + 1) * 2, none⟩) (n - i) dc, .slice (some ⟨g, i * 2, none⟩) (n + 1 - i) sc]).run Tryz.prog w.drew = .ok (goInt (Nat.min (n + 1 - i) (n - i))) (w.drew.setRow g (seg cur ((i + 1) * 2) (xs.drop (i * 2)))) := fun ty dc sc =>
  run_copy_n w.drew 34 34 ty 113 2 g ((i + 1) * 2) (n - i) dc ⟨g, i * 2, none⟩ (n + 1 - i) sc cur 113 (xs.drop (i * 2)) Tryz.underlying34 hsz hG.drew (by rw [hdl]; simp only [Nat.min_def]; split <;> omega)
   (fun j v hj => by
    rw [add_lit0, hG.drew.cell]
    rw [List.getElem?_drop] at hj
    have hlt : i * 2 + j < n * 2 := by rw [← hx]; exact (List.getElem?_eq_some_iff.1 hj).1
    rw [hp _ hlt]; exact hj)
   (by rw [hdl, hcs]; omega) (fun v hv => h1x v (List.mem_of_mem_drop hv))
 have hsg : (seg cur ((i + 1) * 2) (xs.drop (i * 2))).size = cur.size := seg_size (by rw [hdl, hcs]; omega)
 obtain ⟨W1, hW1⟩ : ∃ W1, W1 = w.drew.setRow g (seg cur ((i + 1) * 2) (xs.drop (i * 2))) := ⟨_, rfl⟩
 have hG1 : Blk W1 g 113 (seg cur ((i + 1) * 2) (xs.drop (i * 2))) := by rw [hW1]; exact hG.drew.row _
 have hV1 : Blk W1 vb 113 vs.toArray := by rw [hW1]; exact hv.drew.rowFar hne _
 have hcp2 : ∀ ty dc, (Builtin.copy_ #[34, 34] ty #[.slice (some ⟨g, i * 2, none⟩) (n + 1 - i) dc, .slice (some ⟨vb, 0, none⟩) 1 1]).run Tryz.prog W1 = .ok (goInt (Nat.min 1 (n + 1 - i))) (W1.setRow g (seg (seg cur ((i + 1) * 2) (xs.drop (i * 2))) (i * 2) vs)) := fun ty dc =>
  run_copy_n W1 34 34 ty 113 2 g (i * 2) (n + 1 - i) dc ⟨vb, 0, none⟩ 1 1 _ 113 vs Tryz.underlying34 hsz hG1 (by rw [hvl]; simp only [Nat.min_def]; split <;> omega)
   (fun j v hj => by rw [add_lit0, Nat.zero_add, hV1.cell]; simpa using hj) (by rw [hvl, hsg, hcs]; omega) h1v
 have hsa : w.shape? vb = some (113, 2) := by
  unfold Blk at hv; simp [World.shape?, hv, hvl]
 have hsb : w.shape? g = some (113, c * 2) := by
  unfold Blk at hG; simp [World.shape?, hG, hcs]
 have hov : ∀ lb cb, (callFunc 184 #[.slice (some ⟨vb, 0, none⟩) 1 1, .slice (some ⟨g, (i + 1) * 2, none⟩) lb cb]).run Tryz.prog w = .ok (.value (.bool false)) w := fun lb cb => by
  rw [run_callFunc_extern Tryz.func184 (by kernel_rfl) (by kernel_rfl) (by kernel_rfl) (e := Extern.SlicesOverlaps.overlaps #[34, 34] #[4]) (by kernel_rfl),
   Lib.run_overlaps_apart w 34 4 113 Tryz.underlying34 2 (fun w => by kernel_rfl) ⟨vb, 0, none⟩ ⟨g, (i + 1) * 2, none⟩ 1 1 lb cb hne 113 113 2 (c * 2) hsa hsb oM (hv.frozen 0) (hv.frozen 2)]
  rfl
 have hw1 : IntKind.i64.wrap ((i : Int) + 1) = (i : Int) + 1 := by rw [IntKind.wrap_i64]; omega
 have hw2 : IntKind.i64.wrap ((n : Int) + 1) = (n : Int) + 1 := by rw [IntKind.wrap_i64]; omega
 have hb1 : (0 : Int) ≤ (i : Int) + 1 := by omega
 have htn : ((i : Int) + 1).toNat = i + 1 := by omega
 have htm : ((n : Int) + 1).toNat = n + 1 := by omega
 have hb2 : ¬ (c = i + 1) := by omega
 have hb3 : (i : Int) ≤ (n : Int) + 1 := by omega
 have hb4 : ¬ (c = i) := by omega
 have mixed : Tryz.prog.follows .mixedOrders = true := by kernel_rfl
 have hb5 : ¬ ((i : Int) = (n : Int)) := by omega
 have hb6 : (i : Int) ≤ (n : Int) := by omega
 have hb7 : i ≤ n := by omega
 have HG := Lib.hid hG; have HV := Lib.hid hv
 rw [hW1] at hcp2
 clear hsa hsb hdl hG hv hp
 go_enter Tryz.func168, Tryz.ntmps168
 go_wp2_with (simp only [hov])
 go_region_law_o (refine step_copy_run rfl _ _ 34 34 rfl _ _ (by simp [Act.eval, Act.put]) (by simp [Act.eval, Act.put]) (hcp1 _ _ _) ?_)
 go_wp2_with (at_builtin; refine wpList_copy_run _ rfl _ _ 34 34 rfl _ _ rfl rfl (hcp2 _ _) ?_)
 go_ret
 exact ⟨rfl, by rw [setRow_setRow]⟩
theorem insJob_shift (w : World) (g n c i vb : Nat) (cur : Array Value) (xs vs : List Value) (hG : Blk w g 95 cur) (hcs : cur.size = c * 5) (hm : n ≤ 1000) (hp : Pre cur (n * 5) xs) (hx : xs.length = n * 5)
  (hv : Blk w vb 95 vs.toArray) (hvl : vs.length = 5) (hne : vb ≠ g) (hi : i < n) (hr : n + 1 ≤ c) (h1x : ∀ v ∈ xs, v.oneCell' = true) (h1v : ∀ v ∈ vs, v.oneCell' = true) :
  Calls Tryz.prog 173 #[.slice (some ⟨g, 0, none⟩) n c, .int .i64 i, .slice (some ⟨vb, 0, none⟩) 1 1] w (fun e w' => e = .returned (.slice (some ⟨g, 0, none⟩) (n + 1) c) ∧ w' = w.drew.setRow g (seg (seg cur ((i + 1) * 5) (xs.drop (i * 5))) (i * 5) vs)) := by
 obtain ⟨i0, hi0, hz0, hz1, hz2⟩ := info_parts info_Job
 have hsz : (Tryz.prog.info? 95).map (·.size) = some 5 := by rw [hi0]; simp [hz1]
 have hdl : (xs.drop (i * 5)).length = (n - i) * 5 := by rw [List.length_drop, hx]; omega
 have hcp1 : ∀ ty dc sc, (Builtin.copy_ #[35, 35] ty #[.slice (some ⟨g, (i + 1) * 5, none⟩) (n - i) dc, .slice (some ⟨g, i * 5, none⟩) (n + 1 - i) sc]).run Tryz.prog w.drew = .ok (goInt (Nat.min (n + 1 - i) (n - i))) (w.drew.setRow g (seg cur ((i + 1) * 5) (xs.drop (i * 5)))) := fun ty dc sc =>
  run_copy_n w.drew 35 35 ty 95 5 g ((i + 1) * 5) (n - i) dc ⟨g, i * 5, none⟩ (n + 1 - i) sc cur 95 (xs.drop (i * 5)) Tryz.underlying35 hsz hG.drew (by rw [hdl]; simp only [Nat.min_def]; split <;> omega)
   (fun j v hj => by
    rw [add_lit0, hG.drew.cell]
    rw [List.getElem?_drop] at hj
    have hlt : i * 5 + j < n * 5 := by rw [← hx]; exact (List.getElem?_eq_some_iff.1 hj).1
    rw [hp _ hlt]; exact hj)
   (by rw [hdl, hcs]; omega) (fun v hv => h1x v (List.mem_of_mem_drop hv))
 have hsg : (seg cur ((i + 1) * 5) (xs.drop (i * 5))).size = cur.size := seg_size (by rw [hdl, hcs]; omega)
 obtain ⟨W1, hW1⟩ : ∃ W1, W1 = w.drew.setRow g (seg cur ((i + 1) * 5) (xs.drop (i * 5))) := ⟨_, rfl⟩
 have hG1 : Blk W1 g 95 (seg cur ((i + 1) * 5) (xs.drop (i * 5))) := by rw [hW1]; exact hG.drew.row _
 have hV1 : Blk W1 vb 95 vs.toArray := by rw [hW1]; exact hv.drew.rowFar hne _
 have hcp2 : ∀ ty dc, (Builtin.copy_ #[35, 35] ty #[.slice (some ⟨g, i * 5, none⟩) (n + 1 - i) dc, .slice (some ⟨vb, 0, none⟩) 1 1]).run Tryz.prog W1 = .ok (goInt (Nat.min 1 (n + 1 - i))) (W1.setRow g (seg (seg cur ((i + 1) * 5) (xs.drop (i * 5))) (i * 5) vs)) := fun ty dc =>
  run_copy_n W1 35 35 ty 95 5 g (i * 5) (n + 1 - i) dc ⟨vb, 0, none⟩ 1 1 _ 95 vs Tryz.underlying35 hsz hG1 (by rw [hvl]; simp only [Nat.min_def]; split <;> omega)
   (fun j v hj => by rw [add_lit0, Nat.zero_add, hV1.cell]; simpa using hj) (by rw [hvl, hsg, hcs]; omega) h1v
 have hsa : w.shape? vb = some (95, 5) := by
  unfold Blk at hv; simp [World.shape?, hv, hvl]
 have hsb : w.shape? g = some (95, c * 5) := by
  unfold Blk at hG; simp [World.shape?, hG, hcs]
 have hov : ∀ lb cb, (callFunc 188 #[.slice (some ⟨vb, 0, none⟩) 1 1, .slice (some ⟨g, (i + 1) * 5, none⟩) lb cb]).run Tryz.prog w = .ok (.value (.bool false)) w := fun lb cb => by
  rw [run_callFunc_extern Tryz.func188 (by kernel_rfl) (by kernel_rfl) (by kernel_rfl) (e := Extern.SlicesOverlaps.overlaps #[35, 35] #[4]) (by kernel_rfl),
   Lib.run_overlaps_apart w 35 4 95 Tryz.underlying35 5 (fun w => by kernel_rfl) ⟨vb, 0, none⟩ ⟨g, (i + 1) * 5, none⟩ 1 1 lb cb hne 95 95 5 (c * 5) hsa hsb oM (hv.frozen 0) (hv.frozen 5)]
  rfl
 have hw1 : IntKind.i64.wrap ((i : Int) + 1) = (i : Int) + 1 := by rw [IntKind.wrap_i64]; omega
 have hw2 : IntKind.i64.wrap ((n : Int) + 1) = (n : Int) + 1 := by rw [IntKind.wrap_i64]; omega
 have hb1 : (0 : Int) ≤ (i : Int) + 1 := by omega
 have htn : ((i : Int) + 1).toNat = i + 1 := by omega
 have htm : ((n : Int) + 1).toNat = n + 1 := by omega
 have hb2 : ¬ (c = i + 1) := by omega
 have hb3 : (i : Int) ≤ (n : Int) + 1 := by omega
 have hb4 : ¬ (c = i) := by omega
 have mixed : Tryz.prog.follows .mixedOrders = true := by kernel_rfl
 have hb5 : ¬ ((i : Int) = (n : Int)) := by omega
 have hb6 : (i : Int) ≤ (n : Int) := by omega
 have hb7 : i ≤ n := by omega
 have HG := Lib.hid hG; have HV := Lib.hid hv
 rw [hW1] at hcp2
 clear hsa hsb hdl hG hv hp
 go_enter Tryz.func173, Tryz.ntmps173
 go_wp2_with (simp only [hov])
 go_region_law_o (refine step_copy_run rfl _ _ 35 35 rfl _ _ (by simp [Act.eval, Act.put]) (by simp [Act.eval, Act.put]) (hcp1 _ _ _) ?_)
 go_wp2_with (at_builtin; refine wpList_copy_run _ rfl _ _ 35 35 rfl _ _ rfl rfl (hcp2 _ _) ?_)
 go_ret
 exact ⟨rfl, by rw [setRow_setRow]⟩
theorem insPair_end (w : World) (B : Nat) (s : Value) (xs vs : List Int) (n vb : Nat) (ho : OwnI B 113 2 w s xs) (hx : xs.length = n * 2) (hn : n ≤ 1000) (hv : Blk w vb 113 (vs.map (Value.int .i64)).toArray) (hvl : vs.length = 2) (hB : B ≤ w.heap.size) :
  Calls Tryz.prog 168 #[s, .int .i64 n, .slice (some ⟨vb, 0, none⟩) 1 1] w (fun e w' => ∃ r, e = .returned r ∧ OwnI B 113 2 w' r (xs ++ vs) ∧ w.grownBy w' s.ownBlock) := by
 obtain ⟨i0, hi, hz0, hz1, hz2⟩ := info_parts info_Pair
 have HO := Lib.hid ho
 obtain ⟨ta, tn, tc, rfl, hl0, hc0, hm0, _⟩ := Own.open_ ho
 have htn : tn = n := by simp only [List.length_map] at hl0; omega
 subst htn
 clear hl0 ho
 unfold maxLen at hm0
 go_enter Tryz.func168, Tryz.ntmps168
 by_cases hct : tc = tn
 all_goals
  go_wp2_with (first | (at_builtin; refine wp_append_at rfl (.tmp 23) (.tmp 24) 34 rfl 113 i0 _ 2 16 Tryz.underlying34 hi hz0 hz1 hz2 rfl dC B _ _ rfl HO.out ⟨vb, 0, none⟩ 1 1 (vs.map (.int .i64)) rfl (by simp [hvl]) (fun j u hu => by rw [add_lit0, Nat.zero_add, hv.cell]; simpa using hu) (ints_oneCell _ _) 1001 (by simp only [List.length_map]; omega) (by unfold maxLen; omega) oM hB ?_; rotate_right; intro v1 wa hown1 hga _))
  go_ret
  exact ⟨_, rfl, by simpa [OwnI] using hown1, hga⟩
theorem insJob_end (w : World) (B : Nat) (s : Value) (xs vs : List Int) (n vb : Nat) (ho : OwnI B 95 5 w s xs) (hx : xs.length = n * 5) (hn : n ≤ 1000) (hv : Blk w vb 95 (vs.map (Value.int .i64)).toArray) (hvl : vs.length = 5) (hB : B ≤ w.heap.size) :
  Calls Tryz.prog 173 #[s, .int .i64 n, .slice (some ⟨vb, 0, none⟩) 1 1] w (fun e w' => ∃ r, e = .returned r ∧ OwnI B 95 5 w' r (xs ++ vs) ∧ w.grownBy w' s.ownBlock) := by
 obtain ⟨i0, hi, hz0, hz1, hz2⟩ := info_parts info_Job
 have HO := Lib.hid ho
 obtain ⟨ta, tn, tc, rfl, hl0, hc0, hm0, _⟩ := Own.open_ ho
 have htn : tn = n := by simp only [List.length_map] at hl0; omega
 subst htn
 clear hl0 ho
 unfold maxLen at hm0
 go_enter Tryz.func173, Tryz.ntmps173
 by_cases hct : tc = tn
 all_goals
  go_wp2_with (first | (at_builtin; refine wp_append_at rfl (.tmp 23) (.tmp 24) 35 rfl 95 i0 _ 5 40 Tryz.underlying35 hi hz0 hz1 hz2 rfl dC B _ _ rfl HO.out ⟨vb, 0, none⟩ 1 1 (vs.map (.int .i64)) rfl (by simp [hvl]) (fun j u hu => by rw [add_lit0, Nat.zero_add, hv.cell]; simpa using hu) (ints_oneCell _ _) 1001 (by simp only [List.length_map]; omega) (by unfold maxLen; omega) oM hB ?_; rotate_right; intro v1 wa hown1 hga _))
  go_ret
  exact ⟨_, rfl, by simpa [OwnI] using hown1, hga⟩
end Go.Proofs.YtlnkggpemdpemaaGreat
namespace Go.G8
open Go.RowKit
theorem wpList_append_run {P : Program} (w : World) {ops : Array Oper} {rest : List Oper} {o : Oper} {a : Act} {Q : Exit → Act → World → Prop} (hgd : o.guard = none) (d s : Operand) (t t' : TypeId)
  (ho : o.op = .call { callee := .builtin .append, args := #[d, s], argTypes := #[t, t'] }) (v u : Value) (hd : a.eval d = v) (hs : a.eval s = u) {v' : Value} {w' : World}
  (hr : (Builtin.append_ #[t, t'] o.type #[v, u]).run P w = .ok v' w') (h : wpList P ops Q rest (a.put o.dst v') w') : wpList P ops Q (o :: rest) a w :=
 wpList_plain hgd fun _ hK => by
  unfold Oper.wp execOp
  simp only [ho, resolve, invoke, builtin, Sem.run_bind, Sem.run_pure, Result.andThen_ok, List.map_toArray, List.map_cons, List.map_nil, hd, hs, hr]
  exact hK _ _ h
end Go.G8
namespace Go.Proofs.YtlnkggpemdpemaaGreat
open Go.RowKit Go.G8
theorem insPair_grow (w : World) (B g n i vb : Nat) (cur : Array Value) (xs vs : List Value) (hG : Blk w g 113 cur) (hn : n ≤ 1000) (hp : Pre cur (n * 2) xs) (hx : xs.length = n * 2)
  (hv : Blk w vb 113 vs.toArray) (hvl : vs.length = 2) (hi : i < n) (h1x : ∀ v ∈ xs, v.oneCell' = true) (h1v : ∀ v ∈ vs, v.oneCell' = true) (hB : B ≤ w.heap.size) :
  Calls Tryz.prog 168 #[.slice (some ⟨g, 0, none⟩) n n, .int .i64 i, .slice (some ⟨vb, 0, none⟩) 1 1] w (fun e w' => ∃ r, e = .returned r ∧ Own B 113 2 w' r (xs.take (i * 2) ++ vs ++ xs.drop (i * 2)) ∧ Ext w w') := by
 obtain ⟨i0, hi0, hz0, hz1, hz2⟩ := info_parts info_Pair
 have hsz : (Tryz.prog.info? 113).map (·.size) = some 2 := by rw [hi0]; simp [hz1]
 have hgl := hG.lt; have hvbl := hv.lt
 have hold : (Builtin.firstCells i0.size i (.slice (some ⟨g, 0, none⟩) i n)).run Tryz.prog w.drew = .ok (xs.take (i * 2)).toArray w.drew := by
  rw [hz1]
  exact run_firstCells_some w.drew 2 i ⟨g, 0, none⟩ i n (xs.take (i * 2)) (by rw [List.length_take]; omega) (fun j v hj => by
   rw [add_lit0, Nat.zero_add, hG.drew.cell]
   rw [List.getElem?_take] at hj
   split at hj
   ·
    rw [hp j oM]; exact hj
   cases hj)
 have hik : i + (n + 1 - i) = n + 1 := by omega
 obtain ⟨C, hC⟩ : ∃ C, C = grownCap w (n + 1) n 113 := ⟨_, rfl⟩
 have hCg : n + 1 ≤ C := by rw [hC]; exact grownCap_ge _ _ _ _
 have hCm : C ≤ 9223372036854775807 := by rw [hC]; exact grownCap_le_maxLen _ _ _ _ (by unfold maxLen; omega)
 obtain ⟨G, hGs⟩ : ∃ G, G = w.heap.size := ⟨_, rfl⟩
 obtain ⟨CUR, hCUR⟩ : ∃ CUR, CUR = ((xs.take (i * 2)).toArray ++ Builtin.zeroCells (Value.cells (.agg #[.int .i64 0, .int .i64 0])) (n + 1 - i) ++ Builtin.zeroCells (Value.cells (.agg #[.int .i64 0, .int .i64 0])) (C - (n + 1))) := ⟨_, rfl⟩
 obtain ⟨W1, hW1⟩ : ∃ W1, W1 = w.drew.alloc (.cells CUR 113) := ⟨_, rfl⟩
 have hrz : ∀ ty, (Builtin.append_ #[34, 3] ty #[.slice (some ⟨g, 0, none⟩) i n, .int .i64 ((n : Int) + 1 - (i : Int))]).run Tryz.prog w = .ok (.slice (some ⟨G, 0, none⟩) (n + 1) C) W1 := fun ty => by
  have h := Lib.run_append_grow_zeros w 34 3 ty 113 i0 _ .i64 .i64 Tryz.underlying34 Tryz.underlying3 hi0 hz0 (some ⟨g, 0, none⟩) i n (xs.take (i * 2)) hold (n + 1 - i) oM oM oM oM (by rw [hz2]; omega) (by rw [hz2, hik]; exact growslice_fits oM oM)
  rw [hik, ← hC, ← hCUR, ← hW1, ← hGs] at h
  rw [show (n : Int) + 1 - (i : Int) = ((n + 1 - i : Nat) : Int) by omega]
  exact h
 have zs : (Value.cells (.agg #[.int .i64 0, .int .i64 0])).size = 2 := by rfl
 have hCs : CUR.size = C * 2 := by
  rw [hCUR]
  simp only [Array.size_append, Go.size_zeroCells, zs, List.size_toArray, List.length_take, hx]
  rw [Nat.min_eq_left oM]
  omega
 have hG1 : Blk W1 G 113 CUR := by rw [hW1, hGs]; exact Blk.new w.drew _ _
 have hg1 : Blk W1 g 113 cur := by rw [hW1]; exact hG.drew.alloc _
 have hV1 : Blk W1 vb 113 vs.toArray := by rw [hW1]; exact hv.drew.alloc _
 have X1 : Ext w W1 := by rw [hW1]; exact (Ext.refl w).drew.alloc _
 have hdl : (xs.drop (i * 2)).length = (n - i) * 2 := by rw [List.length_drop, hx]; omega
 obtain ⟨W2, hW2⟩ : ∃ W2, W2 = W1.setRow G (seg CUR (i * 2) vs) := ⟨_, rfl⟩
 have hcp1 : ∀ ty dc, (Builtin.copy_ #[34, 34] ty #[.slice (some ⟨G, i * 2, none⟩) (n + 1 - i) dc, .slice (some ⟨vb, 0, none⟩) 1 1]).run Tryz.prog W1 = .ok (goInt (Nat.min 1 (n + 1 - i))) W2 := fun ty dc => by
  rw [hW2]
  exact run_copy_n W1 34 34 ty 113 2 G (i * 2) (n + 1 - i) dc ⟨vb, 0, none⟩ 1 1 _ 113 vs Tryz.underlying34 hsz hG1 (by rw [hvl]; simp only [Nat.min_def]; split <;> omega)
   (fun j v hj => by rw [add_lit0, Nat.zero_add, hV1.cell]; simpa using hj) (by rw [hvl, hCs]; omega) h1v
 have hsg : (seg CUR (i * 2) vs).size = CUR.size := seg_size (by rw [hvl, hCs]; omega)
 have hG2 : Blk W2 G 113 (seg CUR (i * 2) vs) := by rw [hW2]; exact hG1.row _
 have hg2 : Blk W2 g 113 cur := by rw [hW2]; exact hg1.rowFar oM _
 have X2 : Ext w W2 := by rw [hW2]; exact X1.setRow oM _
 obtain ⟨W3, hW3⟩ : ∃ W3, W3 = W2.drew.setRow G (seg (seg CUR (i * 2) vs) ((i + 1) * 2) (xs.drop (i * 2))) := ⟨_, rfl⟩
 have hcp2 : ∀ ty dc sc, (Builtin.copy_ #[34, 34] ty #[.slice (some ⟨G, (i + 1) * 2, none⟩) (n - i) dc, .slice (some ⟨g, i * 2, none⟩) (n - i) sc]).run Tryz.prog W2.drew = .ok (goInt (Nat.min (n - i) (n - i))) W3 := fun ty dc sc => by
  rw [hW3]
  exact run_copy_n W2.drew 34 34 ty 113 2 G ((i + 1) * 2) (n - i) dc ⟨g, i * 2, none⟩ (n - i) sc _ 113 (xs.drop (i * 2)) Tryz.underlying34 hsz hG2.drew (by rw [hdl]; simp only [Nat.min_def]; split <;> omega)
   (fun j v hj => by
    rw [add_lit0, hg2.drew.cell]
    rw [List.getElem?_drop] at hj
    have hlt : i * 2 + j < n * 2 := by rw [← hx]; exact (List.getElem?_eq_some_iff.1 hj).1
    rw [hp _ hlt]; exact hj)
   (by rw [hdl, hsg, hCs]; omega) (fun v hv => h1x v (List.mem_of_mem_drop hv))
 have hG3 : Blk W3 G 113 (seg (seg CUR (i * 2) vs) ((i + 1) * 2) (xs.drop (i * 2))) := by rw [hW3]; exact hG2.drew.row _
 have X3 : Ext w W3 := by rw [hW3]; exact (X2.drew).setRow oM _
 have hP0 : Pre CUR (i * 2) xs := fun j hj => by
  rw [hCUR, Array.getElem?_append_left (by simp only [Array.size_append, Go.size_zeroCells, zs, List.size_toArray, List.length_take, hx]; omega), Array.getElem?_append_left (by simp only [List.size_toArray, List.length_take, hx]; omega)]
  simp [List.getElem?_take, hj]
 have hpre := ins_pre (n := n) hP0 hx hvl oM (by rw [hCs]; exact Nat.mul_le_mul_right _ hCg) (.inr ⟨rfl, rfl⟩)
 have hown : Own B 113 2 W3 (.slice (some ⟨G, 0, none⟩) (n + 1) C) (xs.take (i * 2) ++ vs ++ xs.drop (i * 2)) :=
  Own.of_blk hG3 oM (by rw [hpre.1, hCs]) (by simp only [List.length_append, List.length_take, hdl, hvl, hx]; omega) hCg (by unfold maxLen; omega) hpre.2
 have HO := Lib.hid hown
 have hw1 : IntKind.i64.wrap ((i : Int) + 1) = (i : Int) + 1 := by rw [IntKind.wrap_i64]; omega
 have hw2 : IntKind.i64.wrap ((n : Int) + 1) = (n : Int) + 1 := by rw [IntKind.wrap_i64]; omega
 have hw3 : IntKind.i64.wrap ((n : Int) + 1 - (i : Int)) = (n : Int) + 1 - (i : Int) := by rw [IntKind.wrap_i64]; omega
 have hb1 : (0 : Int) ≤ (i : Int) + 1 := by omega
 have htn : ((i : Int) + 1).toNat = i + 1 := by omega
 have hb2 : ¬ (C = i + 1) := by omega
 have hb3 : (i : Int) ≤ (n : Int) + 1 := by omega
 have hb4 : ¬ (C = i) := by omega
 have hb8 : ¬ (n = i) := by omega
 have hb9 : (i : Int) + 1 ≤ (n : Int) + 1 := by omega
 have hb10 : (n : Int) < (n : Int) + 1 := by omega
 have mixed : Tryz.prog.follows .mixedOrders = true := by kernel_rfl
 have hb5 : ¬ ((i : Int) = (n : Int)) := by omega
 have hb6 : (i : Int) ≤ (n : Int) := by omega
 have hb7 : i ≤ n := by omega
 clear hold hik hC hGs hCUR hW1 zs hCs hG1 hg1 hV1 X1 hdl hW2 hsg hG2 hg2 X2 hW3 hG3 hP0 hpre hown hG hv hp hgl hvbl hCm
 go_enter Tryz.func168, Tryz.ntmps168
 go_wp2_with (first | (at_builtin; refine wpList_append_run _ rfl _ _ 34 3 rfl _ _ rfl rfl (hrz _) ?_) | (at_builtin; refine wpList_copy_run _ rfl _ _ 34 34 rfl _ _ rfl rfl (hcp1 _ _) ?_))
 go_region_law_o (refine step_copy_run rfl _ _ 34 34 rfl _ _ (by simp [Act.eval, Act.put]) (by simp [Act.eval, Act.put]) (hcp2 _ _ _) ?_)
 go_wp2_with fail
 go_ret
 exact ⟨_, rfl, HO.out, X3⟩
theorem insJob_grow (w : World) (B g n i vb : Nat) (cur : Array Value) (xs vs : List Value) (hG : Blk w g 95 cur) (hn : n ≤ 1000) (hp : Pre cur (n * 5) xs) (hx : xs.length = n * 5)
  (hv : Blk w vb 95 vs.toArray) (hvl : vs.length = 5) (hi : i < n) (h1x : ∀ v ∈ xs, v.oneCell' = true) (h1v : ∀ v ∈ vs, v.oneCell' = true) (hB : B ≤ w.heap.size) :
  Calls Tryz.prog 173 #[.slice (some ⟨g, 0, none⟩) n n, .int .i64 i, .slice (some ⟨vb, 0, none⟩) 1 1] w (fun e w' => ∃ r, e = .returned r ∧ Own B 95 5 w' r (xs.take (i * 5) ++ vs ++ xs.drop (i * 5)) ∧ Ext w w') := by
 obtain ⟨i0, hi0, hz0, hz1, hz2⟩ := info_parts info_Job
 have hsz : (Tryz.prog.info? 95).map (·.size) = some 5 := by rw [hi0]; simp [hz1]
 have hgl := hG.lt; have hvbl := hv.lt
 have hold : (Builtin.firstCells i0.size i (.slice (some ⟨g, 0, none⟩) i n)).run Tryz.prog w.drew = .ok (xs.take (i * 5)).toArray w.drew := by
  rw [hz1]
  exact run_firstCells_some w.drew 5 i ⟨g, 0, none⟩ i n (xs.take (i * 5)) (by rw [List.length_take]; omega) (fun j v hj => by
   rw [add_lit0, Nat.zero_add, hG.drew.cell]
   rw [List.getElem?_take] at hj
   split at hj
   ·
    rw [hp j oM]; exact hj
   cases hj)
 have hik : i + (n + 1 - i) = n + 1 := by omega
 obtain ⟨C, hC⟩ : ∃ C, C = grownCap w (n + 1) n 95 := ⟨_, rfl⟩
 have hCg : n + 1 ≤ C := by rw [hC]; exact grownCap_ge _ _ _ _
 have hCm : C ≤ 9223372036854775807 := by rw [hC]; exact grownCap_le_maxLen _ _ _ _ (by unfold maxLen; omega)
 obtain ⟨G, hGs⟩ : ∃ G, G = w.heap.size := ⟨_, rfl⟩
 obtain ⟨CUR, hCUR⟩ : ∃ CUR, CUR = ((xs.take (i * 5)).toArray ++ Builtin.zeroCells (Value.cells (.agg #[.int .i64 0, .int .i64 0, .int .i64 0, .int .i64 0, .int .i64 0])) (n + 1 - i) ++ Builtin.zeroCells (Value.cells (.agg #[.int .i64 0, .int .i64 0, .int .i64 0, .int .i64 0, .int .i64 0])) (C - (n + 1))) := ⟨_, rfl⟩
 obtain ⟨W1, hW1⟩ : ∃ W1, W1 = w.drew.alloc (.cells CUR 95) := ⟨_, rfl⟩
 have hrz : ∀ ty, (Builtin.append_ #[35, 3] ty #[.slice (some ⟨g, 0, none⟩) i n, .int .i64 ((n : Int) + 1 - (i : Int))]).run Tryz.prog w = .ok (.slice (some ⟨G, 0, none⟩) (n + 1) C) W1 := fun ty => by
  have h := Lib.run_append_grow_zeros w 35 3 ty 95 i0 _ .i64 .i64 Tryz.underlying35 Tryz.underlying3 hi0 hz0 (some ⟨g, 0, none⟩) i n (xs.take (i * 5)) hold (n + 1 - i) oM oM oM oM (by rw [hz2]; omega) (by rw [hz2, hik]; exact growslice_fits oM oM)
  rw [hik, ← hC, ← hCUR, ← hW1, ← hGs] at h
  rw [show (n : Int) + 1 - (i : Int) = ((n + 1 - i : Nat) : Int) by omega]
  exact h
 have zs : (Value.cells (.agg #[.int .i64 0, .int .i64 0, .int .i64 0, .int .i64 0, .int .i64 0])).size = 5 := by rfl
 have hCs : CUR.size = C * 5 := by
  rw [hCUR]
  simp only [Array.size_append, Go.size_zeroCells, zs, List.size_toArray, List.length_take, hx]
  rw [Nat.min_eq_left oM]
  omega
 have hG1 : Blk W1 G 95 CUR := by rw [hW1, hGs]; exact Blk.new w.drew _ _
 have hg1 : Blk W1 g 95 cur := by rw [hW1]; exact hG.drew.alloc _
 have hV1 : Blk W1 vb 95 vs.toArray := by rw [hW1]; exact hv.drew.alloc _
 have X1 : Ext w W1 := by rw [hW1]; exact (Ext.refl w).drew.alloc _
 have hdl : (xs.drop (i * 5)).length = (n - i) * 5 := by rw [List.length_drop, hx]; omega
 obtain ⟨W2, hW2⟩ : ∃ W2, W2 = W1.setRow G (seg CUR (i * 5) vs) := ⟨_, rfl⟩
 have hcp1 : ∀ ty dc, (Builtin.copy_ #[35, 35] ty #[.slice (some ⟨G, i * 5, none⟩) (n + 1 - i) dc, .slice (some ⟨vb, 0, none⟩) 1 1]).run Tryz.prog W1 = .ok (goInt (Nat.min 1 (n + 1 - i))) W2 := fun ty dc => by
  rw [hW2]
  exact run_copy_n W1 35 35 ty 95 5 G (i * 5) (n + 1 - i) dc ⟨vb, 0, none⟩ 1 1 _ 95 vs Tryz.underlying35 hsz hG1 (by rw [hvl]; simp only [Nat.min_def]; split <;> omega)
   (fun j v hj => by rw [add_lit0, Nat.zero_add, hV1.cell]; simpa using hj) (by rw [hvl, hCs]; omega) h1v
 have hsg : (seg CUR (i * 5) vs).size = CUR.size := seg_size (by rw [hvl, hCs]; omega)
 have hG2 : Blk W2 G 95 (seg CUR (i * 5) vs) := by rw [hW2]; exact hG1.row _
 have hg2 : Blk W2 g 95 cur := by rw [hW2]; exact hg1.rowFar oM _
 have X2 : Ext w W2 := by rw [hW2]; exact X1.setRow oM _
 obtain ⟨W3, hW3⟩ : ∃ W3, W3 = W2.drew.setRow G (seg (seg CUR (i * 5) vs) ((i + 1) * 5) (xs.drop (i * 5))) := ⟨_, rfl⟩
 have hcp2 : ∀ ty dc sc, (Builtin.copy_ #[35, 35] ty #[.slice (some ⟨G, (i + 1) * 5, none⟩) (n - i) dc, .slice (some ⟨g, i * 5, none⟩) (n - i) sc]).run Tryz.prog W2.drew = .ok (goInt (Nat.min (n - i) (n - i))) W3 := fun ty dc sc => by
  rw [hW3]
  exact run_copy_n W2.drew 35 35 ty 95 5 G ((i + 1) * 5) (n - i) dc ⟨g, i * 5, none⟩ (n - i) sc _ 95 (xs.drop (i * 5)) Tryz.underlying35 hsz hG2.drew (by rw [hdl]; simp only [Nat.min_def]; split <;> omega)
   (fun j v hj => by
    rw [add_lit0, hg2.drew.cell]
    rw [List.getElem?_drop] at hj
    have hlt : i * 5 + j < n * 5 := by rw [← hx]; exact (List.getElem?_eq_some_iff.1 hj).1
    rw [hp _ hlt]; exact hj)
   (by rw [hdl, hsg, hCs]; omega) (fun v hv => h1x v (List.mem_of_mem_drop hv))
 have hG3 : Blk W3 G 95 (seg (seg CUR (i * 5) vs) ((i + 1) * 5) (xs.drop (i * 5))) := by rw [hW3]; exact hG2.drew.row _
 have X3 : Ext w W3 := by rw [hW3]; exact (X2.drew).setRow oM _
 have hP0 : Pre CUR (i * 5) xs := fun j hj => by
  rw [hCUR, Array.getElem?_append_left (by simp only [Array.size_append, Go.size_zeroCells, zs, List.size_toArray, List.length_take, hx]; omega), Array.getElem?_append_left (by simp only [List.size_toArray, List.length_take, hx]; omega)]
  simp [List.getElem?_take, hj]
 have hpre := ins_pre (n := n) hP0 hx hvl oM (by rw [hCs]; exact Nat.mul_le_mul_right _ hCg) (.inr ⟨rfl, rfl⟩)
 have hown : Own B 95 5 W3 (.slice (some ⟨G, 0, none⟩) (n + 1) C) (xs.take (i * 5) ++ vs ++ xs.drop (i * 5)) :=
  Own.of_blk hG3 oM (by rw [hpre.1, hCs]) (by simp only [List.length_append, List.length_take, hdl, hvl, hx]; omega) hCg (by unfold maxLen; omega) hpre.2
 have HO := Lib.hid hown
 have hw1 : IntKind.i64.wrap ((i : Int) + 1) = (i : Int) + 1 := by rw [IntKind.wrap_i64]; omega
 have hw2 : IntKind.i64.wrap ((n : Int) + 1) = (n : Int) + 1 := by rw [IntKind.wrap_i64]; omega
 have hw3 : IntKind.i64.wrap ((n : Int) + 1 - (i : Int)) = (n : Int) + 1 - (i : Int) := by rw [IntKind.wrap_i64]; omega
 have hb1 : (0 : Int) ≤ (i : Int) + 1 := by omega
 have htn : ((i : Int) + 1).toNat = i + 1 := by omega
 have hb2 : ¬ (C = i + 1) := by omega
 have hb3 : (i : Int) ≤ (n : Int) + 1 := by omega
 have hb4 : ¬ (C = i) := by omega
 have hb8 : ¬ (n = i) := by omega
 have hb9 : (i : Int) + 1 ≤ (n : Int) + 1 := by omega
 have hb10 : (n : Int) < (n : Int) + 1 := by omega
 have mixed : Tryz.prog.follows .mixedOrders = true := by kernel_rfl
 have hb5 : ¬ ((i : Int) = (n : Int)) := by omega
 have hb6 : (i : Int) ≤ (n : Int) := by omega
 have hb7 : i ≤ n := by omega
 clear hold hik hC hGs hCUR hW1 zs hCs hG1 hg1 hV1 X1 hdl hW2 hsg hG2 hg2 X2 hW3 hG3 hP0 hpre hown hG hv hp hgl hvbl hCm
 go_enter Tryz.func173, Tryz.ntmps173
 go_wp2_with (first | (at_builtin; refine wpList_append_run _ rfl _ _ 35 3 rfl _ _ rfl rfl (hrz _) ?_) | (at_builtin; refine wpList_copy_run _ rfl _ _ 35 35 rfl _ _ rfl rfl (hcp1 _ _) ?_))
 go_region_law_o (refine step_copy_run rfl _ _ 35 35 rfl _ _ (by simp [Act.eval, Act.put]) (by simp [Act.eval, Act.put]) (hcp2 _ _ _) ?_)
 go_wp2_with fail
 go_ret
 exact ⟨_, rfl, HO.out, X3⟩
theorem insPair (w : World) (B : Nat) (s : Value) (xs vs : List Int) (n i vb : Nat) (ho : OwnI B 113 2 w s xs) (hx : xs.length = n * 2) (hn : n ≤ 1000) (hv : Blk w vb 113 (vs.map (Value.int .i64)).toArray) (hvl : vs.length = 2) (hB : B ≤ w.heap.size) (hi : i ≤ n) (hne : s.ownBlock ≠ some vb) :
  Calls Tryz.prog 168 #[s, .int .i64 i, .slice (some ⟨vb, 0, none⟩) 1 1] w (fun e w' => ∃ r, e = .returned r ∧ OwnI B 113 2 w' r (xs.take (i * 2) ++ vs ++ xs.drop (i * 2)) ∧ w.grownBy w' s.ownBlock) := by
 by_cases hin : i = n
 ·
  subst hin
  refine (insPair_end w B s xs vs i vb ho hx hn hv hvl hB).mono ?_
  rintro e w' ⟨r, rfl, h1, h2⟩
  refine ⟨r, rfl, ?_, h2⟩
  rw [List.take_of_length_le oM, List.drop_of_length_le oM, List.append_nil]
  exact h1
 have HO := ho
 obtain ⟨a, len, cap, rfl, hl, h1, h2, h3⟩ := Own.open_ ho
 have hln : len = n := by rw [List.length_map] at hl; omega
 subst hln
 rcases h3 with h3 | ⟨g, cur, rfl, hBg, hblk, hcs, hpre⟩
 ·
  omega
 have hxl : (xs.map (Value.int .i64)).length = len * 2 := by rw [List.length_map]; exact hx
 have hvl2 : (vs.map (Value.int .i64)).length = 2 := by rw [List.length_map]; exact hvl
 have hvg : vb ≠ g := fun e => hne (by subst e; rfl)
 by_cases hroom : len + 1 ≤ cap
 ·
  refine (insPair_shift w g len cap i vb cur _ _ hblk hcs hn hpre hxl hv hvl2 hvg oM hroom (ints_oneCell _ _) (ints_oneCell _ _)).mono ?_
  rintro e w' ⟨rfl, rfl⟩
  have hp2 := ins_pre (n := len) (i := i) (vs := vs.map (Value.int .i64)) (fun j hj => hpre j (Nat.lt_of_lt_of_le hj (Nat.mul_le_mul_right _ oM))) hxl hvl2 oM (by rw [hcs]; exact Nat.mul_le_mul_right _ hroom) (.inl ⟨rfl, rfl⟩)
  refine ⟨_, rfl, ?_, ⟨rfl, rfl, rfl, by rw [size_setRow]; exact Nat.le_refl _, fun q hq hqn => heap_setRow_ne _ _ (fun e => hqn (by subst e; rfl))⟩⟩
  have := Own.of_blk (B := B) (cap := cap) (len := len + 1) (n := 2) (hblk.drew.row _) hBg (by rw [hp2.1, hcs]) (by simp only [List.length_append, List.length_take, List.length_drop, hxl, hvl2]; omega) hroom h2 hp2.2
  simpa [OwnI, List.map_take, List.map_drop] using this
 obtain rfl : cap = len := by omega
 refine (insPair_grow w B g cap i vb cur _ _ hblk hn hpre hxl hv hvl2 oM (ints_oneCell _ _) (ints_oneCell _ _) hB).mono ?_
 rintro e w' ⟨r, rfl, h4, h5⟩
 refine ⟨r, rfl, by simpa [OwnI, List.map_take, List.map_drop] using h4, ⟨h5.os, h5.tape, h5.output, h5.size, fun q hq _ => Below.block h5 q hq⟩⟩
theorem insJob (w : World) (B : Nat) (s : Value) (xs vs : List Int) (n i vb : Nat) (ho : OwnI B 95 5 w s xs) (hx : xs.length = n * 5) (hn : n ≤ 1000) (hv : Blk w vb 95 (vs.map (Value.int .i64)).toArray) (hvl : vs.length = 5) (hB : B ≤ w.heap.size) (hi : i ≤ n) (hne : s.ownBlock ≠ some vb) :
  Calls Tryz.prog 173 #[s, .int .i64 i, .slice (some ⟨vb, 0, none⟩) 1 1] w (fun e w' => ∃ r, e = .returned r ∧ OwnI B 95 5 w' r (xs.take (i * 5) ++ vs ++ xs.drop (i * 5)) ∧ w.grownBy w' s.ownBlock) := by
 by_cases hin : i = n
 ·
  subst hin
  refine (insJob_end w B s xs vs i vb ho hx hn hv hvl hB).mono ?_
  rintro e w' ⟨r, rfl, h1, h2⟩
  refine ⟨r, rfl, ?_, h2⟩
  rw [List.take_of_length_le oM, List.drop_of_length_le oM, List.append_nil]
  exact h1
 have HO := ho
 obtain ⟨a, len, cap, rfl, hl, h1, h2, h3⟩ := Own.open_ ho
 have hln : len = n := by rw [List.length_map] at hl; omega
 subst hln
 rcases h3 with h3 | ⟨g, cur, rfl, hBg, hblk, hcs, hpre⟩
 ·
  omega
 have hxl : (xs.map (Value.int .i64)).length = len * 5 := by rw [List.length_map]; exact hx
 have hvl2 : (vs.map (Value.int .i64)).length = 5 := by rw [List.length_map]; exact hvl
 have hvg : vb ≠ g := fun e => hne (by subst e; rfl)
 by_cases hroom : len + 1 ≤ cap
 ·
  refine (insJob_shift w g len cap i vb cur _ _ hblk hcs hn hpre hxl hv hvl2 hvg oM hroom (ints_oneCell _ _) (ints_oneCell _ _)).mono ?_
  rintro e w' ⟨rfl, rfl⟩
  have hp2 := ins_pre (n := len) (i := i) (vs := vs.map (Value.int .i64)) (fun j hj => hpre j (Nat.lt_of_lt_of_le hj (Nat.mul_le_mul_right _ oM))) hxl hvl2 oM (by rw [hcs]; exact Nat.mul_le_mul_right _ hroom) (.inl ⟨rfl, rfl⟩)
  refine ⟨_, rfl, ?_, ⟨rfl, rfl, rfl, by rw [size_setRow]; exact Nat.le_refl _, fun q hq hqn => heap_setRow_ne _ _ (fun e => hqn (by subst e; rfl))⟩⟩
  have := Own.of_blk (B := B) (cap := cap) (len := len + 1) (n := 5) (hblk.drew.row _) hBg (by rw [hp2.1, hcs]) (by simp only [List.length_append, List.length_take, List.length_drop, hxl, hvl2]; omega) hroom h2 hp2.2
  simpa [OwnI, List.map_take, List.map_drop] using this
 obtain rfl : cap = len := by omega
 refine (insJob_grow w B g cap i vb cur _ _ hblk hn hpre hxl hv hvl2 oM (ints_oneCell _ _) (ints_oneCell _ _) hB).mono ?_
 rintro e w' ⟨r, rfl, h4, h5⟩
 refine ⟨r, rfl, by simpa [OwnI, List.map_take, List.map_drop] using h4, ⟨h5.os, h5.tape, h5.output, h5.size, fun q hq _ => Below.block h5 q hq⟩⟩
theorem delPair_at (w : World) (g m c i : Nat) (cur : Array Value) (xs : List Value) (hG : Blk w g 113 cur) (hcs : cur.size = c * 2) (hm : m + 1 ≤ 1000) (hp : Pre cur ((m + 1) * 2) xs) (hx : xs.length = (m + 1) * 2) (hi : i < m + 1) (hr : m + 1 ≤ c) (h1x : ∀ v ∈ xs, v.oneCell' = true) :
  Calls Tryz.prog 171 #[.slice (some ⟨g, 0, none⟩) (m + 1) c, .int .i64 i, .int .i64 ((i : Int) + 1)] w (fun e w' => e = .returned (.slice (some ⟨g, 0, none⟩) m c) ∧ w' = w.drew.setRow g (seg (seg cur (i * 2) (xs.drop ((i + 1) * 2))) (m * 2) (Builtin.zeroCells (Value.cells (.agg #[.int .i64 0, .int .i64 0])) 1).toList)) := by
 obtain ⟨i0, hi0, hz0, hz1, hz2⟩ := info_parts info_Pair
 have hdl : (xs.drop ((i + 1) * 2)).length = (m - i) * 2 := by rw [List.length_drop, hx]; omega
 have zs : (Builtin.zeroCells (Value.cells (.agg #[.int .i64 0, .int .i64 0])) 1).size = 2 := by rw [Go.size_zeroCells]; rfl
 have hsg : (seg cur (i * 2) (xs.drop ((i + 1) * 2))).size = cur.size := seg_size (by rw [hdl, hcs]; omega)
 obtain ⟨W1, hW1⟩ : ∃ W1, W1 = w.drew.setRow g (seg cur (i * 2) (xs.drop ((i + 1) * 2))) := ⟨_, rfl⟩
 have hG1 : Blk W1 g 113 (seg cur (i * 2) (xs.drop ((i + 1) * 2))) := by rw [hW1]; exact hG.drew.row _
 have hap : ∀ ty a cc, (c = i + 1 ∨ a = ⟨g, (i + 1) * 2, none⟩) → (Builtin.append_ #[34, 34] ty #[.slice (some ⟨g, 0, none⟩) i c, .slice (some a) (m - i) cc]).run Tryz.prog w.drew = .ok (.slice (some ⟨g, 0, none⟩) m c) W1 := fun ty a cc ha => by
  have h := run_append_room (w := w.drew) 34 ty 113 i0 Tryz.underlying34 hi0 g i c cur hG.drew a (m - i) cc (xs.drop ((i + 1) * 2)) (by rw [hdl, hz1]) (fun j u hj => by
    have hlt : j < (m - i) * 2 := by rw [← hdl]; exact (List.getElem?_eq_some_iff.1 hj).1
    rcases ha with ha | ha
    ·
     omega
    subst ha
    rw [add_lit0, hG.drew.cell]
    rw [List.getElem?_drop] at hj
    rw [hp _ oM]; exact hj) (fun v hv => h1x v (List.mem_of_mem_drop hv)) oM (by rw [hdl, hz1, hcs]; omega)
  rw [show i + (m - i) = m by omega, hz1] at h
  rw [h, hW1]; rfl
 have hone : ∀ v ∈ (Builtin.zeroCells (Value.cells (.agg #[.int .i64 0, .int .i64 0])) 1).toList, v.oneCell' = true := by
  intro v hv
  obtain ⟨q, hq⟩ := List.mem_iff_getElem?.1 hv
  rcases q with _ | _ | q
  ·
   simp [Builtin.zeroCells, Value.cells] at hq; subst hq; rfl
  ·
   simp [Builtin.zeroCells, Value.cells] at hq; subst hq; rfl
  have h8 := (List.getElem?_eq_some_iff.1 hq).1
  rw [Array.length_toList, zs] at h8
  omega
 obtain ⟨W2, hW2⟩ : ∃ W2, W2 = W1.setRow g (seg (seg cur (i * 2) (xs.drop ((i + 1) * 2))) (m * 2) (Builtin.zeroCells (Value.cells (.agg #[.int .i64 0, .int .i64 0])) 1).toList) := ⟨_, rfl⟩
 have hcl : ∀ ty cc, (Builtin.clear_ #[34] ty #[.slice (some ⟨g, m * 2, none⟩) 1 cc]).run Tryz.prog W1 = .ok (.tuple #[]) W2 := fun ty cc => by
  rw [hW2]
  exact run_clear_n W1 34 ty 113 i0 _ g (m * 2) 1 cc _ 113 Tryz.underlying34 hi0 hz0 hG1 dC (by rw [hsg, hcs]; show m * 2 + 1 * 2 ≤ c * 2; omega) hone
 have hfin : W2 = w.drew.setRow g (seg (seg cur (i * 2) (xs.drop ((i + 1) * 2))) (m * 2) (Builtin.zeroCells (Value.cells (.agg #[.int .i64 0, .int .i64 0])) 1).toList) := by rw [hW2, hW1, setRow_setRow]
 have HF := Lib.hid hfin
 have hb1 : (0 : Int) ≤ (i : Int) + 1 := by omega
 have htn : ((i : Int) + 1).toNat = i + 1 := by omega
 have hb2 : (i : Int) + 1 ≤ (m : Int) + 1 := by omega
 have hb3 : (m : Int) + 1 ≤ (c : Int) := by omega
 have hb4 : ¬ ((i : Int) = (i : Int) + 1) := by omega
 have hb5 : ¬ (c = m) := by omega
 have hb6 : (i : Int) ≤ (i : Int) + 1 := by omega
 have hb7 : (i : Int) ≤ (c : Int) := by omega
 have hb8 : m + 1 - m = 1 := by omega
 have hb9 : (0 : Int) ≤ (m : Int) + 1 := by omega
 have htm : ((m : Int) + 1).toNat = m + 1 := by omega
 have hb10 : (m : Int) ≤ (m : Int) + 1 := by omega
 have hb11 : m + 1 - (i + 1) = m - i := by omega
 have mixed : Tryz.prog.follows .mixedOrders = true := by kernel_rfl
 have HG := Lib.hid hG
 clear hdl zs hsg hW1 hG1 hW2 hfin hG hp
 by_cases hci : c = i + 1
 ·
  subst hci
  have hap2 := fun ty => hap ty ⟨g, 0, none⟩ 0 (.inl rfl)
  clear hap
  go_enter Tryz.func171, Tryz.ntmps171
  go_wp2_with fail
  go_region_law_o (refine step_append_run rfl _ _ 34 34 rfl _ _ (by simp [Act.eval, Act.put]) (by simp [Act.eval, Act.put]) (hap2 _) ?_)
  go_wp2_with (at_builtin; refine wpList_clear_run _ rfl _ 34 rfl _ rfl (hcl _ _) ?_)
  go_ret
  exact ⟨rfl, HF.out⟩
 have hap2 := fun ty => hap ty ⟨g, (i + 1) * 2, none⟩ (c - (i + 1)) (.inr rfl)
 clear hap
 go_enter Tryz.func171, Tryz.ntmps171
 go_wp2_with fail
 go_region_law_o (refine step_append_run rfl _ _ 34 34 rfl _ _ (by simp [Act.eval, Act.put]) (by simp [Act.eval, Act.put]) (hap2 _) ?_)
 go_wp2_with (at_builtin; refine wpList_clear_run _ rfl _ 34 rfl _ rfl (hcl _ _) ?_)
 go_ret
 exact ⟨rfl, HF.out⟩
end Go.Proofs.YtlnkggpemdpemaaGreat
namespace Go.G8
open Go.RowKit
theorem OwnI.grown2 {B : Nat} {e : TypeId} {n : Nat} {w w' : World} {v : Value} {xs : List Int} (h : OwnI B e n w v xs) {W0 : World} (x : Ext W0 w) (hB : W0.heap.size ≤ B) (hg : w.grownBy w' v.ownBlock) : Ext W0 w' := Ext.own x h hB hg
theorem ins_list {α : Type} {key : α → Int} {l : List α} {d : α} {k : Nat} (h : Srt key l) (h1 : ∀ i a, i < k → l[i]? = some a → key a < key d) (h2 : ∀ a, l[k]? = some a → key d < key a) : ins key l d = l.take k ++ d :: l.drop k := by
 obtain ⟨g1, g2, _⟩ := ins_at h h1 h2
 unfold ins; rw [g1, g2]
theorem set_list {α : Type} {key : α → Int} {l : List α} {d e : α} {k : Nat} (h : Srt key l) (hd : l[k]? = some e) (he : key e = key d) : ins key l d = l.set k d := by
 obtain ⟨g1, g2, _, _⟩ := set_at h hd he
 have hk := (List.getElem?_eq_some_iff.1 hd).1
 unfold ins; rw [g1, g2, List.set_eq_take_append_cons_drop, if_pos hk]
theorem cut_list {l : List DPair} {d : DPair} {k : Nat} {x : Int} (h : pairsOk l = true) (hd : l[k]? = some d) (he : d.Key = x) : cutL l x = l.take k ++ l.drop (k + 1) := (set_at (pairsOk_srt h).1 hd he).2.2.2
theorem flPair_app (a b : List DPair) : flPair (a ++ b) = flPair a ++ flPair b := by simp [flPair]
theorem flJob_app (a b : List DJob) : flJob (a ++ b) = flJob a ++ flJob b := by simp [flJob]
theorem flPair_cut (l : List DPair) (k : Nat) : (flPair l).take (k * 2) = flPair (l.take k) ∧ (flPair l).drop (k * 2) = flPair (l.drop k) := by
 induction l generalizing k with
 | nil => simp [flPair]
 | cons a l ih =>
  cases k with
  | zero => simp [flPair]
  | succ k =>
   obtain ⟨h1, h2⟩ := ih k
   simp only [flPair, List.flatMap_cons, DPair.ints, List.take_succ_cons, List.drop_succ_cons, Nat.add_mul, Nat.one_mul, List.cons_append, List.nil_append] at h1 h2 ⊢
   constructor
   ·
    simp only [h1]
   simp only [h2]
theorem flJob_cut (l : List DJob) (k : Nat) : (flJob l).take (k * 5) = flJob (l.take k) ∧ (flJob l).drop (k * 5) = flJob (l.drop k) := by
 induction l generalizing k with
 | nil => simp [flJob]
 | cons a l ih =>
  cases k with
  | zero => simp [flJob]
  | succ k =>
   obtain ⟨h1, h2⟩ := ih k
   simp only [flJob, List.flatMap_cons, DJob.ints, List.take_succ_cons, List.drop_succ_cons, Nat.add_mul, Nat.one_mul, List.cons_append, List.nil_append] at h1 h2 ⊢
   constructor
   ·
    simp only [h1]
   simp only [h2]
theorem srt_upto {α : Type} {key : α → Int} {l : List α} {x : Int} {k : Nat} {d : α} (h1 : ∀ i a, i < k → l[i]? = some a → key a < x) (hd : l[k]? = some d) (h : key d < x) : ∀ i a, i < k + 1 → l[i]? = some a → key a < x := by
 intro i a hi ha
 by_cases e : i = k
 ·
  subst e; rw [hd] at ha; injection ha with ha; subst ha; exact h
 exact h1 i a oM ha
theorem none_of_upto {α : Type} {l : List α} {P : α → Prop} : ∀ a, l[l.length]? = some a → P a := fun a h => by
 have := (List.getElem?_eq_some_iff.1 h).1
 omega
end Go.G8
namespace Go.Proofs.YtlnkggpemdpemaaGreat
open Go.RowKit Go.G8
theorem put_e (w : World) (s : Value) (l : List DPair) (key val : Int) (h : Ints 2 w s (flPair l)) :
  Calls Tryz.prog 136 #[s, .int .i64 key, .int .i64 val] w (Ret w fun r w' => ∃ u, r = .tuple #[u, .bool (putOk l key val)] ∧ OwnI w.heap.size 113 2 w' u (flPair (putR l key val))) := by
 have HS := Lib.hid h
 obtain ⟨a0, n0, k0, rfl⟩ := h.shape
 clear h
 go_enter Tryz.func136, Tryz.ntmps136
 go_wp2_with fail
 refine (pairsOk_c _ _ l HS.out).mono ?_
 rintro e w1 ⟨rfl, hx1⟩
 have hs1 := hx1.size
 cases hp : pairsOk l
 ·
  have e1 : putOk l key val = false := by simp [putOk, hp]
  have e2 : putR l key val = [] := by simp [putR, hp]
  have HE1 := Lib.hid e1; have HE2 := Lib.hid e2
  clear e1 e2
  go_wp2_with fail
  go_ret2
  refine ⟨_, rfl, ?_, _, by (rw [HE1.out]; try rfl), ?_⟩
  ·
   exact xT
  rw [HE2.out]
  exact OwnI.nil _ _ _ _
 have HP := Lib.hid hp
 have hln := pairsOk_len hp
 clear hp
 go_wp2_with fail
 refine (copyPairs_c _ _ l (HS.out.ext hx1) oM).mono ?_
 rintro e w2 ⟨_, rfl, hx2, g2⟩
 have hs2 := hx2.size
 have E2 : Ext w w2 := hx1.trans hx2
 obtain ⟨ta, tn, tc, rfl, hl0, hc0, hm0, hor⟩ := Own.open_ g2
 have htn : tn = l.length := by simp only [List.length_map, length_flPair] at hl0; omega
 subst htn
 clear hl0
 cases hv : pairOk ⟨key, val⟩
 ·
  have e1 : putOk l key val = false := by simp [putOk, hv]
  have e2 : putR l key val = l := by simp [putR, HP.out, hv]
  have HE1 := Lib.hid e1; have HE2 := Lib.hid e2
  have hv2 : inb key 0 9 = false ∨ (inb key 0 9 = true ∧ inb val 0 999 = false) := by
   cases hq : inb key 0 9
   ·
    exact .inl rfl
   exact .inr ⟨rfl, by simpa [pairOk, hq] using hv⟩
  clear e1 e2 hv
  go_wp2_with fail
  refine (keyOk_cP _ key).mono ?_
  rintro e w2' ⟨rfl, rfl⟩
  rcases hv2 with hv2 | ⟨hv1, hv2⟩
  ·
   rw [hv2]
   go_wp2_with fail
   go_ret2
   refine ⟨_, rfl, ?_, _, by (rw [HE1.out]; try rfl), ?_⟩
   ·
    exact xT
   rw [HE2.out]
   exact g2.mono oM
  rw [hv1]
  go_wp2_with fail
  refine (valueOk_cP _ val).mono ?_
  rintro e w2' ⟨rfl, rfl⟩
  rw [hv2]
  go_wp2_with fail
  go_ret2
  refine ⟨_, rfl, ?_, _, by (rw [HE1.out]; try rfl), ?_⟩
  ·
   exact xT
  rw [HE2.out]
  exact g2.mono oM
 have e1 : putOk l key val = true := by simp [putOk, HP.out, hv]
 have e2 : putR l key val = putL l key val := by simp [putR, HP.out, hv]
 have HE1 := Lib.hid e1; have HE2 := Lib.hid e2
 have hvk : inb key 0 9 = true := by simp only [pairOk, Bool.and_eq_true] at hv; exact hv.1
 have hvv : inb val 0 999 = true := by simp only [pairOk, Bool.and_eq_true] at hv; exact hv.2
 have HSR := Lib.hid (pairsOk_srt HP.out).1
 obtain ⟨a9, cap9, e9, hcap9, hm9, ha9⟩ := g2.ints.recs (f := DPair.ints) (fun _ => rfl) dC
 injection e9 with e9a _ e9c
 subst e9a; subst e9c
 have HA := Lib.hid ha9
 clear e1 e2 hv ha9 hcap9 hm9
 go_wp2_with fail
 refine (keyOk_cP _ key).mono ?_
 rintro e w2' ⟨rfl, rfl⟩
 rw [hvk]
 go_wp2_with fail
 refine (valueOk_cP _ val).mono ?_
 rintro e w2' ⟨rfl, rfl⟩
 rw [hvv]
 clear hvk hvv
 go_wp2_with fail
 go_loopw [9] (fun kk wr => ∃ k : Nat, k ≤ l.length ∧ kk = .int .i64 k ∧ w2 = wr ∧ Hid (∀ i a, i < k → l[i]? = some a → a.Key < key)) (fun kk _ => l.length - (intOf kk).toNat)
 case atStart => exact ⟨0, Nat.zero_le _, rfl, rfl, Lib.hid (fun i a hi => by omega)⟩
 case round =>
  obtain ⟨k, hk, rfl, rfl, hlow⟩ := hrel
  by_cases hlt : k < l.length
  ·
   obtain ⟨d, b1, o1, hd, rfl, hb1, c⟩ := HA.out k hlt
   have d0 := c 0 _ dC rfl
   have d1 := c 1 _ dC rfl
   simp only [Nat.add_zero] at d0
   have HD := Lib.hid hd
   clear c hd
   by_cases hq : d.Key < key
   ·
    go_wp2_with fail
    go_roundw
    case rel => exact ⟨k + 1, by omega, by go_num, by trivial, Lib.hid (srt_upto hlow.out HD.out hq)⟩
    case measure => simp [intOf]; omega
   by_cases hq2 : d.Key = key
   ·
    rcases hor with h0 | ⟨g9, cur, e8, hBg, hG, hsz, hpre⟩
    ·
     omega
    injection e8 with e8; injection e8 with e8a e8b
    subst e8a; subst e8b
    have FG := hG.frozen
    simp only [Nat.zero_add] at d0 d1 ⊢
    have hst := set_list (d := ⟨key, val⟩) HSR.out HD.out (by exact hq2)
    have HST := Lib.hid hst
    have hfl : (flPair l).set (k * 2 + 1) val = flPair (l.set k ⟨key, val⟩) := by rw [flPair_set HD.out val, hq2]
    have HFL := Lib.hid hfl
    have hlen : k * 2 + 1 < (flPair l).length := by rw [length_flPair]; omega
    clear hst hfl hG hsz hpre
    go_wp2_with fail
    go_ret2
    refine ⟨_, rfl, ?_, _, by (rw [HE1.out]; try rfl), ?_⟩
    ·
     exact E2.setCell oM _
    rw [HE2.out, show putL l key val = l.set k ⟨key, val⟩ from HST.out, ← HFL.out]
    exact (OwnI.set g2 hlen val).mono oM
   have hil := ins_list (d := (⟨key, val⟩ : DPair)) HSR.out hlow.out (fun a ha => by rw [HD.out] at ha; injection ha with ha; subst ha; show key < d.Key; omega)
   have HIL := Lib.hid hil
   have hnb : Value.ownBlock (.slice (some ⟨b1, o1, none⟩) l.length tc) ≠ some w2.heap.size := by
    intro hh
    have := (Own.lt g2 hh).2
    omega
   clear hil
   go_wp2_with fail
   refine (insPair _ w1.heap.size _ _ [key, val] l.length k w2.heap.size (Own.ext g2 ((Ext.refl _).alloc _)) (length_flPair l) oM (Blk.new _ _ _) rfl (by simp; omega) oM hnb).mono ?_
   rintro e w3 ⟨r3, rfl, g3, hg3⟩
   obtain ⟨ra, rn, rc, rfl⟩ := g3.shape
   have E3 : Ext w w3 := OwnI.grown2 (Own.ext g2 ((Ext.refl _).alloc _)) (E2.alloc _) oM hg3
   go_wp2_with fail
   go_ret2
   refine ⟨_, rfl, E3, _, by (rw [HE1.out]; try rfl), ?_⟩
   rw [HE2.out, show putL l key val = _ from HIL.out, flPair_app, ← (flPair_cut l k).1]
   rw [show flPair ((⟨key, val⟩ : DPair) :: l.drop k) = [key, val] ++ (flPair l).drop (k * 2) by rw [(flPair_cut l k).2]; rfl, ← List.append_assoc]
   exact g3.mono oM
  obtain rfl : k = l.length := by omega
  have hil := ins_list (d := (⟨key, val⟩ : DPair)) (k := l.length) HSR.out hlow.out none_of_upto
  have HIL := Lib.hid hil
  have hnb : Value.ownBlock (.slice ta l.length tc) ≠ some w2.heap.size := by
   intro hh
   have := (Own.lt g2 hh).2
   omega
  clear hil
  go_wp2_with fail
  refine (insPair _ w1.heap.size _ _ [key, val] l.length l.length w2.heap.size (Own.ext g2 ((Ext.refl _).alloc _)) (length_flPair l) oM (Blk.new _ _ _) rfl (by simp; omega) oM hnb).mono ?_
  rintro e w3 ⟨r3, rfl, g3, hg3⟩
  obtain ⟨ra, rn, rc, rfl⟩ := g3.shape
  have E3 : Ext w w3 := OwnI.grown2 (Own.ext g2 ((Ext.refl _).alloc _)) (E2.alloc _) oM hg3
  go_wp2_with fail
  go_ret2
  refine ⟨_, rfl, E3, _, by (rw [HE1.out]; try rfl), ?_⟩
  rw [HE2.out, show putL l key val = _ from HIL.out, flPair_app, ← (flPair_cut l l.length).1]
  rw [show flPair ((⟨key, val⟩ : DPair) :: l.drop l.length) = [key, val] ++ (flPair l).drop (l.length * 2) by rw [(flPair_cut l l.length).2]; rfl, ← List.append_assoc]
  exact g3.mono oM
end Go.Proofs.YtlnkggpemdpemaaGreat
namespace Go.G8
open Go.RowKit
theorem del_pre0 {cur : Array Value} {xs zs : List Value} {A A1 M : Nat} (hp : Pre cur A xs) (hA : A ≤ M) (hx : xs.length = M + (A1 - A)) (hAA : A ≤ A1) (hA1 : A1 ≤ xs.length) (hsz : M + zs.length ≤ cur.size) :
  (seg (seg cur A (xs.drop A1)) M zs).size = cur.size ∧ Pre (seg (seg cur A (xs.drop A1)) M zs) M (xs.take A ++ xs.drop A1) := by
 have hd : (xs.drop A1).length = M - A := by rw [List.length_drop]; omega
 have h1 : (seg cur A (xs.drop A1)).size = cur.size := seg_size oM
 refine ⟨by rw [seg_size oM, h1], fun j hj => ?_⟩
 rw [seg_lt oM hj]
 have ht : (xs.take A).length = A := by rw [List.length_take]; omega
 by_cases h : j < A
 ·
  rw [seg_lt oM h, List.getElem?_append_left oM, List.getElem?_take, if_pos h]
  exact hp j h
 have := seg_in (cur := cur) (o := A) (vs := xs.drop A1) (j := j - A) oM oM
 rw [show A + (j - A) = j by omega] at this
 rw [this, List.getElem?_append_right oM, ht]
end Go.G8
namespace Go.Proofs.YtlnkggpemdpemaaGreat
open Go.RowKit Go.G8
theorem delPair (w : World) (B : Nat) (s : Value) (xs : List Int) (n i : Nat) (ho : OwnI B 113 2 w s xs) (hx : xs.length = n * 2) (hn : n ≤ 1000) (hi : i < n) :
  Calls Tryz.prog 171 #[s, .int .i64 i, .int .i64 ((i : Int) + 1)] w (fun e w' => ∃ r, e = .returned r ∧ OwnI B 113 2 w' r (xs.take (i * 2) ++ xs.drop ((i + 1) * 2)) ∧ w.grownBy w' s.ownBlock) := by
 obtain ⟨m, rfl⟩ : ∃ m, n = m + 1 := ⟨n - 1, by omega⟩
 obtain ⟨a, len, cap, rfl, hl, h1, h2, h3⟩ := Own.open_ ho
 have hln : len = m + 1 := by rw [List.length_map] at hl; omega
 subst hln
 rcases h3 with h3 | ⟨g, cur, rfl, hBg, hblk, hcs, hpre⟩
 ·
  omega
 have hxl : (xs.map (Value.int .i64)).length = (m + 1) * 2 := by rw [List.length_map]; exact hx
 have zs : (Builtin.zeroCells (Value.cells (.agg #[.int .i64 0, .int .i64 0])) 1).toList.length = 2 := by rw [Array.length_toList, Go.size_zeroCells]; rfl
 refine (delPair_at w g m cap i cur _ hblk hcs hn hpre hxl hi h1 (ints_oneCell _ _)).mono ?_
 rintro e w' ⟨rfl, rfl⟩
 have hp2 := del_pre0 (A := i * 2) (A1 := (i + 1) * 2) (M := m * 2) (zs := (Builtin.zeroCells (Value.cells (.agg #[.int .i64 0, .int .i64 0])) 1).toList) (xs := xs.map (Value.int .i64)) (cur := cur) (fun j hj => hpre j oM) oM oM oM oM (by rw [zs, hcs]; omega)
 refine ⟨_, rfl, ?_, ⟨rfl, rfl, rfl, by rw [size_setRow]; exact Nat.le_refl _, fun q hq hqn => heap_setRow_ne _ _ (fun e => hqn (by subst e; rfl))⟩⟩
 have := Own.of_blk (B := B) (cap := cap) (len := m) (n := 2) (hblk.drew.row _) hBg (by rw [hp2.1, hcs]) (by simp only [List.length_append, List.length_take, List.length_drop, hxl]; omega) oM h2 hp2.2
 simpa [OwnI, List.map_take, List.map_drop] using this
theorem cutOut_e (w : World) (s : Value) (l : List DPair) (key : Int) (h : Ints 2 w s (flPair l)) :
  Calls Tryz.prog 138 #[s, .int .i64 key] w (Ret w fun r w' => ∃ u, r = .tuple #[u, .bool (cutOk l key)] ∧ OwnI w.heap.size 113 2 w' u (flPair (cutR l key))) := by
 have HS := Lib.hid h
 obtain ⟨a0, n0, k0, rfl⟩ := h.shape
 clear h
 go_enter Tryz.func138, Tryz.ntmps138
 go_wp2_with fail
 refine (pairsOk_c _ _ l HS.out).mono ?_
 rintro e w1 ⟨rfl, hx1⟩
 have hs1 := hx1.size
 cases hp : pairsOk l
 ·
  have e1 : cutOk l key = false := by simp [cutOk, hp]
  have e2 : cutR l key = [] := by simp [cutR, hp]
  have HE1 := Lib.hid e1; have HE2 := Lib.hid e2
  clear e1 e2
  go_wp2_with fail
  go_ret2
  refine ⟨_, rfl, ?_, _, by (rw [HE1.out]; try rfl), ?_⟩
  ·
   exact xT
  rw [HE2.out]
  exact OwnI.nil _ _ _ _
 have HP := Lib.hid hp
 have hln := pairsOk_len hp
 have e2 : cutR l key = cutL l key := by simp [cutR, hp]
 have HE2 := Lib.hid e2
 clear hp e2
 go_wp2_with fail
 refine (copyPairs_c _ _ l (HS.out.ext hx1) oM).mono ?_
 rintro e w2 ⟨_, rfl, hx2, g2⟩
 have hs2 := hx2.size
 have E2 : Ext w w2 := hx1.trans hx2
 obtain ⟨ta, tn, tc, rfl⟩ := g2.shape
 go_wp2_with fail
 refine (placeBy_c _ _ l key g2.ints).mono ?_
 rintro e w3 ⟨z, rfl, hx3, hz⟩
 have E3 : Ext w w3 := E2.trans hx3
 have hs3 := hx3.size
 have g3 : OwnI w1.heap.size 113 2 w3 (.slice ta tn tc) (flPair l) := Own.ext g2 hx3
 rcases hz with ⟨rfl, hf⟩ | ⟨i, d, rfl, hd, hf⟩
 ·
  have ha : at_ DPair.Key key l = none := hf
  have e1 : cutOk l key = false := by simp [cutOk, ha]
  have e3 : cutL l key = l := cutL_none (by rw [ha]; rfl)
  have HE1 := Lib.hid e1; have HE3 := Lib.hid e3
  clear e1 e3 ha hf
  go_wp2_with fail
  go_ret2
  refine ⟨_, rfl, ?_, _, by (rw [HE1.out]; try rfl), ?_⟩
  ·
   exact xT
  rw [HE2.out]
  rw [HE3.out]; exact g3.mono oM
 have ha : at_ DPair.Key key l = some d := hf
 have e1 : cutOk l key = true := by simp [cutOk, ha, HP.out]
 have hil : i < l.length := (List.getElem?_eq_some_iff.1 hd).1
 have e3 : cutL l key = l.take i ++ l.drop (i + 1) := cut_list HP.out hd (at_some ha).2
 have HE1 := Lib.hid e1; have HE3 := Lib.hid e3
 have hi0 : ¬ ((i : Int) < 0) := by omega
 have hw1 : IntKind.i64.wrap ((i : Int) + 1) = (i : Int) + 1 := by rw [IntKind.wrap_i64]; omega
 clear e1 e3 ha hf hd
 go_wp2_with fail
 refine (delPair _ w1.heap.size _ _ l.length i g3 (length_flPair l) oM hil).mono ?_
 rintro e w4 ⟨r4, rfl, g4, hg4⟩
 obtain ⟨ra, rn, rc, rfl⟩ := g4.shape
 have E4 : Ext w w4 := OwnI.grown2 g3 E3 oM hg4
 go_wp2_with fail
 go_ret2
 refine ⟨_, rfl, E4, _, by (rw [HE1.out]; try rfl), ?_⟩
 rw [HE2.out, HE3.out, flPair_app, ← (flPair_cut l i).1, ← (flPair_cut l (i + 1)).2]
 exact g4.mono oM
theorem jobAdded_e (w : World) (s : Value) (l : List DJob) (x0 x1 x2 x3 x4 : Int) (h : Ints 5 w s (flJob l)) :
  Calls Tryz.prog 140 #[s, .agg #[.int .i64 x0, .int .i64 x1, .int .i64 x2, .int .i64 x3, .int .i64 x4]] w (Ret w fun r w' => ∃ u, r = .tuple #[u, .bool (addOk l ⟨x0, x1, x2, x3, x4⟩)] ∧ OwnI w.heap.size 95 5 w' u (flJob (addR l ⟨x0, x1, x2, x3, x4⟩))) := by
 have HS := Lib.hid h
 obtain ⟨a0, n0, k0, rfl⟩ := h.shape
 clear h
 obtain ⟨W0, hW0⟩ : ∃ W0, W0 = w.alloc (.cells #[.int .i64 x0, .int .i64 x1, .int .i64 x2, .int .i64 x3, .int .i64 x4] 95) := ⟨_, rfl⟩
 have E0 : Ext w W0 := by rw [hW0]; exact (Ext.refl _).alloc _
 have K0 : Blk W0 w.heap.size 95 #[.int .i64 x0, .int .i64 x1, .int .i64 x2, .int .i64 x3, .int .i64 x4] := by rw [hW0]; exact Blk.new _ _ _
 have HW0 := Lib.hid hW0
 have hs0 := E0.size
 clear hW0
 go_enter Tryz.func140, Tryz.ntmps140
 go_wp2_with fail
 rw [← HW0.out]
 refine (jobsOk_c _ _ l (HS.out.ext E0)).mono ?_
 rintro e w1 ⟨rfl, hx1⟩
 have hs1 := hx1.size
 have E1 : Ext w w1 := E0.trans hx1
 have K1 := K0.ext hx1
 cases hp : jobsOk l
 ·
  have e1 : addOk l ⟨x0, x1, x2, x3, x4⟩ = false := by simp [addOk, hp]
  have e2 : addR l ⟨x0, x1, x2, x3, x4⟩ = [] := by simp [addR, hp]
  have HE1 := Lib.hid e1; have HE2 := Lib.hid e2
  clear e1 e2
  go_wp2_with fail
  go_ret2
  refine ⟨_, rfl, ?_, _, by (rw [HE1.out]; try rfl), ?_⟩
  ·
   exact xT
  rw [HE2.out]
  exact OwnI.nil _ _ _ _
 have HP := Lib.hid hp
 have hln := jobsOk_len hp
 clear hp
 go_wp2_with fail
 refine (copyJobs_c _ _ l (HS.out.ext E1) oM).mono ?_
 rintro e w2 ⟨_, rfl, hx2, g2⟩
 have hs2 := hx2.size
 have E2 : Ext w w2 := E1.trans hx2
 have K2 := K1.ext hx2
 obtain ⟨ta, tn, tc, rfl, hl0, hc0, hm0, hor⟩ := Own.open_ g2
 have htn : tn = l.length := by simp only [List.length_map, length_flJob] at hl0; omega
 subst htn
 clear hl0 hor
 obtain ⟨C2, F2, L2⟩ := K2.cfl
 go_wp2_with fail
 refine (jobAt_e _ _ l x0 (HS.out.ext E2)).mono ?_
 rintro e w3 ⟨rfl, hx3⟩
 obtain ⟨Jf, hJf⟩ : ∃ Jf, Jf = jget l x0 := ⟨_, rfl⟩
 rw [← hJf]
 clear hJf C2 F2 L2
 obtain ⟨W4, hW4⟩ : ∃ W4, W4 = w3.alloc (.cells #[.int .i64 Jf.Id, .int .i64 Jf.Due, .int .i64 Jf.Key, .int .i64 Jf.Value, .int .i64 Jf.Fired] 95) := ⟨_, rfl⟩
 have X4 : Ext w2 W4 := by rw [hW4]; exact hx3.alloc _
 have HW4 := Lib.hid hW4
 have E4 : Ext w W4 := E2.trans X4
 have hs4 := X4.size
 have K4 := K2.ext X4
 have g4 : OwnI w1.heap.size 95 5 W4 (.slice ta l.length tc) (flJob l) := Own.ext g2 X4
 obtain ⟨C4, F4, L4⟩ := K4.cfl
 clear hW4
 cases hj : jhas l x0
 rotate_left
 ·
  have hj2 : (at_ DJob.Id x0 l).isSome = true := hj
  clear C4 F4 L4
  have C3 := (K2.ext hx3).cell; have L3 := (K2.ext hx3).lt
  have e1 : addOk l ⟨x0, x1, x2, x3, x4⟩ = false := by simp [addOk, hj2]
  have e2 : addR l ⟨x0, x1, x2, x3, x4⟩ = l := by simp only [addR, HP.out, e1]; rfl
  have HE1 := Lib.hid e1; have HE2 := Lib.hid e2
  clear e1 e2
  go_wp2_with fail
  go_ret2
  refine ⟨_, rfl, ?_, _, by (rw [HE1.out]; try rfl), ?_⟩
  ·
   exact xT
  rw [HE2.out]
  exact (Own.ext g2 (hx3.trans ((Ext.refl _).alloc _))).mono oM
 have hj2 : (at_ DJob.Id x0 l).isSome = false := hj
 have HJ := Lib.hid hj2
 clear hj hj2 C4 F4 L4
 have C3 := (K2.ext hx3).cell; have L3 := (K2.ext hx3).lt
 go_wp2_with fail
 rw [← HW4.out]
 clear C3 L3
 refine (jobOk_c _ x0 x1 x2 x3 x4).mono ?_
 rintro e w5 ⟨rfl, hx5⟩
 have E5 := E4.trans hx5
 have K5 := K4.ext hx5
 have hs5 := hx5.size
 have g5 : OwnI w1.heap.size 95 5 w5 (.slice ta l.length tc) (flJob l) := Own.ext g4 hx5
 obtain ⟨C5, F5, L5⟩ := K5.cfl
 cases hok : jobOk ⟨x0, x1, x2, x3, x4⟩
 ·
  have e1 : addOk l ⟨x0, x1, x2, x3, x4⟩ = false := by simp [addOk, hok]
  have e2 : addR l ⟨x0, x1, x2, x3, x4⟩ = l := by simp only [addR, HP.out, e1]; rfl
  have HE1 := Lib.hid e1; have HE2 := Lib.hid e2
  clear e1 e2
  go_wp2_with fail
  go_ret2
  refine ⟨_, rfl, ?_, _, by (rw [HE1.out]; try rfl), ?_⟩
  ·
   exact xT
  rw [HE2.out]
  exact g5.mono oM
 have HOK := Lib.hid hok
 clear hok
 go_wp2_with fail
 refine (open_e _ x0 x1 x2 x3 x4).mono ?_
 rintro e w6 ⟨rfl, hx6⟩
 have E6 := E5.trans hx6
 have K6 := K5.ext hx6
 have hs6 := hx6.size
 have g6 : OwnI w1.heap.size 95 5 w6 (.slice ta l.length tc) (flJob l) := Own.ext g5 hx6
 clear C5 F5 L5
 obtain ⟨C6, F6, L6⟩ := K6.cfl
 by_cases hfz : x4 = 0
 rotate_left
 ·
  rw [show decide ((⟨x0, x1, x2, x3, x4⟩ : DJob).Fired = 0) = false by simp [hfz]]
  have e1 : addOk l ⟨x0, x1, x2, x3, x4⟩ = false := by simp [addOk, hfz]
  have e2 : addR l ⟨x0, x1, x2, x3, x4⟩ = l := by simp only [addR, HP.out, e1]; rfl
  have HE1 := Lib.hid e1; have HE2 := Lib.hid e2
  clear e1 e2
  go_wp2_with fail
  go_ret2
  refine ⟨_, rfl, ?_, _, by (rw [HE1.out]; try rfl), ?_⟩
  ·
   exact xT
  rw [HE2.out]
  exact g6.mono oM
 rw [show decide ((⟨x0, x1, x2, x3, x4⟩ : DJob).Fired = 0) = true by simp [hfz]]
 have HFZ := Lib.hid hfz
 clear hfz
 have hn0 : n0 = l.length := by
  obtain ⟨a9, cap9, e9, _⟩ := HS.out.recs (f := DJob.ints) (fun _ => rfl) dC
  injection e9
 subst hn0
 by_cases h8 : 8 ≤ l.length
 ·
  have h8i : decide ((l.length : Int) = 8) = true := by simp; omega
  have h8j : decide (l.length = 8) = true := by simp; omega
  have e1 : addOk l ⟨x0, x1, x2, x3, x4⟩ = false := by simp [addOk]; omega
  have e2 : addR l ⟨x0, x1, x2, x3, x4⟩ = l := by simp only [addR, HP.out, e1]; rfl
  have HE1 := Lib.hid e1; have HE2 := Lib.hid e2
  clear e1 e2
  go_wp2_with fail
  go_ret2
  refine ⟨_, rfl, ?_, _, by (rw [HE1.out]; try rfl), ?_⟩
  ·
   exact xT
  rw [HE2.out]
  exact g6.mono oM
 have h8i : decide ((l.length : Int) = 8) = false := by simp; omega
 have h9 : l.length < 8 := by omega
 have e1 : addOk l ⟨x0, x1, x2, x3, x4⟩ = true := by unfold addOk; rw [HP.out, HOK.out]; simp [HFZ.out, HJ.out, h9]
 have e2 : addR l ⟨x0, x1, x2, x3, x4⟩ = addL l ⟨x0, x1, x2, x3, x4⟩ := by simp only [addR, HP.out, e1]; rfl
 have HE1 := Lib.hid e1; have HE2 := Lib.hid e2
 have HSR := Lib.hid (jobsOk_srt HP.out).2.1
 obtain ⟨a9, cap9, e9, hcap9, hm9, ha9⟩ := g6.ints.recs (f := DJob.ints) (fun _ => rfl) dC
 injection e9 with e9a _ e9c
 subst e9a; subst e9c
 have HA := Lib.hid ha9
 clear e1 e2 ha9 hcap9 hm9
 go_wp2_with fail
 go_loopw [9] (fun kk wr => ∃ k : Nat, k ≤ l.length ∧ kk = .int .i64 k ∧ Ext w6 wr ∧ Hid (∀ i a, i < k → l[i]? = some a → a.Id < x0)) (fun kk _ => l.length - (intOf kk).toNat)
 case atStart => exact ⟨0, Nat.zero_le _, rfl, Ext.refl _, Lib.hid (fun i a hi => by omega)⟩
 case round =>
  obtain ⟨k, hk, rfl, he, hlow⟩ := hrel
  have gr : OwnI w1.heap.size 95 5 wr (.slice ta l.length tc) (flJob l) := Own.ext g6 he
  have E4 := E6
  have hsr := he.size
  have Kr := K6.ext he
  clear C6 F6 L6
  by_cases hlt : k < l.length
  ·
   obtain ⟨d, b1, o1, hd, rfl, hb1, c⟩ := HA.out k hlt
   have d0 := he.cell (c 0 _ dC rfl)
   simp only [Nat.add_zero] at d0
   have HD := Lib.hid hd
   clear c hd
   have q0 := Kr.cell 0
   by_cases hq : d.Id < x0
   ·
    go_wp2_with fail
    go_quiet (fail)
    go_wp2_with fail
    go_roundw
    case rel => exact ⟨k + 1, by omega, by go_num, xT, Lib.hid (srt_upto hlow.out HD.out hq)⟩
    case measure => simp [intOf]; omega
   have hkk : x0 < d.Id := by
    have hj3 := HJ.out
    rcases Int.lt_trichotomy d.Id x0 with h | h | h
    ·
     omega
    ·
     have := (set_at HSR.out HD.out h).2.2.1
     rw [this] at hj3; simp at hj3
    exact h
   go_wp2_with fail
   go_quiet (fail)
   rename_i nq
   obtain ⟨WQ, hWQ⟩ : ∃ WQ, WQ = wr.drewN nq := ⟨_, rfl⟩
   have XQ : Ext wr WQ := by rw [hWQ]; exact Ext.drewN (Ext.refl _) _
   rw [← hWQ]
   clear hWQ
   have gq : OwnI w1.heap.size 95 5 WQ (.slice (some ⟨b1, o1, none⟩) l.length tc) (flJob l) := Own.ext gr XQ
   have Kq := Kr.ext XQ
   obtain ⟨Cq, Fq, Lq⟩ := Kq.cfl
   have hsq := XQ.size
   have eq := he.trans XQ
   have hil := ins_list (key := DJob.Id) (d := (⟨x0, x1, x2, x3, x4⟩ : DJob)) (k := k) HSR.out hlow.out (fun a ha => by rw [HD.out] at ha; injection ha with ha; subst ha; exact hkk)
   have HIL := Lib.hid hil
   have hnb : Value.ownBlock (.slice (some ⟨b1, o1, none⟩) l.length tc) ≠ some WQ.heap.size := by
    intro hh
    have := (Own.lt gq hh).2
    omega
   clear hil
   go_wp2_with fail
   refine (insJob _ w1.heap.size _ _ [x0, x1, x2, x3, x4] l.length k WQ.heap.size (Own.ext gq ((Ext.refl _).alloc _)) (length_flJob l) oM (Blk.new _ _ _) rfl (by simp; omega) oM hnb).mono ?_
   rintro e w9 ⟨r3, rfl, g9, hg9⟩
   obtain ⟨ra, rn, rc, rfl⟩ := g9.shape
   have E9 : Ext w w9 := OwnI.grown2 (Own.ext gq ((Ext.refl _).alloc _)) ((E4.trans eq).alloc _) oM hg9
   go_wp2_with fail
   go_ret2
   refine ⟨_, rfl, E9, _, by (rw [HE1.out]; try rfl), ?_⟩
   rw [HE2.out, show addL l ⟨x0, x1, x2, x3, x4⟩ = _ from HIL.out, flJob_app, ← (flJob_cut l k).1]
   rw [show flJob ((⟨x0, x1, x2, x3, x4⟩ : DJob) :: l.drop k) = [x0, x1, x2, x3, x4] ++ (flJob l).drop (k * 5) by rw [(flJob_cut l k).2]; rfl, ← List.append_assoc]
   exact g9.mono oM
  obtain rfl : k = l.length := by omega
  go_wp2_with fail
  go_quiet (fail)
  rename_i nq
  obtain ⟨WQ, hWQ⟩ : ∃ WQ, WQ = wr.drewN nq := ⟨_, rfl⟩
  have XQ : Ext wr WQ := by rw [hWQ]; exact Ext.drewN (Ext.refl _) _
  rw [← hWQ]
  clear hWQ
  have gq : OwnI w1.heap.size 95 5 WQ (.slice ta l.length tc) (flJob l) := Own.ext gr XQ
  have Kq := Kr.ext XQ
  obtain ⟨Cq, Fq, Lq⟩ := Kq.cfl
  have hsq := XQ.size
  have eq := he.trans XQ
  have hil := ins_list (key := DJob.Id) (d := (⟨x0, x1, x2, x3, x4⟩ : DJob)) (k := l.length) HSR.out hlow.out none_of_upto
  have HIL := Lib.hid hil
  have hnb : Value.ownBlock (.slice ta l.length tc) ≠ some WQ.heap.size := by
   intro hh
   have := (Own.lt gq hh).2
   omega
  clear hil
  go_wp2_with fail
  refine (insJob _ w1.heap.size _ _ [x0, x1, x2, x3, x4] l.length l.length WQ.heap.size (Own.ext gq ((Ext.refl _).alloc _)) (length_flJob l) oM (Blk.new _ _ _) rfl (by simp; omega) oM hnb).mono ?_
  rintro e w9 ⟨r3, rfl, g9, hg9⟩
  obtain ⟨ra, rn, rc, rfl⟩ := g9.shape
  have E9 : Ext w w9 := OwnI.grown2 (Own.ext gq ((Ext.refl _).alloc _)) ((E4.trans eq).alloc _) oM hg9
  go_wp2_with fail
  go_ret2
  refine ⟨_, rfl, E9, _, by (rw [HE1.out]; try rfl), ?_⟩
  rw [HE2.out, show addL l ⟨x0, x1, x2, x3, x4⟩ = _ from HIL.out, flJob_app, ← (flJob_cut l l.length).1]
  rw [show flJob ((⟨x0, x1, x2, x3, x4⟩ : DJob) :: l.drop l.length) = [x0, x1, x2, x3, x4] ++ (flJob l).drop (l.length * 5) by rw [(flJob_cut l l.length).2]; rfl, ← List.append_assoc]
  exact g9.mono oM
end Go.Proofs.YtlnkggpemdpemaaGreat
namespace Go.G8
open Go.RowKit
open Go.Proofs.YtlnkggpemdpemaaGreat
noncomputable def midS (s : DState) (e : DEntry) : DState :=
 if e.Op.Kind = 1 then ⟨s.Index, s.Time, putR s.Pairs e.Op.A e.Op.B, s.Jobs, s.Lease⟩
 else if e.Op.Kind = 2 then ⟨s.Index, s.Time, cutR s.Pairs e.Op.A, s.Jobs, s.Lease⟩
 else if e.Op.Kind = 3 then ⟨s.Index, s.Time, s.Pairs, addR s.Jobs ⟨e.Op.A, e.Op.B, e.Op.C, e.Op.D, 0⟩, s.Lease⟩
 else if e.Op.Kind = 4 then (if fires s e then ⟨s.Index, s.Time, putR s.Pairs (jget s.Jobs e.Op.A).Key (jget s.Jobs e.Op.A).Value, fireR s.Jobs e.Op.A e.Index, s.Lease⟩ else s)
 else ⟨s.Index, s.Time, s.Pairs, s.Jobs, grantR s.Lease e.Client e.Time e.Op.A⟩
def MixS (pt jt : TypeId) (w0 : World) (B : Nat) (w : World) (v : Value) (s : DState) : Prop := ∃ t2 t3 : Value, v = .agg #[.int .i64 s.Index, .int .i64 s.Time, t2, t3, .int .i64 s.Lease.Holder, .int .i64 s.Lease.Epoch, .int .i64 s.Lease.Until] ∧
 (Ints 2 w0 t2 (flPair s.Pairs) ∨ OwnI B pt 2 w t2 (flPair s.Pairs)) ∧ (Ints 5 w0 t3 (flJob s.Jobs) ∨ OwnI B jt 5 w t3 (flJob s.Jobs))
theorem MixS.rd {pt jt : TypeId} {w0 w w' : World} {B : Nat} {v : Value} {s : DState} (h : MixS pt jt w0 B w v s) (x : Ext w0 w') (c : Chg B w w') : RdState w' v s := by
 obtain ⟨t2, t3, e, h2, h3⟩ := h
 exact ⟨t2, t3, e, h2.elim (fun h => h.ext x) (fun h => (h.keep c).ints), h3.elim (fun h => h.ext x) (fun h => (h.keep c).ints)⟩
theorem MixS.keep {pt jt : TypeId} {w0 w w' : World} {B : Nat} {v : Value} {s : DState} (h : MixS pt jt w0 B w v s) (c : Chg B w w') : MixS pt jt w0 B w' v s := by
 obtain ⟨t2, t3, e, h2, h3⟩ := h
 exact ⟨t2, t3, e, h2.imp id (fun h => h.keep c), h3.imp id (fun h => h.keep c)⟩
theorem MixS.mono {pt jt : TypeId} {w0 w : World} {B B' : Nat} {v : Value} {s : DState} (h : MixS pt jt w0 B w v s) (c : B' ≤ B) : MixS pt jt w0 B' w v s := by
 obtain ⟨t2, t3, e, h2, h3⟩ := h
 exact ⟨t2, t3, e, h2.imp id (fun h => h.mono c), h3.imp id (fun h => h.mono c)⟩
theorem OwnI.boxI {B : Nat} {e : TypeId} {n : Nat} {w : World} {v : Value} {xs : List Int} (h : OwnI B e n w v xs) {X : Nat} {t : TypeId} {a : Array Value} (hX : Blk w X t a) (h1 : t ≠ e) (i : Nat) (u : Value) : OwnI B e n (w.setCell ⟨X, i, none⟩ u) v xs :=
 OwnI.upd' h ((Upd.refl w [X]).setCell (by simp) _) (fun k hk hf => by
  obtain ⟨cur, hb⟩ := h.typed hk
  simp at hf; subst hf
  exact h1 (hX.same hb))
theorem MixS.box {pt jt : TypeId} {w0 w : World} {B : Nat} {v : Value} {s : DState} (h : MixS pt jt w0 B w v s) {X : Nat} {t : TypeId} {a : Array Value} (hX : Blk w X t a) (h1 : t ≠ pt) (h2 : t ≠ jt) (i : Nat) (u : Value) : MixS pt jt w0 B (w.setCell ⟨X, i, none⟩ u) v s := by
 obtain ⟨t2, t3, e, g2, g3⟩ := h
 exact ⟨t2, t3, e, g2.imp id (fun h => h.boxI hX h1 i u), g3.imp id (fun h => h.boxI hX h2 i u)⟩
theorem MixS.rd0 {pt jt : TypeId} {w0 w : World} {B : Nat} {v : Value} {s : DState} (h : MixS pt jt w0 B w v s) (x : Ext w0 w) : RdState w v s := h.rd x (Chg.refl _ _)
theorem MixS.re {pt jt : TypeId} {w0 w : World} {B : Nat} {s : DState} {t2 t3 : Value} (h : MixS pt jt w0 B w (.agg #[.int .i64 s.Index, .int .i64 s.Time, t2, t3, .int .i64 s.Lease.Holder, .int .i64 s.Lease.Epoch, .int .i64 s.Lease.Until]) s) (i t : Int) : MixS pt jt w0 B w (.agg #[.int .i64 i, .int .i64 t, t2, t3, .int .i64 s.Lease.Holder, .int .i64 s.Lease.Epoch, .int .i64 s.Lease.Until]) ⟨i, t, s.Pairs, s.Jobs, s.Lease⟩ := by
 obtain ⟨u2, u3, e, g2, g3⟩ := h
 injection e with e
 injection e with e
 injection e with _ e
 injection e with _ e
 injection e with e2 e
 injection e with e3 e
 subst e2; subst e3
 exact ⟨_, _, rfl, g2, g3⟩
theorem MixS.shape {pt jt : TypeId} {w0 w : World} {B : Nat} {v : Value} {s : DState} (h : MixS pt jt w0 B w v s) : ∃ a2 n2 k2 a3 n3 k3, v = .agg #[.int .i64 s.Index, .int .i64 s.Time, .slice a2 n2 k2, .slice a3 n3 k3, .int .i64 s.Lease.Holder, .int .i64 s.Lease.Epoch, .int .i64 s.Lease.Until] := by
 obtain ⟨t2, t3, rfl, h2, h3⟩ := h
 obtain ⟨a2, n2, k2, rfl⟩ := h2.elim (fun h => h.shape) (fun h => h.shape)
 obtain ⟨a3, n3, k3, rfl⟩ := h3.elim (fun h => h.shape) (fun h => h.shape)
 exact ⟨a2, n2, k2, a3, n3, k3, rfl⟩
theorem mid_step {s : DState} {e : DEntry} (hs : stateOk s = true) (hn : nextIn s e = true) (hd : doesS s e = true) : stepS s e = ⟨e.Index, e.Time, (midS s e).Pairs, (midS s e).Jobs, (midS s e).Lease⟩ := by
 have ho := (entryOk_parts (nextIn_parts hn).1).2.2.2
 rcases opOk_kind ho with hk | hk | hk | hk | hk
 ·
  rw [step_put hs ho hk]; simp [midS, hk]
 ·
  rw [step_cut hs hk]; simp [midS, hk]
 ·
  rw [step_add hk]; simp [midS, hk]
 ·
  have hf : fires s e = true := by simpa [doesS, hk] using hd
  rw [step_fire hs hn hk hf]; simp [midS, hk, hf]
 rw [step_lease hk]; simp [midS, hk]
end Go.G8
namespace Go.Proofs.YtlnkggpemdpemaaGreat
open Go.RowKit Go.G8
theorem eff1_k {w0 w : World} {v : Value} {s : DState} (h : RdState w0 v s) (x : Ext w0 w) (ei et ec es oa ob oc od : Int) (hs : stateOk s = true) (ho : opOk ⟨1, oa, ob, oc, od⟩ = true) :
  Calls Tryz.prog 135 #[v, .agg #[.int .i64 ei, .int .i64 et, .int .i64 ec, .int .i64 es, .int .i64 1, .int .i64 oa, .int .i64 ob, .int .i64 oc, .int .i64 od]] w (Ret w fun r w' => ∃ u, r = .tuple #[u, .bool (doesS s ⟨ei, et, ec, es, ⟨1, oa, ob, oc, od⟩⟩)] ∧ MixS 113 95 w0 w.heap.size w' u (midS s ⟨ei, et, ec, es, ⟨1, oa, ob, oc, od⟩⟩)) := by
 have HS := Lib.hid (h.ext x)
 have HSO := Lib.hid hs; have HOO := Lib.hid ho
 obtain ⟨t2, t3, rfl, h2, h3⟩ := h
 obtain ⟨a2, n2, k2, rfl⟩ := h2.shape
 obtain ⟨a3, n3, k3, rfl⟩ := h3.shape
 have G2 := Lib.hid h2; have G3 := Lib.hid h3
 have H2 := Lib.hid (h2.ext x); have H3 := Lib.hid (h3.ext x)
 clear h2 h3 hs ho
 obtain ⟨W1, hW1⟩ : ∃ W1, W1 = ((w.alloc (.cells #[.int .i64 s.Index, .int .i64 s.Time, .slice a2 n2 k2, .slice a3 n3 k3, .int .i64 s.Lease.Holder, .int .i64 s.Lease.Epoch, .int .i64 s.Lease.Until] 39)).alloc (.cells #[.int .i64 ei, .int .i64 et, .int .i64 ec, .int .i64 es, .int .i64 1, .int .i64 oa, .int .i64 ob, .int .i64 oc, .int .i64 od] 54)).alloc (.cells #[.int .i64 0, .int .i64 0, .slice none 0 0, .slice none 0 0, .int .i64 0, .int .i64 0, .int .i64 0] 39) := ⟨_, rfl⟩
 have E1 : Ext w W1 := by rw [hW1]; exact (((Ext.refl _).alloc _).alloc _).alloc _
 have KS1 : Blk W1 w.heap.size 39 #[.int .i64 s.Index, .int .i64 s.Time, .slice a2 n2 k2, .slice a3 n3 k3, .int .i64 s.Lease.Holder, .int .i64 s.Lease.Epoch, .int .i64 s.Lease.Until] := by rw [hW1]; exact ((Blk.new _ _ _).alloc _).alloc _
 have KE1 : Blk W1 (w.heap.size + 1) 54 #[.int .i64 ei, .int .i64 et, .int .i64 ec, .int .i64 es, .int .i64 1, .int .i64 oa, .int .i64 ob, .int .i64 oc, .int .i64 od] := by rw [hW1]; exact (Blk.new2 _ _ _ _).alloc _
 have KR1 : Blk W1 (w.heap.size + 1 + 1) 39 #[.int .i64 0, .int .i64 0, .slice none 0 0, .slice none 0 0, .int .i64 0, .int .i64 0, .int .i64 0] := by rw [hW1]; exact Blk.new3 _ _ _ _ _
 have hz1 : W1.heap.size = w.heap.size + 1 + 1 + 1 := by rw [hW1]; simp
 have HW1 := Lib.hid hW1
 have HZ1 := Lib.hid hz1
 have hz1' : w.heap.size + 2 < W1.heap.size := by omega
 clear hW1 hz1
 go_enter Tryz.func135, Tryz.ntmps135
 go_wp2_with fail
 rw [← HW1.out]
 have CS1 := KS1.cell; have FS1 := KS1.frozen; have LS1 := KS1.lt; have CE1 := KE1.cell; have FE1 := KE1.frozen; have LE1 := KE1.lt
 go_wp2_with fail
 refine (put_e _ _ s.Pairs oa ob (H2.out.ext E1)).mono ?_
 rintro e9 w2 ⟨_, rfl, hx2, u, rfl, g⟩
 obtain ⟨ua, un, uc, rfl⟩ := g.shape
 have E2 : Ext w w2 := E1.trans hx2
 have KS2 := KS1.ext hx2; have KE2 := KE1.ext hx2; have KR2 := KR1.ext hx2
 clear CS1 FS1 LS1 CE1 FE1 LE1
 have CS2 := KS2.cell; have FS2 := KS2.frozen; have LS2 := KS2.lt; have CE2 := KE2.cell; have FE2 := KE2.frozen; have LE2 := KE2.lt; have CR2 := KR2.cell; have FR2 := KR2.frozen; have LR2 := KR2.lt
 have hz2 := hx2.size
 have e1 : putOk s.Pairs oa ob = true := by
  have := opOk_put HOO.out rfl
  unfold putOk; rw [(stateOk_parts HSO.out).2.2.2.1, this]; rfl
 rw [e1]
 clear e1
 have hd : doesS s ⟨ei, et, ec, es, ⟨1, oa, ob, oc, od⟩⟩ = true := by simp [doesS]
 have hm : midS s ⟨ei, et, ec, es, ⟨1, oa, ob, oc, od⟩⟩ = ⟨s.Index, s.Time, putR s.Pairs oa ob, s.Jobs, s.Lease⟩ := by simp [midS]
 have HD := Lib.hid hd; have HM := Lib.hid hm
 clear hd hm
 go_wp2_with fail
 refine bodyPost_ret (by simp [results, Tryz.results135, go_sem, *]; try rfl) rfl ?_
 refine ⟨_, rfl, xT, _, by (rw [HD.out]; try rfl), ?_⟩
 rw [HM.out]
 exact ⟨_, _, rfl, .inr (OwnI.mono (OwnI.keep g chgT) oM), .inl G3.out⟩
theorem eff2_k {w0 w : World} {v : Value} {s : DState} (h : RdState w0 v s) (x : Ext w0 w) (ei et ec es oa ob oc od : Int) (hs : stateOk s = true) (ho : opOk ⟨2, oa, ob, oc, od⟩ = true) :
  Calls Tryz.prog 137 #[v, .agg #[.int .i64 ei, .int .i64 et, .int .i64 ec, .int .i64 es, .int .i64 2, .int .i64 oa, .int .i64 ob, .int .i64 oc, .int .i64 od]] w (Ret w fun r w' => ∃ u, r = .tuple #[u, .bool (doesS s ⟨ei, et, ec, es, ⟨2, oa, ob, oc, od⟩⟩)] ∧ MixS 113 95 w0 w.heap.size w' u (midS s ⟨ei, et, ec, es, ⟨2, oa, ob, oc, od⟩⟩)) := by
 have HS := Lib.hid (h.ext x)
 have HSO := Lib.hid hs; have HOO := Lib.hid ho
 obtain ⟨t2, t3, rfl, h2, h3⟩ := h
 obtain ⟨a2, n2, k2, rfl⟩ := h2.shape
 obtain ⟨a3, n3, k3, rfl⟩ := h3.shape
 have G2 := Lib.hid h2; have G3 := Lib.hid h3
 have H2 := Lib.hid (h2.ext x); have H3 := Lib.hid (h3.ext x)
 clear h2 h3 hs ho
 obtain ⟨W1, hW1⟩ : ∃ W1, W1 = ((w.alloc (.cells #[.int .i64 s.Index, .int .i64 s.Time, .slice a2 n2 k2, .slice a3 n3 k3, .int .i64 s.Lease.Holder, .int .i64 s.Lease.Epoch, .int .i64 s.Lease.Until] 39)).alloc (.cells #[.int .i64 ei, .int .i64 et, .int .i64 ec, .int .i64 es, .int .i64 2, .int .i64 oa, .int .i64 ob, .int .i64 oc, .int .i64 od] 54)).alloc (.cells #[.int .i64 0, .int .i64 0, .slice none 0 0, .slice none 0 0, .int .i64 0, .int .i64 0, .int .i64 0] 39) := ⟨_, rfl⟩
 have E1 : Ext w W1 := by rw [hW1]; exact (((Ext.refl _).alloc _).alloc _).alloc _
 have KS1 : Blk W1 w.heap.size 39 #[.int .i64 s.Index, .int .i64 s.Time, .slice a2 n2 k2, .slice a3 n3 k3, .int .i64 s.Lease.Holder, .int .i64 s.Lease.Epoch, .int .i64 s.Lease.Until] := by rw [hW1]; exact ((Blk.new _ _ _).alloc _).alloc _
 have KE1 : Blk W1 (w.heap.size + 1) 54 #[.int .i64 ei, .int .i64 et, .int .i64 ec, .int .i64 es, .int .i64 2, .int .i64 oa, .int .i64 ob, .int .i64 oc, .int .i64 od] := by rw [hW1]; exact (Blk.new2 _ _ _ _).alloc _
 have KR1 : Blk W1 (w.heap.size + 1 + 1) 39 #[.int .i64 0, .int .i64 0, .slice none 0 0, .slice none 0 0, .int .i64 0, .int .i64 0, .int .i64 0] := by rw [hW1]; exact Blk.new3 _ _ _ _ _
 have hz1 : W1.heap.size = w.heap.size + 1 + 1 + 1 := by rw [hW1]; simp
 have HW1 := Lib.hid hW1
 have HZ1 := Lib.hid hz1
 have hz1' : w.heap.size + 2 < W1.heap.size := by omega
 clear hW1 hz1
 go_enter Tryz.func137, Tryz.ntmps137
 go_wp2_with fail
 rw [← HW1.out]
 have CS1 := KS1.cell; have FS1 := KS1.frozen; have LS1 := KS1.lt; have CE1 := KE1.cell; have FE1 := KE1.frozen; have LE1 := KE1.lt
 go_wp2_with fail
 refine (cutOut_e _ _ s.Pairs oa (H2.out.ext E1)).mono ?_
 rintro e9 w2 ⟨_, rfl, hx2, u, rfl, g⟩
 obtain ⟨ua, un, uc, rfl⟩ := g.shape
 have E2 : Ext w w2 := E1.trans hx2
 have KS2 := KS1.ext hx2; have KE2 := KE1.ext hx2; have KR2 := KR1.ext hx2
 clear CS1 FS1 LS1 CE1 FE1 LE1
 have CS2 := KS2.cell; have FS2 := KS2.frozen; have LS2 := KS2.lt; have CE2 := KE2.cell; have FE2 := KE2.frozen; have LE2 := KE2.lt; have CR2 := KR2.cell; have FR2 := KR2.frozen; have LR2 := KR2.lt
 have hz2 := hx2.size
 have e1 : cutOk s.Pairs oa = (at_ DPair.Key oa s.Pairs).isSome := by
  unfold cutOk; rw [(stateOk_parts HSO.out).2.2.2.1]; rfl
 have HE1 := Lib.hid e1
 clear e1
 obtain ⟨co, hco⟩ : ∃ co, co = cutOk s.Pairs oa := ⟨_, rfl⟩
 rw [← hco]
 have HCO := Lib.hid hco
 clear hco
 have hd : doesS s ⟨ei, et, ec, es, ⟨2, oa, ob, oc, od⟩⟩ = co := by rw [HCO.out, HE1.out]; simp [doesS]
 have hm : midS s ⟨ei, et, ec, es, ⟨2, oa, ob, oc, od⟩⟩ = ⟨s.Index, s.Time, cutR s.Pairs oa, s.Jobs, s.Lease⟩ := by simp [midS]
 have HD := Lib.hid hd; have HM := Lib.hid hm
 clear hd hm
 go_wp2_with fail
 refine bodyPost_ret (by simp [results, Tryz.results137, go_sem, *]; try rfl) rfl ?_
 refine ⟨_, rfl, xT, _, by (rw [HD.out]; try rfl), ?_⟩
 rw [HM.out]
 exact ⟨_, _, rfl, .inr (OwnI.mono (OwnI.keep g chgT) oM), .inl G3.out⟩
theorem eff3_k {w0 w : World} {v : Value} {s : DState} (h : RdState w0 v s) (x : Ext w0 w) (ei et ec es oa ob oc od : Int) (hs : stateOk s = true) (ho : opOk ⟨3, oa, ob, oc, od⟩ = true) :
  Calls Tryz.prog 139 #[v, .agg #[.int .i64 ei, .int .i64 et, .int .i64 ec, .int .i64 es, .int .i64 3, .int .i64 oa, .int .i64 ob, .int .i64 oc, .int .i64 od]] w (Ret w fun r w' => ∃ u, r = .tuple #[u, .bool (doesS s ⟨ei, et, ec, es, ⟨3, oa, ob, oc, od⟩⟩)] ∧ MixS 113 95 w0 w.heap.size w' u (midS s ⟨ei, et, ec, es, ⟨3, oa, ob, oc, od⟩⟩)) := by
 have HS := Lib.hid (h.ext x)
 have HSO := Lib.hid hs; have HOO := Lib.hid ho
 obtain ⟨t2, t3, rfl, h2, h3⟩ := h
 obtain ⟨a2, n2, k2, rfl⟩ := h2.shape
 obtain ⟨a3, n3, k3, rfl⟩ := h3.shape
 have G2 := Lib.hid h2; have G3 := Lib.hid h3
 have H2 := Lib.hid (h2.ext x); have H3 := Lib.hid (h3.ext x)
 clear h2 h3 hs ho
 obtain ⟨W1, hW1⟩ : ∃ W1, W1 = ((w.alloc (.cells #[.int .i64 s.Index, .int .i64 s.Time, .slice a2 n2 k2, .slice a3 n3 k3, .int .i64 s.Lease.Holder, .int .i64 s.Lease.Epoch, .int .i64 s.Lease.Until] 39)).alloc (.cells #[.int .i64 ei, .int .i64 et, .int .i64 ec, .int .i64 es, .int .i64 3, .int .i64 oa, .int .i64 ob, .int .i64 oc, .int .i64 od] 54)).alloc (.cells #[.int .i64 0, .int .i64 0, .slice none 0 0, .slice none 0 0, .int .i64 0, .int .i64 0, .int .i64 0] 39) := ⟨_, rfl⟩
 have E1 : Ext w W1 := by rw [hW1]; exact (((Ext.refl _).alloc _).alloc _).alloc _
 have KS1 : Blk W1 w.heap.size 39 #[.int .i64 s.Index, .int .i64 s.Time, .slice a2 n2 k2, .slice a3 n3 k3, .int .i64 s.Lease.Holder, .int .i64 s.Lease.Epoch, .int .i64 s.Lease.Until] := by rw [hW1]; exact ((Blk.new _ _ _).alloc _).alloc _
 have KE1 : Blk W1 (w.heap.size + 1) 54 #[.int .i64 ei, .int .i64 et, .int .i64 ec, .int .i64 es, .int .i64 3, .int .i64 oa, .int .i64 ob, .int .i64 oc, .int .i64 od] := by rw [hW1]; exact (Blk.new2 _ _ _ _).alloc _
 have KR1 : Blk W1 (w.heap.size + 1 + 1) 39 #[.int .i64 0, .int .i64 0, .slice none 0 0, .slice none 0 0, .int .i64 0, .int .i64 0, .int .i64 0] := by rw [hW1]; exact Blk.new3 _ _ _ _ _
 have hz1 : W1.heap.size = w.heap.size + 1 + 1 + 1 := by rw [hW1]; simp
 have HW1 := Lib.hid hW1
 have HZ1 := Lib.hid hz1
 have hz1' : w.heap.size + 2 < W1.heap.size := by omega
 clear hW1 hz1
 go_enter Tryz.func139, Tryz.ntmps139
 go_wp2_with fail
 rw [← HW1.out]
 have CS1 := KS1.cell; have FS1 := KS1.frozen; have LS1 := KS1.lt; have CE1 := KE1.cell; have FE1 := KE1.frozen; have LE1 := KE1.lt
 go_wp2_with fail
 refine (jobAdded_e _ _ s.Jobs oa ob oc od 0 (H3.out.ext E1)).mono ?_
 rintro e9 w2 ⟨_, rfl, hx2, u, rfl, g⟩
 obtain ⟨ua, un, uc, rfl⟩ := g.shape
 have E2 : Ext w w2 := E1.trans hx2
 have KS2 := KS1.ext hx2; have KE2 := KE1.ext hx2; have KR2 := KR1.ext hx2
 clear CS1 FS1 LS1 CE1 FE1 LE1
 have CS2 := KS2.cell; have FS2 := KS2.frozen; have LS2 := KS2.lt; have CE2 := KE2.cell; have FE2 := KE2.frozen; have LE2 := KE2.lt; have CR2 := KR2.cell; have FR2 := KR2.frozen; have LR2 := KR2.lt
 have hz2 := hx2.size
 obtain ⟨co, hco⟩ : ∃ co, co = addOk s.Jobs ⟨oa, ob, oc, od, 0⟩ := ⟨_, rfl⟩
 rw [← hco]
 have HCO := Lib.hid hco
 clear hco
 have hd : doesS s ⟨ei, et, ec, es, ⟨3, oa, ob, oc, od⟩⟩ = co := by rw [HCO.out]; simp [doesS]
 have hm : midS s ⟨ei, et, ec, es, ⟨3, oa, ob, oc, od⟩⟩ = ⟨s.Index, s.Time, s.Pairs, addR s.Jobs ⟨oa, ob, oc, od, 0⟩, s.Lease⟩ := by simp [midS]
 have HD := Lib.hid hd; have HM := Lib.hid hm
 clear hd hm
 go_wp2_with fail
 refine bodyPost_ret (by simp [results, Tryz.results139, go_sem, *]; try rfl) rfl ?_
 refine ⟨_, rfl, xT, _, by (rw [HD.out]; try rfl), ?_⟩
 rw [HM.out]
 exact ⟨_, _, rfl, .inl G2.out, .inr (OwnI.mono (OwnI.keep g chgT) oM)⟩
theorem eff5_k {w0 w : World} {v : Value} {s : DState} (h : RdState w0 v s) (x : Ext w0 w) (ei et ec es oa ob oc od : Int) (hs : stateOk s = true) (ho : opOk ⟨5, oa, ob, oc, od⟩ = true) :
  Calls Tryz.prog 145 #[v, .agg #[.int .i64 ei, .int .i64 et, .int .i64 ec, .int .i64 es, .int .i64 5, .int .i64 oa, .int .i64 ob, .int .i64 oc, .int .i64 od]] w (Ret w fun r w' => ∃ u, r = .tuple #[u, .bool (doesS s ⟨ei, et, ec, es, ⟨5, oa, ob, oc, od⟩⟩)] ∧ MixS 113 95 w0 w.heap.size w' u (midS s ⟨ei, et, ec, es, ⟨5, oa, ob, oc, od⟩⟩)) := by
 have HS := Lib.hid (h.ext x)
 have HSO := Lib.hid hs; have HOO := Lib.hid ho
 obtain ⟨t2, t3, rfl, h2, h3⟩ := h
 obtain ⟨a2, n2, k2, rfl⟩ := h2.shape
 obtain ⟨a3, n3, k3, rfl⟩ := h3.shape
 have G2 := Lib.hid h2; have G3 := Lib.hid h3
 have H2 := Lib.hid (h2.ext x); have H3 := Lib.hid (h3.ext x)
 clear h2 h3 hs ho
 obtain ⟨W1, hW1⟩ : ∃ W1, W1 = ((w.alloc (.cells #[.int .i64 s.Index, .int .i64 s.Time, .slice a2 n2 k2, .slice a3 n3 k3, .int .i64 s.Lease.Holder, .int .i64 s.Lease.Epoch, .int .i64 s.Lease.Until] 39)).alloc (.cells #[.int .i64 ei, .int .i64 et, .int .i64 ec, .int .i64 es, .int .i64 5, .int .i64 oa, .int .i64 ob, .int .i64 oc, .int .i64 od] 54)).alloc (.cells #[.int .i64 0, .int .i64 0, .slice none 0 0, .slice none 0 0, .int .i64 0, .int .i64 0, .int .i64 0] 39) := ⟨_, rfl⟩
 have E1 : Ext w W1 := by rw [hW1]; exact (((Ext.refl _).alloc _).alloc _).alloc _
 have KS1 : Blk W1 w.heap.size 39 #[.int .i64 s.Index, .int .i64 s.Time, .slice a2 n2 k2, .slice a3 n3 k3, .int .i64 s.Lease.Holder, .int .i64 s.Lease.Epoch, .int .i64 s.Lease.Until] := by rw [hW1]; exact ((Blk.new _ _ _).alloc _).alloc _
 have KE1 : Blk W1 (w.heap.size + 1) 54 #[.int .i64 ei, .int .i64 et, .int .i64 ec, .int .i64 es, .int .i64 5, .int .i64 oa, .int .i64 ob, .int .i64 oc, .int .i64 od] := by rw [hW1]; exact (Blk.new2 _ _ _ _).alloc _
 have KR1 : Blk W1 (w.heap.size + 1 + 1) 39 #[.int .i64 0, .int .i64 0, .slice none 0 0, .slice none 0 0, .int .i64 0, .int .i64 0, .int .i64 0] := by rw [hW1]; exact Blk.new3 _ _ _ _ _
 have hz1 : W1.heap.size = w.heap.size + 1 + 1 + 1 := by rw [hW1]; simp
 have HW1 := Lib.hid hW1
 have HZ1 := Lib.hid hz1
 have hz1' : w.heap.size + 2 < W1.heap.size := by omega
 clear hW1 hz1
 go_enter Tryz.func145, Tryz.ntmps145
 go_wp2_with fail
 rw [← HW1.out]
 have CS1 := KS1.cell; have FS1 := KS1.frozen; have LS1 := KS1.lt; have CE1 := KE1.cell; have FE1 := KE1.frozen; have LE1 := KE1.lt
 go_wp2_with fail
 refine (granted_e _ s.Lease.Holder s.Lease.Epoch s.Lease.Until ec et oa).mono ?_
 rintro e9 w2 ⟨rfl, hx2⟩
 have E2 : Ext w w2 := E1.trans hx2
 have KS2 := KS1.ext hx2; have KE2 := KE1.ext hx2; have KR2 := KR1.ext hx2
 clear CS1 FS1 LS1 CE1 FE1 LE1
 have CS2 := KS2.cell; have FS2 := KS2.frozen; have LS2 := KS2.lt; have CE2 := KE2.cell; have FE2 := KE2.frozen; have LE2 := KE2.lt; have CR2 := KR2.cell; have FR2 := KR2.frozen; have LR2 := KR2.lt
 have hz2 := hx2.size
 obtain ⟨co, hco⟩ : ∃ co, co = grantOk s.Lease ec et oa := ⟨_, rfl⟩
 obtain ⟨cl, hcl⟩ : ∃ cl, cl = grantR s.Lease ec et oa := ⟨_, rfl⟩
 have hl : (⟨s.Lease.Holder, s.Lease.Epoch, s.Lease.Until⟩ : DLease) = s.Lease := rfl
 rw [hl, ← hco, ← hcl]
 have HCO := Lib.hid hco; have HCL := Lib.hid hcl
 clear hco hcl hl
 have hd : doesS s ⟨ei, et, ec, es, ⟨5, oa, ob, oc, od⟩⟩ = co := by rw [HCO.out]; simp [doesS]
 have hm : midS s ⟨ei, et, ec, es, ⟨5, oa, ob, oc, od⟩⟩ = ⟨s.Index, s.Time, s.Pairs, s.Jobs, cl⟩ := by rw [HCL.out]; simp [midS]
 have HD := Lib.hid hd; have HM := Lib.hid hm
 clear hd hm
 go_wp2_with fail
 refine bodyPost_ret (by simp [results, Tryz.results145, go_sem, *]; try rfl) rfl ?_
 refine ⟨_, rfl, xT, _, by (rw [HD.out]; try rfl), ?_⟩
 rw [HM.out]
 exact ⟨_, _, rfl, .inl G2.out, .inl G3.out⟩
theorem eff4_k {w0 w : World} {v : Value} {s : DState} (h : RdState w0 v s) (x : Ext w0 w) (ei et ec es oa ob oc od : Int) (hs : stateOk s = true) (ho : opOk ⟨4, oa, ob, oc, od⟩ = true) :
  Calls Tryz.prog 141 #[v, .agg #[.int .i64 ei, .int .i64 et, .int .i64 ec, .int .i64 es, .int .i64 4, .int .i64 oa, .int .i64 ob, .int .i64 oc, .int .i64 od]] w (Ret w fun r w' => ∃ u, r = .tuple #[u, .bool (doesS s ⟨ei, et, ec, es, ⟨4, oa, ob, oc, od⟩⟩)] ∧ MixS 113 95 w0 w.heap.size w' u (midS s ⟨ei, et, ec, es, ⟨4, oa, ob, oc, od⟩⟩)) := by
 have HS := Lib.hid (h.ext x)
 have HSO := Lib.hid hs; have HOO := Lib.hid ho
 obtain ⟨t2, t3, rfl, h2, h3⟩ := h
 obtain ⟨a2, n2, k2, rfl⟩ := h2.shape
 obtain ⟨a3, n3, k3, rfl⟩ := h3.shape
 have G2 := Lib.hid h2; have G3 := Lib.hid h3
 have H2 := Lib.hid (h2.ext x); have H3 := Lib.hid (h3.ext x)
 clear h2 h3 hs ho
 obtain ⟨W1, hW1⟩ : ∃ W1, W1 = ((w.alloc (.cells #[.int .i64 s.Index, .int .i64 s.Time, .slice a2 n2 k2, .slice a3 n3 k3, .int .i64 s.Lease.Holder, .int .i64 s.Lease.Epoch, .int .i64 s.Lease.Until] 39)).alloc (.cells #[.int .i64 ei, .int .i64 et, .int .i64 ec, .int .i64 es, .int .i64 4, .int .i64 oa, .int .i64 ob, .int .i64 oc, .int .i64 od] 54)).alloc (.cells #[.int .i64 0, .int .i64 0, .slice none 0 0, .slice none 0 0, .int .i64 0, .int .i64 0, .int .i64 0] 39) := ⟨_, rfl⟩
 have E1 : Ext w W1 := by rw [hW1]; exact (((Ext.refl _).alloc _).alloc _).alloc _
 have KS1 : Blk W1 w.heap.size 39 #[.int .i64 s.Index, .int .i64 s.Time, .slice a2 n2 k2, .slice a3 n3 k3, .int .i64 s.Lease.Holder, .int .i64 s.Lease.Epoch, .int .i64 s.Lease.Until] := by rw [hW1]; exact ((Blk.new _ _ _).alloc _).alloc _
 have KE1 : Blk W1 (w.heap.size + 1) 54 #[.int .i64 ei, .int .i64 et, .int .i64 ec, .int .i64 es, .int .i64 4, .int .i64 oa, .int .i64 ob, .int .i64 oc, .int .i64 od] := by rw [hW1]; exact (Blk.new2 _ _ _ _).alloc _
 have KR1 : Blk W1 (w.heap.size + 1 + 1) 39 #[.int .i64 0, .int .i64 0, .slice none 0 0, .slice none 0 0, .int .i64 0, .int .i64 0, .int .i64 0] := by rw [hW1]; exact Blk.new3 _ _ _ _ _
 have hz1 : W1.heap.size = w.heap.size + 1 + 1 + 1 := by rw [hW1]; simp
 have HW1 := Lib.hid hW1
 have HZ1 := Lib.hid hz1
 have hz1' : w.heap.size + 2 < W1.heap.size := by omega
 clear hW1 hz1
 go_enter Tryz.func141, Tryz.ntmps141
 go_wp2_with fail
 rw [← HW1.out]
 have CS1 := KS1.cell; have FS1 := KS1.frozen; have LS1 := KS1.lt; have CE1 := KE1.cell; have FE1 := KE1.frozen; have LE1 := KE1.lt
 go_wp2_with fail
 refine (fires_k (HS.out.ext E1) ei et ec es 4 oa ob oc od).mono ?_
 rintro e9 w2 ⟨rfl, hx2⟩
 have E2 : Ext w w2 := E1.trans hx2
 have KS2 := KS1.ext hx2; have KE2 := KE1.ext hx2; have KR2 := KR1.ext hx2
 clear CS1 FS1 LS1 CE1 FE1 LE1
 have CS2 := KS2.cell; have FS2 := KS2.frozen; have LS2 := KS2.lt; have CE2 := KE2.cell; have FE2 := KE2.frozen; have LE2 := KE2.lt; have CR2 := KR2.cell; have FR2 := KR2.frozen; have LR2 := KR2.lt
 have hz2 := hx2.size
 cases hf : fires s ⟨ei, et, ec, es, ⟨4, oa, ob, oc, od⟩⟩
 ·
  have hd : doesS s ⟨ei, et, ec, es, ⟨4, oa, ob, oc, od⟩⟩ = false := by simp [doesS, hf]
  have hm : midS s ⟨ei, et, ec, es, ⟨4, oa, ob, oc, od⟩⟩ = s := by simp [midS, hf]
  have HD := Lib.hid hd; have HM := Lib.hid hm
  clear hd hm
  go_wp2_with fail
  refine bodyPost_ret (by simp [results, Tryz.results141, go_sem, *]; try rfl) rfl ?_
  refine ⟨_, rfl, xT, _, by (rw [HD.out]; try rfl), ?_⟩
  rw [HM.out]
  exact ⟨_, _, rfl, .inl G2.out, .inl G3.out⟩
 have hd : doesS s ⟨ei, et, ec, es, ⟨4, oa, ob, oc, od⟩⟩ = true := by simp [doesS, hf]
 have hm : midS s ⟨ei, et, ec, es, ⟨4, oa, ob, oc, od⟩⟩ = ⟨s.Index, s.Time, putR s.Pairs (jget s.Jobs oa).Key (jget s.Jobs oa).Value, fireR s.Jobs oa ei, s.Lease⟩ := by simp [midS, hf]
 have hid : (jget s.Jobs oa).Id = oa := by
  obtain ⟨j, h1, h2, h3⟩ := fires_job hf
  have h4 : jget s.Jobs oa = j := h3
  rw [h4]; exact (at_some h1).2
 have HD := Lib.hid hd; have HM := Lib.hid hm; have HID := Lib.hid hid
 clear hd hm hf hid
 go_wp2_with fail
 refine (jobAt_e _ _ s.Jobs oa (H3.out.ext E2)).mono ?_
 rintro e9 w3 ⟨rfl, hx3⟩
 obtain ⟨J, hJ⟩ : ∃ J, J = jget s.Jobs oa := ⟨_, rfl⟩
 rw [← hJ] at HM HID ⊢
 clear hJ
 obtain ⟨w4, hW4⟩ : ∃ W4, W4 = w3.alloc (.cells #[.int .i64 J.Id, .int .i64 J.Due, .int .i64 J.Key, .int .i64 J.Value, .int .i64 J.Fired] 95) := ⟨_, rfl⟩
 have X4 : Ext w2 w4 := by rw [hW4]; exact hx3.alloc _
 have KJ4 : Blk w4 w3.heap.size 95 #[.int .i64 J.Id, .int .i64 J.Due, .int .i64 J.Key, .int .i64 J.Value, .int .i64 J.Fired] := by rw [hW4]; exact Blk.new _ _ _
 have HW4 := Lib.hid hW4
 have hs3 := hx3.size
 clear hW4
 have KS3 := KS2.ext hx3; have CS3 := KS3.cell; have LS3 := KS3.lt; have KE3 := KE2.ext hx3; have CE3 := KE3.cell; have LE3 := KE3.lt
 clear CS2 FS2 LS2 CE2 FE2 LE2 CR2 FR2 LR2
 go_wp2_with fail
 rw [← HW4.out]
 clear CS3 LS3 CE3 LE3 KS3 KE3
 have E4 : Ext w w4 := E2.trans X4
 have KS4 := KS2.ext X4; have KE4 := KE2.ext X4; have KR4 := KR2.ext X4
 have CS4 := KS4.cell; have FS4 := KS4.frozen; have LS4 := KS4.lt; have CE4 := KE4.cell; have FE4 := KE4.frozen; have LE4 := KE4.lt; have CR4 := KR4.cell; have FR4 := KR4.frozen; have LR4 := KR4.lt
 have hz4 := X4.size
 refine (jobFired_e _ _ s.Jobs J.Id ei (H3.out.ext E4)).mono ?_
 rintro e9 w5 ⟨_, rfl, hx5, u, rfl, g⟩
 obtain ⟨ua, un, uc, rfl⟩ := g.shape
 have KJ5 := KJ4.ext hx5
 clear CS4 FS4 LS4 CE4 FE4 LE4 CR4 FR4 LR4
 have E5 : Ext w w5 := E4.trans hx5
 have KS5 := KS4.ext hx5; have KE5 := KE4.ext hx5; have KR5 := KR4.ext hx5
 have CS5 := KS5.cell; have FS5 := KS5.frozen; have LS5 := KS5.lt; have CE5 := KE5.cell; have FE5 := KE5.frozen; have LE5 := KE5.lt; have CR5 := KR5.cell; have FR5 := KR5.frozen; have LR5 := KR5.lt
 have hz5 := hx5.size
 have CJ5 := KJ5.cell; have LJ5 := KJ5.lt
 go_wp2_with fail
 obtain ⟨w6, hW6⟩ : ∃ w6, w6 = w5.setCell ⟨w.heap.size, 3, none⟩ (.slice ua un uc) := ⟨_, rfl⟩
 rw [← hW6]
 have E6 : Ext w w6 := by rw [hW6]; exact E5.setCell (Nat.le_refl _) _
 have X6 : Chg W1.heap.size w5 w6 := by rw [hW6]; exact (Chg.refl _ _).setLow oM _
 have hz6 : w6.heap.size = w5.heap.size := by rw [hW6]; simp
 have KS6 : Blk w6 w.heap.size 39 #[.int .i64 s.Index, .int .i64 s.Time, .slice a2 n2 k2, .slice ua un uc, .int .i64 s.Lease.Holder, .int .i64 s.Lease.Epoch, .int .i64 s.Lease.Until] := by rw [hW6]; have := KS5.set_ 3 (.slice ua un uc); simpa using this
 have KR6 : Blk w6 (w.heap.size + 1 + 1) 39 #[.int .i64 0, .int .i64 0, .slice none 0 0, .slice none 0 0, .int .i64 0, .int .i64 0, .int .i64 0] := by rw [hW6]; exact KR5.far (by show _ ≠ w.heap.size; omega) _
 have KJ6 : Blk w6 w3.heap.size 95 #[.int .i64 J.Id, .int .i64 J.Due, .int .i64 J.Key, .int .i64 J.Value, .int .i64 J.Fired] := by rw [hW6]; exact KJ5.far (by show _ ≠ w.heap.size; omega) _
 clear hW6 CS5 FS5 LS5 CE5 FE5 LE5 CR5 FR5 LR5 CJ5 LJ5
 have CS6 := KS6.cell; have FS6 := KS6.frozen; have LS6 := KS6.lt; have CJ6 := KJ6.cell; have LJ6 := KJ6.lt
 go_wp2_with fail
 refine (put_e _ _ s.Pairs J.Key J.Value (H2.out.ext E6)).mono ?_
 rintro e9 w7 ⟨_, rfl, hx7, up, rfl, gp⟩
 obtain ⟨va, vn, vc, rfl⟩ := gp.shape
 have hz7 := hx7.size
 have E7 := E6.trans hx7
 have KS7 := KS6.ext hx7; have KR7 := KR6.ext hx7
 have G7 : OwnI W1.heap.size 95 5 w7 (.slice ua un uc) (flJob (fireR s.Jobs J.Id ei)) := Own.ext (OwnI.keep (g.mono oM) X6) hx7
 have P7 : OwnI W1.heap.size 113 2 w7 (.slice va vn vc) (flPair (putR s.Pairs J.Key J.Value)) := gp.mono oM
 have X7 : Chg W1.heap.size w7 w7 := Chg.refl _ _
 clear CS6 FS6 LS6 CJ6 LJ6
 have CS7 := KS7.cell; have FS7 := KS7.frozen; have LS7 := KS7.lt; have CR7 := KR7.cell; have FR7 := KR7.frozen; have LR7 := KR7.lt
 go_wp2_with fail
 refine bodyPost_ret (by simp [results, Tryz.results141, go_sem, *]; try rfl) rfl ?_
 refine ⟨_, rfl, xT, _, by (rw [HD.out]; try rfl), ?_⟩
 rw [HM.out, ← HID.out]
 exact ⟨_, _, rfl, .inr (OwnI.mono (OwnI.keep P7 chgT) oM), .inr (OwnI.mono (OwnI.keep G7 chgT) oM)⟩
theorem effects_c (w : World) : Calls Tryz.prog 111 #[] w (RetV w (.agg #[.nilFunc, .func (.func 135) #[] #[], .func (.func 137) #[] #[], .func (.func 139) #[] #[], .func (.func 141) #[] #[], .func (.func 145) #[] #[]])) := by
 go_enter Tryz.func111, Tryz.ntmps111
 go_wp2_with fail
 refine bodyPost_ret (by simp [results, Tryz.results111, go_sem]; try rfl) rfl ?_
 exact ⟨rfl, (Ext.refl _).alloc _⟩
end Go.Proofs.YtlnkggpemdpemaaGreat
namespace Go.G8
open Go.RowKit
open Go.Proofs.YtlnkggpemdpemaaGreat in
theorem stateOk_small2 {s : DState} (h : stateOk s = true) : stateSmall s := by
 obtain ⟨_, _, _, h1, h2, _⟩ := stateOk_parts h
 have := pairsOk_len h1; have := jobsOk_len h2
 exact ⟨by omega, by omega⟩
end Go.G8
namespace Go.Proofs.YtlnkggpemdpemaaGreat
open Go.RowKit Go.G8
theorem applied_k {w : World} {v : Value} {s : DState} (h : RdState w v s) (ei et ec es ok oa ob oc od : Int) (hs : stateOk s = true) (hn : nextIn s ⟨ei, et, ec, es, ⟨ok, oa, ob, oc, od⟩⟩ = true) :
  Calls Tryz.prog 84 #[v, .agg #[.int .i64 ei, .int .i64 et, .int .i64 ec, .int .i64 es, .int .i64 ok, .int .i64 oa, .int .i64 ob, .int .i64 oc, .int .i64 od]] w (Ret w fun r w' => ∃ u, r = .tuple #[u, .int .i64 (effS s ⟨ei, et, ec, es, ⟨ok, oa, ob, oc, od⟩⟩)] ∧ IsState w.heap.size w' u (stepS s ⟨ei, et, ec, es, ⟨ok, oa, ob, oc, od⟩⟩)) := by
 have HS := Lib.hid h
 have HSO := Lib.hid hs; have HNI := Lib.hid hn
 have ho : opOk ⟨ok, oa, ob, oc, od⟩ = true := (entryOk_parts (nextIn_parts hn).1).2.2.2
 have HOO := Lib.hid ho
 obtain ⟨t2, t3, rfl, h2, h3⟩ := h
 obtain ⟨a2, n2, k2, rfl⟩ := h2.shape
 obtain ⟨a3, n3, k3, rfl⟩ := h3.shape
 clear h2 h3 hs hn ho
 obtain ⟨W1, hW1⟩ : ∃ W1, W1 = ((w.alloc (.cells #[.int .i64 s.Index, .int .i64 s.Time, .slice a2 n2 k2, .slice a3 n3 k3, .int .i64 s.Lease.Holder, .int .i64 s.Lease.Epoch, .int .i64 s.Lease.Until] 39)).alloc (.cells #[.int .i64 ei, .int .i64 et, .int .i64 ec, .int .i64 es, .int .i64 ok, .int .i64 oa, .int .i64 ob, .int .i64 oc, .int .i64 od] 54)).alloc (.cells #[.int .i64 0, .int .i64 0, .slice none 0 0, .slice none 0 0, .int .i64 0, .int .i64 0, .int .i64 0] 39) := ⟨_, rfl⟩
 have E1 : Ext w W1 := by rw [hW1]; exact (((Ext.refl _).alloc _).alloc _).alloc _
 have KS1 : Blk W1 w.heap.size 39 #[.int .i64 s.Index, .int .i64 s.Time, .slice a2 n2 k2, .slice a3 n3 k3, .int .i64 s.Lease.Holder, .int .i64 s.Lease.Epoch, .int .i64 s.Lease.Until] := by rw [hW1]; exact ((Blk.new _ _ _).alloc _).alloc _
 have KE1 : Blk W1 (w.heap.size + 1) 54 #[.int .i64 ei, .int .i64 et, .int .i64 ec, .int .i64 es, .int .i64 ok, .int .i64 oa, .int .i64 ob, .int .i64 oc, .int .i64 od] := by rw [hW1]; exact (Blk.new2 _ _ _ _).alloc _
 have KR1 : Blk W1 (w.heap.size + 1 + 1) 39 #[.int .i64 0, .int .i64 0, .slice none 0 0, .slice none 0 0, .int .i64 0, .int .i64 0, .int .i64 0] := by rw [hW1]; exact Blk.new3 _ _ _ _ _
 have hz1' : w.heap.size + 2 < W1.heap.size := by rw [hW1]; simp
 have HW1 := Lib.hid hW1
 clear hW1
 go_enter Tryz.func84, Tryz.ntmps84
 go_wp2_with fail
 rw [← HW1.out]
 have ya0 : ∀ w', Ext W1 w' → w'.cell? ⟨_, 0, none⟩ = some (.int .i64 s.Index) := fun w' hw => (KS1.ext hw).cell 0
 have ya1 : ∀ w', Ext W1 w' → w'.cell? ⟨_, 1, none⟩ = some (.int .i64 s.Time) := fun w' hw => (KS1.ext hw).cell 1
 have ya2 : ∀ w', Ext W1 w' → w'.cell? ⟨_, 2, none⟩ = some (.slice a2 n2 k2) := fun w' hw => (KS1.ext hw).cell 2
 have ya3 : ∀ w', Ext W1 w' → w'.cell? ⟨_, 3, none⟩ = some (.slice a3 n3 k3) := fun w' hw => (KS1.ext hw).cell 3
 have ya4 : ∀ w', Ext W1 w' → w'.cell? ⟨_, 4, none⟩ = some (.int .i64 s.Lease.Holder) := fun w' hw => (KS1.ext hw).cell 4
 have ya5 : ∀ w', Ext W1 w' → w'.cell? ⟨_, 5, none⟩ = some (.int .i64 s.Lease.Epoch) := fun w' hw => (KS1.ext hw).cell 5
 have ya6 : ∀ w', Ext W1 w' → w'.cell? ⟨_, 6, none⟩ = some (.int .i64 s.Lease.Until) := fun w' hw => (KS1.ext hw).cell 6
 have yb0 : ∀ w', Ext W1 w' → w'.cell? ⟨_, 0, none⟩ = some (.int .i64 ei) := fun w' hw => (KE1.ext hw).cell 0
 have yb1 : ∀ w', Ext W1 w' → w'.cell? ⟨_, 1, none⟩ = some (.int .i64 et) := fun w' hw => (KE1.ext hw).cell 1
 have yb2 : ∀ w', Ext W1 w' → w'.cell? ⟨_, 2, none⟩ = some (.int .i64 ec) := fun w' hw => (KE1.ext hw).cell 2
 have yb3 : ∀ w', Ext W1 w' → w'.cell? ⟨_, 3, none⟩ = some (.int .i64 es) := fun w' hw => (KE1.ext hw).cell 3
 have yb4 : ∀ w', Ext W1 w' → w'.cell? ⟨_, 4, none⟩ = some (.int .i64 ok) := fun w' hw => (KE1.ext hw).cell 4
 have yb5 : ∀ w', Ext W1 w' → w'.cell? ⟨_, 5, none⟩ = some (.int .i64 oa) := fun w' hw => (KE1.ext hw).cell 5
 have yb6 : ∀ w', Ext W1 w' → w'.cell? ⟨_, 6, none⟩ = some (.int .i64 ob) := fun w' hw => (KE1.ext hw).cell 6
 have yb7 : ∀ w', Ext W1 w' → w'.cell? ⟨_, 7, none⟩ = some (.int .i64 oc) := fun w' hw => (KE1.ext hw).cell 7
 have yb8 : ∀ w', Ext W1 w' → w'.cell? ⟨_, 8, none⟩ = some (.int .i64 od) := fun w' hw => (KE1.ext hw).cell 8
 go_cut [6, 7] (fun sx bx wx => ∃ gg b2 m2 j2 b3 m3 j3, sx = .pointer (some ⟨gg, 0, none⟩) ∧ bx = .bool (doesS s ⟨ei, et, ec, es, ⟨ok, oa, ob, oc, od⟩⟩) ∧ Ext W1 wx ∧ W1.heap.size ≤ gg ∧ Blk wx gg 39 #[.int .i64 (midS s ⟨ei, et, ec, es, ⟨ok, oa, ob, oc, od⟩⟩).Index, .int .i64 (midS s ⟨ei, et, ec, es, ⟨ok, oa, ob, oc, od⟩⟩).Time, .slice b2 m2 j2, .slice b3 m3 j3, .int .i64 (midS s ⟨ei, et, ec, es, ⟨ok, oa, ob, oc, od⟩⟩).Lease.Holder, .int .i64 (midS s ⟨ei, et, ec, es, ⟨ok, oa, ob, oc, od⟩⟩).Lease.Epoch, .int .i64 (midS s ⟨ei, et, ec, es, ⟨ok, oa, ob, oc, od⟩⟩).Lease.Until] ∧ MixS 113 95 w W1.heap.size wx (.agg #[.int .i64 (midS s ⟨ei, et, ec, es, ⟨ok, oa, ob, oc, od⟩⟩).Index, .int .i64 (midS s ⟨ei, et, ec, es, ⟨ok, oa, ob, oc, od⟩⟩).Time, .slice b2 m2 j2, .slice b3 m3 j3, .int .i64 (midS s ⟨ei, et, ec, es, ⟨ok, oa, ob, oc, od⟩⟩).Lease.Holder, .int .i64 (midS s ⟨ei, et, ec, es, ⟨ok, oa, ob, oc, od⟩⟩).Lease.Epoch, .int .i64 (midS s ⟨ei, et, ec, es, ⟨ok, oa, ob, oc, od⟩⟩).Lease.Until]) (midS s ⟨ei, et, ec, es, ⟨ok, oa, ob, oc, od⟩⟩))
 case first =>
  have hop : ok = 1 ∨ ok = 2 ∨ ok = 3 ∨ ok = 4 ∨ ok = 5 := opOk_kind HOO.out
  rcases hop with hk | hk | hk | hk | hk
  all_goals subst hk
  ·
   have hix : ∀ w, (Instr.index 147 (.agg #[.nilFunc, .func (.func 135) #[] #[], .func (.func 137) #[] #[], .func (.func 139) #[] #[], .func (.func 141) #[] #[], .func (.func 145) #[] #[]]) (.int .i64 1)).run Tryz.prog w = .ok (.func (.func 135) #[] #[]) w := fun w => by kernel_rfl
   go_region_held3 (fun w' => Ext W1 w') (exact xT) (first | (go_at_call 111; refine (effects_c _).mono ?_; rintro e9 wa ⟨rfl, hxa⟩; have hzhxa := hxa.size; obtain ⟨hchxa, hdhxa⟩ := hxa.cells; (try simp only [World.size_alloc, size_drew] at hzhxa hchxa hdhxa); (try have hqhxaW1 : W1.heap.size < wa.heap.size := oM)) | (go_at_call 135; refine (eff1_k HS.out (E1.trans (by repeat' (first | (with_reducible exact Ext.refl _) | (with_reducible refine Ext.drewN ?_ _) | (with_reducible refine Ext.drew ?_) | (with_reducible refine Ext.alloc ?_ _) | (with_reducible refine Ext.setCell ?_ ?_ _) | (with_reducible refine Ext.trans ?_ hxb) | (with_reducible refine Ext.trans ?_ hxa) | (with_reducible assumption) | omega))) ei et ec es oa ob oc od HSO.out HOO.out).mono ?_; rintro e9 wb ⟨_, rfl, hxb, u9, rfl, hu⟩; obtain ⟨b2, m2, j2, b3, m3, j3, rfl⟩ := hu.shape; have hzhxb := hxb.size; obtain ⟨hchxb, hdhxb⟩ := hxb.cells; (try simp only [World.size_alloc, size_drew] at hzhxb hchxb hdhxb); (try have hqhxbW1 : W1.heap.size < wb.heap.size := oM); (try have hqhxbwa : wa.heap.size < wb.heap.size := oM)))
   all_goals clear ya0 ya1 ya2 ya3 ya4 ya5 ya6 yb0 yb1 yb2 yb3 yb4 yb5 yb6 yb7 yb8 hchxa hdhxa hchxb hdhxb
   all_goals go_wp2_with fail
   all_goals go_meet
   all_goals case rel =>
    (try simp only [World.size_alloc, size_drew] at *)
    refine ⟨_, _, _, _, _, _, _, rfl, by first | rfl | trivial, xT, by omega, (Blk.cast (by repeat' (first | (with_reducible assumption) | (with_reducible exact Blk.new _ _ _) | (with_reducible exact Blk.new2 _ _ _ _) | (with_reducible (apply Blk.ext; rotate_left; exact hxb)) | (with_reducible (apply Blk.ext; rotate_left; exact hxa)) | (with_reducible apply Blk.drew) | (with_reducible apply Blk.drewN) | (with_reducible apply Blk.alloc) | (with_reducible apply Blk.set_) | (with_reducible apply Blk.row) | (with_reducible apply Blk.far) | (with_reducible apply Blk.rowFar) | omega | (simp; omega))) (by simp)), (hu.keep chgT).mono oM⟩
  ·
   have hix : ∀ w, (Instr.index 147 (.agg #[.nilFunc, .func (.func 135) #[] #[], .func (.func 137) #[] #[], .func (.func 139) #[] #[], .func (.func 141) #[] #[], .func (.func 145) #[] #[]]) (.int .i64 2)).run Tryz.prog w = .ok (.func (.func 137) #[] #[]) w := fun w => by kernel_rfl
   go_region_held3 (fun w' => Ext W1 w') (exact xT) (first | (go_at_call 111; refine (effects_c _).mono ?_; rintro e9 wa ⟨rfl, hxa⟩; have hzhxa := hxa.size; obtain ⟨hchxa, hdhxa⟩ := hxa.cells; (try simp only [World.size_alloc, size_drew] at hzhxa hchxa hdhxa); (try have hqhxaW1 : W1.heap.size < wa.heap.size := oM)) | (go_at_call 137; refine (eff2_k HS.out (E1.trans (by repeat' (first | (with_reducible exact Ext.refl _) | (with_reducible refine Ext.drewN ?_ _) | (with_reducible refine Ext.drew ?_) | (with_reducible refine Ext.alloc ?_ _) | (with_reducible refine Ext.setCell ?_ ?_ _) | (with_reducible refine Ext.trans ?_ hxb) | (with_reducible refine Ext.trans ?_ hxa) | (with_reducible assumption) | omega))) ei et ec es oa ob oc od HSO.out HOO.out).mono ?_; rintro e9 wb ⟨_, rfl, hxb, u9, rfl, hu⟩; obtain ⟨b2, m2, j2, b3, m3, j3, rfl⟩ := hu.shape; have hzhxb := hxb.size; obtain ⟨hchxb, hdhxb⟩ := hxb.cells; (try simp only [World.size_alloc, size_drew] at hzhxb hchxb hdhxb); (try have hqhxbW1 : W1.heap.size < wb.heap.size := oM); (try have hqhxbwa : wa.heap.size < wb.heap.size := oM)))
   all_goals clear ya0 ya1 ya2 ya3 ya4 ya5 ya6 yb0 yb1 yb2 yb3 yb4 yb5 yb6 yb7 yb8 hchxa hdhxa hchxb hdhxb
   all_goals go_wp2_with fail
   all_goals go_meet
   all_goals case rel =>
    (try simp only [World.size_alloc, size_drew] at *)
    refine ⟨_, _, _, _, _, _, _, rfl, by first | rfl | trivial, xT, by omega, (Blk.cast (by repeat' (first | (with_reducible assumption) | (with_reducible exact Blk.new _ _ _) | (with_reducible exact Blk.new2 _ _ _ _) | (with_reducible (apply Blk.ext; rotate_left; exact hxb)) | (with_reducible (apply Blk.ext; rotate_left; exact hxa)) | (with_reducible apply Blk.drew) | (with_reducible apply Blk.drewN) | (with_reducible apply Blk.alloc) | (with_reducible apply Blk.set_) | (with_reducible apply Blk.row) | (with_reducible apply Blk.far) | (with_reducible apply Blk.rowFar) | omega | (simp; omega))) (by simp)), (hu.keep chgT).mono oM⟩
  ·
   have hix : ∀ w, (Instr.index 147 (.agg #[.nilFunc, .func (.func 135) #[] #[], .func (.func 137) #[] #[], .func (.func 139) #[] #[], .func (.func 141) #[] #[], .func (.func 145) #[] #[]]) (.int .i64 3)).run Tryz.prog w = .ok (.func (.func 139) #[] #[]) w := fun w => by kernel_rfl
   go_region_held3 (fun w' => Ext W1 w') (exact xT) (first | (go_at_call 111; refine (effects_c _).mono ?_; rintro e9 wa ⟨rfl, hxa⟩; have hzhxa := hxa.size; obtain ⟨hchxa, hdhxa⟩ := hxa.cells; (try simp only [World.size_alloc, size_drew] at hzhxa hchxa hdhxa); (try have hqhxaW1 : W1.heap.size < wa.heap.size := oM)) | (go_at_call 139; refine (eff3_k HS.out (E1.trans (by repeat' (first | (with_reducible exact Ext.refl _) | (with_reducible refine Ext.drewN ?_ _) | (with_reducible refine Ext.drew ?_) | (with_reducible refine Ext.alloc ?_ _) | (with_reducible refine Ext.setCell ?_ ?_ _) | (with_reducible refine Ext.trans ?_ hxb) | (with_reducible refine Ext.trans ?_ hxa) | (with_reducible assumption) | omega))) ei et ec es oa ob oc od HSO.out HOO.out).mono ?_; rintro e9 wb ⟨_, rfl, hxb, u9, rfl, hu⟩; obtain ⟨b2, m2, j2, b3, m3, j3, rfl⟩ := hu.shape; have hzhxb := hxb.size; obtain ⟨hchxb, hdhxb⟩ := hxb.cells; (try simp only [World.size_alloc, size_drew] at hzhxb hchxb hdhxb); (try have hqhxbW1 : W1.heap.size < wb.heap.size := oM); (try have hqhxbwa : wa.heap.size < wb.heap.size := oM)))
   all_goals clear ya0 ya1 ya2 ya3 ya4 ya5 ya6 yb0 yb1 yb2 yb3 yb4 yb5 yb6 yb7 yb8 hchxa hdhxa hchxb hdhxb
   all_goals go_wp2_with fail
   all_goals go_meet
   all_goals case rel =>
    (try simp only [World.size_alloc, size_drew] at *)
    refine ⟨_, _, _, _, _, _, _, rfl, by first | rfl | trivial, xT, by omega, (Blk.cast (by repeat' (first | (with_reducible assumption) | (with_reducible exact Blk.new _ _ _) | (with_reducible exact Blk.new2 _ _ _ _) | (with_reducible (apply Blk.ext; rotate_left; exact hxb)) | (with_reducible (apply Blk.ext; rotate_left; exact hxa)) | (with_reducible apply Blk.drew) | (with_reducible apply Blk.drewN) | (with_reducible apply Blk.alloc) | (with_reducible apply Blk.set_) | (with_reducible apply Blk.row) | (with_reducible apply Blk.far) | (with_reducible apply Blk.rowFar) | omega | (simp; omega))) (by simp)), (hu.keep chgT).mono oM⟩
  ·
   have hix : ∀ w, (Instr.index 147 (.agg #[.nilFunc, .func (.func 135) #[] #[], .func (.func 137) #[] #[], .func (.func 139) #[] #[], .func (.func 141) #[] #[], .func (.func 145) #[] #[]]) (.int .i64 4)).run Tryz.prog w = .ok (.func (.func 141) #[] #[]) w := fun w => by kernel_rfl
   go_region_held3 (fun w' => Ext W1 w') (exact xT) (first | (go_at_call 111; refine (effects_c _).mono ?_; rintro e9 wa ⟨rfl, hxa⟩; have hzhxa := hxa.size; obtain ⟨hchxa, hdhxa⟩ := hxa.cells; (try simp only [World.size_alloc, size_drew] at hzhxa hchxa hdhxa); (try have hqhxaW1 : W1.heap.size < wa.heap.size := oM)) | (go_at_call 141; refine (eff4_k HS.out (E1.trans (by repeat' (first | (with_reducible exact Ext.refl _) | (with_reducible refine Ext.drewN ?_ _) | (with_reducible refine Ext.drew ?_) | (with_reducible refine Ext.alloc ?_ _) | (with_reducible refine Ext.setCell ?_ ?_ _) | (with_reducible refine Ext.trans ?_ hxb) | (with_reducible refine Ext.trans ?_ hxa) | (with_reducible assumption) | omega))) ei et ec es oa ob oc od HSO.out HOO.out).mono ?_; rintro e9 wb ⟨_, rfl, hxb, u9, rfl, hu⟩; obtain ⟨b2, m2, j2, b3, m3, j3, rfl⟩ := hu.shape; have hzhxb := hxb.size; obtain ⟨hchxb, hdhxb⟩ := hxb.cells; (try simp only [World.size_alloc, size_drew] at hzhxb hchxb hdhxb); (try have hqhxbW1 : W1.heap.size < wb.heap.size := oM); (try have hqhxbwa : wa.heap.size < wb.heap.size := oM)))
   all_goals clear ya0 ya1 ya2 ya3 ya4 ya5 ya6 yb0 yb1 yb2 yb3 yb4 yb5 yb6 yb7 yb8 hchxa hdhxa hchxb hdhxb
   all_goals go_wp2_with fail
   all_goals go_meet
   all_goals case rel =>
    (try simp only [World.size_alloc, size_drew] at *)
    refine ⟨_, _, _, _, _, _, _, rfl, by first | rfl | trivial, xT, by omega, (Blk.cast (by repeat' (first | (with_reducible assumption) | (with_reducible exact Blk.new _ _ _) | (with_reducible exact Blk.new2 _ _ _ _) | (with_reducible (apply Blk.ext; rotate_left; exact hxb)) | (with_reducible (apply Blk.ext; rotate_left; exact hxa)) | (with_reducible apply Blk.drew) | (with_reducible apply Blk.drewN) | (with_reducible apply Blk.alloc) | (with_reducible apply Blk.set_) | (with_reducible apply Blk.row) | (with_reducible apply Blk.far) | (with_reducible apply Blk.rowFar) | omega | (simp; omega))) (by simp)), (hu.keep chgT).mono oM⟩
  have hix : ∀ w, (Instr.index 147 (.agg #[.nilFunc, .func (.func 135) #[] #[], .func (.func 137) #[] #[], .func (.func 139) #[] #[], .func (.func 141) #[] #[], .func (.func 145) #[] #[]]) (.int .i64 5)).run Tryz.prog w = .ok (.func (.func 145) #[] #[]) w := fun w => by kernel_rfl
  go_region_held3 (fun w' => Ext W1 w') (exact xT) (first | (go_at_call 111; refine (effects_c _).mono ?_; rintro e9 wa ⟨rfl, hxa⟩; have hzhxa := hxa.size; obtain ⟨hchxa, hdhxa⟩ := hxa.cells; (try simp only [World.size_alloc, size_drew] at hzhxa hchxa hdhxa); (try have hqhxaW1 : W1.heap.size < wa.heap.size := oM)) | (go_at_call 145; refine (eff5_k HS.out (E1.trans (by repeat' (first | (with_reducible exact Ext.refl _) | (with_reducible refine Ext.drewN ?_ _) | (with_reducible refine Ext.drew ?_) | (with_reducible refine Ext.alloc ?_ _) | (with_reducible refine Ext.setCell ?_ ?_ _) | (with_reducible refine Ext.trans ?_ hxb) | (with_reducible refine Ext.trans ?_ hxa) | (with_reducible assumption) | omega))) ei et ec es oa ob oc od HSO.out HOO.out).mono ?_; rintro e9 wb ⟨_, rfl, hxb, u9, rfl, hu⟩; obtain ⟨b2, m2, j2, b3, m3, j3, rfl⟩ := hu.shape; have hzhxb := hxb.size; obtain ⟨hchxb, hdhxb⟩ := hxb.cells; (try simp only [World.size_alloc, size_drew] at hzhxb hchxb hdhxb); (try have hqhxbW1 : W1.heap.size < wb.heap.size := oM); (try have hqhxbwa : wa.heap.size < wb.heap.size := oM)))
  all_goals clear ya0 ya1 ya2 ya3 ya4 ya5 ya6 yb0 yb1 yb2 yb3 yb4 yb5 yb6 yb7 yb8 hchxa hdhxa hchxb hdhxb
  all_goals go_wp2_with fail
  all_goals go_meet
  all_goals case rel =>
   (try simp only [World.size_alloc, size_drew] at *)
   refine ⟨_, _, _, _, _, _, _, rfl, by first | rfl | trivial, xT, by omega, (Blk.cast (by repeat' (first | (with_reducible assumption) | (with_reducible exact Blk.new _ _ _) | (with_reducible exact Blk.new2 _ _ _ _) | (with_reducible (apply Blk.ext; rotate_left; exact hxb)) | (with_reducible (apply Blk.ext; rotate_left; exact hxa)) | (with_reducible apply Blk.drew) | (with_reducible apply Blk.drewN) | (with_reducible apply Blk.alloc) | (with_reducible apply Blk.set_) | (with_reducible apply Blk.row) | (with_reducible apply Blk.far) | (with_reducible apply Blk.rowFar) | omega | (simp; omega))) (by simp)), (hu.keep chgT).mono oM⟩
 revert wc; intro w2 hcut
 obtain ⟨gg, b2, m2, j2, b3, m3, j3, rfl, rfl, X2, hge2, KG2, hu⟩ := hcut
 have HU := Lib.hid hu
 clear ya0 ya1 ya2 ya3 ya4 ya5 ya6 yb0 yb1 yb2 yb3 yb4 yb5 yb6 yb7 yb8 hu
 have E2 : Ext w w2 := E1.trans X2
 have KS2 := KS1.ext X2; have KE2 := KE1.ext X2; have KR2 := KR1.ext X2
 have hz2 := X2.size
 have CS2 := KS2.cell; have FS2 := KS2.frozen; have LS2 := KS2.lt; have CE2 := KE2.cell; have FE2 := KE2.frozen; have LE2 := KE2.lt; have CR2 := KR2.cell; have FR2 := KR2.frozen; have LR2 := KR2.lt; have CG2 := KG2.cell; have FG2 := KG2.frozen; have LG2 := KG2.lt
 cases hd : doesS s ⟨ei, et, ec, es, ⟨ok, oa, ob, oc, od⟩⟩
 ·
  have e1 : effS s ⟨ei, et, ec, es, ⟨ok, oa, ob, oc, od⟩⟩ = 0 := by simp [effS, hd]
  have e2 : stepS s ⟨ei, et, ec, es, ⟨ok, oa, ob, oc, od⟩⟩ = ⟨ei, et, s.Pairs, s.Jobs, s.Lease⟩ := step_none HSO.out (opOk_kind HOO.out) hd
  have HE1 := Lib.hid e1; have HE2 := Lib.hid e2
  clear e1 e2 hd
  go_wp2_with fail
  refine (copyState_k (HS.out.ext E2) (stateOk_small2 HSO.out)).mono ?_
  rintro e9 w3 ⟨_, rfl, hx3, p2, p3, rfl, g2, g3⟩
  obtain ⟨c2, m4, j4, rfl⟩ := g2.shape
  obtain ⟨c3, m5, j5, rfl⟩ := g3.shape
  have E3 : Ext w w3 := E2.trans hx3
  have KS3 := KS2.ext hx3; have KE3 := KE2.ext hx3; have KR3 := KR2.ext hx3; have KG3 := KG2.ext hx3
  have hz3 := hx3.size
  clear CS2 FS2 LS2 CE2 FE2 LE2 CR2 FR2 LR2 CG2 FG2 LG2
  have CS3 := KS3.cell; have FS3 := KS3.frozen; have LS3 := KS3.lt; have CE3 := KE3.cell; have FE3 := KE3.frozen; have LE3 := KE3.lt; have CR3 := KR3.cell; have FR3 := KR3.frozen; have LR3 := KR3.lt; have CG3 := KG3.cell; have FG3 := KG3.frozen; have LG3 := KG3.lt
  go_wp2_with fail
  obtain ⟨w4, hW4⟩ : ∃ w4, w4 = (((((((w3.setCell ⟨gg, 0, none⟩ (.int .i64 s.Index)).setCell ⟨gg, 1, none⟩ (.int .i64 s.Time)).setCell ⟨gg, 2, none⟩ (.slice c2 m4 j4)).setCell ⟨gg, 3, none⟩ (.slice c3 m5 j5)).setCell ⟨gg, 4, none⟩ (.int .i64 s.Lease.Holder)).setCell ⟨gg, 5, none⟩ (.int .i64 s.Lease.Epoch)).setCell ⟨gg, 6, none⟩ (.int .i64 s.Lease.Until)) := ⟨_, rfl⟩
  rw [← hW4]
  have hge := X2.size
  have XG4 : Ext W1 w4 := by rw [hW4]; exact ((((((((X2.trans hx3).setCell hge2 _).setCell hge2 _).setCell hge2 _).setCell hge2 _).setCell hge2 _).setCell hge2 _).setCell hge2 _)
  have KG4 : Blk w4 gg 39 #[.int .i64 s.Index, .int .i64 s.Time, .slice c2 m4 j4, .slice c3 m5 j5, .int .i64 s.Lease.Holder, .int .i64 s.Lease.Epoch, .int .i64 s.Lease.Until] := by
   rw [hW4]
   have := ((((((KG3.set_ 0 (.int .i64 s.Index)).set_ 1 (.int .i64 s.Time)).set_ 2 (.slice c2 m4 j4)).set_ 3 (.slice c3 m5 j5)).set_ 4 (.int .i64 s.Lease.Holder)).set_ 5 (.int .i64 s.Lease.Epoch)).set_ 6 (.int .i64 s.Lease.Until)
   simpa using this
  have KS4 := KS1.ext XG4; have KE4 := KE1.ext XG4; have KR4 := KR1.ext XG4
  have hgl := KG2.lt
  have CH4 : Chg w2.heap.size w3 w4 := by rw [hW4]; exact (((((((Chg.refl _ _).setLow hgl _).setLow hgl _).setLow hgl _).setLow hgl _).setLow hgl _).setLow hgl _).setLow hgl _
  clear hW4 CS3 FS3 LS3 CE3 FE3 LE3 CR3 FR3 LR3 CG3 FG3 LG3
  have yb0 : ∀ w', Ext W1 w' → w'.cell? ⟨_, 0, none⟩ = some (.int .i64 ei) := fun w' hw => (KE1.ext hw).cell 0
  have yb1 : ∀ w', Ext W1 w' → w'.cell? ⟨_, 1, none⟩ = some (.int .i64 et) := fun w' hw => (KE1.ext hw).cell 1
  have FG4 := KG4.frozen; have CG4 := KG4.cell; have LG4 := KG4.lt
  go_region_held3 (fun w' => Ext W1 w') (exact xT) (fail)
  obtain ⟨w5, hW5⟩ : ∃ w5, w5 = ((w4.setCell ⟨gg, 0, none⟩ (.int .i64 ei)).setCell ⟨gg, 1, none⟩ (.int .i64 et)).drew := ⟨_, rfl⟩
  rw [← hW5]
  have XG5 : Ext W1 w5 := by rw [hW5]; exact ((XG4.setCell hge2 _).setCell hge2 _).drew
  have KS5 := KS1.ext XG5; have KE5 := KE1.ext XG5; have KR5 := KR1.ext XG5
  clear yb0 yb1 FG4 CG4 LG4
  have KG5 : Blk w5 gg 39 #[.int .i64 ei, .int .i64 et, .slice c2 m4 j4, .slice c3 m5 j5, .int .i64 s.Lease.Holder, .int .i64 s.Lease.Epoch, .int .i64 s.Lease.Until] := by rw [hW5]; have := ((KG4.set_ 0 (.int .i64 ei)).set_ 1 (.int .i64 et)).drew; simpa using this
  have CH5 : Chg w2.heap.size w3 w5 := by rw [hW5]; exact ((CH4.setLow hgl _).setLow hgl _).drew
  clear hW5
  have CG5 := KG5.cell; have LG5 := KG5.lt; have CR5 := KR5.cell; have FR5 := KR5.frozen; have LR5 := KR5.lt
  go_wp2_with fail
  refine bodyPost_ret (by simp [results, Tryz.results84, go_sem, CR5, FR5, LR5]; try rfl) rfl ?_
  have E5 := E1.trans XG5
  refine ⟨_, rfl, xT, _, by (rw [HE1.out]; try rfl), ?_⟩
  rw [HE2.out]
  exact ⟨_, _, rfl, ((g2.keep CH5).keep chgT).mono oM, ((g3.keep CH5).keep chgT).mono oM⟩
 have e1 : effS s ⟨ei, et, ec, es, ⟨ok, oa, ob, oc, od⟩⟩ = ok := by simp [effS, hd]
 have e2 : stepS s ⟨ei, et, ec, es, ⟨ok, oa, ob, oc, od⟩⟩ = ⟨ei, et, (midS s ⟨ei, et, ec, es, ⟨ok, oa, ob, oc, od⟩⟩).Pairs, (midS s ⟨ei, et, ec, es, ⟨ok, oa, ob, oc, od⟩⟩).Jobs, (midS s ⟨ei, et, ec, es, ⟨ok, oa, ob, oc, od⟩⟩).Lease⟩ := mid_step HSO.out HNI.out hd
 have HE1 := Lib.hid e1; have HE2 := Lib.hid e2
 have HOK := Lib.hid (show stateSmall ⟨ei, et, (midS s ⟨ei, et, ec, es, ⟨ok, oa, ob, oc, od⟩⟩).Pairs, (midS s ⟨ei, et, ec, es, ⟨ok, oa, ob, oc, od⟩⟩).Jobs, (midS s ⟨ei, et, ec, es, ⟨ok, oa, ob, oc, od⟩⟩).Lease⟩ from by
  rw [← e2]; exact stateOk_small2 (stepS_ok HSO.out HNI.out))
 clear e1 e2 hd
 obtain ⟨m, hm⟩ : ∃ m, m = (midS s ⟨ei, et, ec, es, ⟨ok, oa, ob, oc, od⟩⟩) := ⟨_, rfl⟩
 rw [← hm] at HE2 HOK HU KG2
 have CG2 := KG2.cell
 clear hm
 have hgl := KG2.lt
 go_wp2_with fail
 have yb0 : ∀ w', Ext W1 w' → w'.cell? ⟨_, 0, none⟩ = some (.int .i64 ei) := fun w' hw => (KE1.ext hw).cell 0
 have yb1 : ∀ w', Ext W1 w' → w'.cell? ⟨_, 1, none⟩ = some (.int .i64 et) := fun w' hw => (KE1.ext hw).cell 1
 have FG4 := KG2.frozen; have CG4 := KG2.cell; have LG4 := KG2.lt
 go_region_held3 (fun w' => Ext W1 w') (exact xT) (fail)
 obtain ⟨w5, hW5⟩ : ∃ w5, w5 = ((w2.setCell ⟨gg, 0, none⟩ (.int .i64 ei)).setCell ⟨gg, 1, none⟩ (.int .i64 et)).drew := ⟨_, rfl⟩
 rw [← hW5]
 have XG5 : Ext W1 w5 := by rw [hW5]; exact ((X2.setCell hge2 _).setCell hge2 _).drew
 have KS5 := KS1.ext XG5; have KE5 := KE1.ext XG5; have KR5 := KR1.ext XG5
 clear yb0 yb1 FG4 CG4 LG4
 have KG5 : Blk w5 gg 39 #[.int .i64 ei, .int .i64 et, .slice b2 m2 j2, .slice b3 m3 j3, .int .i64 m.Lease.Holder, .int .i64 m.Lease.Epoch, .int .i64 m.Lease.Until] := by rw [hW5]; have := ((KG2.set_ 0 (.int .i64 ei)).set_ 1 (.int .i64 et)).drew; simpa using this
 have HU5 : MixS 113 95 w W1.heap.size w5 (.agg #[.int .i64 ei, .int .i64 et, .slice b2 m2 j2, .slice b3 m3 j3, .int .i64 m.Lease.Holder, .int .i64 m.Lease.Epoch, .int .i64 m.Lease.Until]) ⟨ei, et, m.Pairs, m.Jobs, m.Lease⟩ := by
  rw [hW5]
  exact (((HU.out.re ei et).box KG2 dC dC 0 _).box (KG2.set_ 0 _) dC dC 1 _).keep ((Chg.refl _ _).drew)
 have E5 := E1.trans XG5
 have HRD := Lib.hid (HU5.rd0 E5)
 clear hW5 CS2 FS2 LS2 CE2 FE2 LE2 CR2 FR2 LR2 CG2 FG2 LG2 HU5
 have CG5 := KG5.cell; have LG5 := KG5.lt; have FG5 := KG5.frozen
 go_wp2_with fail
 have yg0 : ∀ w', (Blk w' gg 39 #[.int .i64 ei, .int .i64 et, .slice b2 m2 j2, .slice b3 m3 j3, .int .i64 m.Lease.Holder, .int .i64 m.Lease.Epoch, .int .i64 m.Lease.Until] ∧ Blk w' (w.heap.size + 1) 54 #[.int .i64 ei, .int .i64 et, .int .i64 ec, .int .i64 es, .int .i64 ok, .int .i64 oa, .int .i64 ob, .int .i64 oc, .int .i64 od]) → w'.cell? ⟨gg, 0, none⟩ = some (.int .i64 ei) := fun w' hw => hw.1.cell 0
 have yg1 : ∀ w', (Blk w' gg 39 #[.int .i64 ei, .int .i64 et, .slice b2 m2 j2, .slice b3 m3 j3, .int .i64 m.Lease.Holder, .int .i64 m.Lease.Epoch, .int .i64 m.Lease.Until] ∧ Blk w' (w.heap.size + 1) 54 #[.int .i64 ei, .int .i64 et, .int .i64 ec, .int .i64 es, .int .i64 ok, .int .i64 oa, .int .i64 ob, .int .i64 oc, .int .i64 od]) → w'.cell? ⟨gg, 1, none⟩ = some (.int .i64 et) := fun w' hw => hw.1.cell 1
 have yg2 : ∀ w', (Blk w' gg 39 #[.int .i64 ei, .int .i64 et, .slice b2 m2 j2, .slice b3 m3 j3, .int .i64 m.Lease.Holder, .int .i64 m.Lease.Epoch, .int .i64 m.Lease.Until] ∧ Blk w' (w.heap.size + 1) 54 #[.int .i64 ei, .int .i64 et, .int .i64 ec, .int .i64 es, .int .i64 ok, .int .i64 oa, .int .i64 ob, .int .i64 oc, .int .i64 od]) → w'.cell? ⟨gg, 2, none⟩ = some (.slice b2 m2 j2) := fun w' hw => hw.1.cell 2
 have yg3 : ∀ w', (Blk w' gg 39 #[.int .i64 ei, .int .i64 et, .slice b2 m2 j2, .slice b3 m3 j3, .int .i64 m.Lease.Holder, .int .i64 m.Lease.Epoch, .int .i64 m.Lease.Until] ∧ Blk w' (w.heap.size + 1) 54 #[.int .i64 ei, .int .i64 et, .int .i64 ec, .int .i64 es, .int .i64 ok, .int .i64 oa, .int .i64 ob, .int .i64 oc, .int .i64 od]) → w'.cell? ⟨gg, 3, none⟩ = some (.slice b3 m3 j3) := fun w' hw => hw.1.cell 3
 have yg4 : ∀ w', (Blk w' gg 39 #[.int .i64 ei, .int .i64 et, .slice b2 m2 j2, .slice b3 m3 j3, .int .i64 m.Lease.Holder, .int .i64 m.Lease.Epoch, .int .i64 m.Lease.Until] ∧ Blk w' (w.heap.size + 1) 54 #[.int .i64 ei, .int .i64 et, .int .i64 ec, .int .i64 es, .int .i64 ok, .int .i64 oa, .int .i64 ob, .int .i64 oc, .int .i64 od]) → w'.cell? ⟨gg, 4, none⟩ = some (.int .i64 m.Lease.Holder) := fun w' hw => hw.1.cell 4
 have yg5 : ∀ w', (Blk w' gg 39 #[.int .i64 ei, .int .i64 et, .slice b2 m2 j2, .slice b3 m3 j3, .int .i64 m.Lease.Holder, .int .i64 m.Lease.Epoch, .int .i64 m.Lease.Until] ∧ Blk w' (w.heap.size + 1) 54 #[.int .i64 ei, .int .i64 et, .int .i64 ec, .int .i64 es, .int .i64 ok, .int .i64 oa, .int .i64 ob, .int .i64 oc, .int .i64 od]) → w'.cell? ⟨gg, 5, none⟩ = some (.int .i64 m.Lease.Epoch) := fun w' hw => hw.1.cell 5
 have yg6 : ∀ w', (Blk w' gg 39 #[.int .i64 ei, .int .i64 et, .slice b2 m2 j2, .slice b3 m3 j3, .int .i64 m.Lease.Holder, .int .i64 m.Lease.Epoch, .int .i64 m.Lease.Until] ∧ Blk w' (w.heap.size + 1) 54 #[.int .i64 ei, .int .i64 et, .int .i64 ec, .int .i64 es, .int .i64 ok, .int .i64 oa, .int .i64 ob, .int .i64 oc, .int .i64 od]) → w'.cell? ⟨gg, 6, none⟩ = some (.int .i64 m.Lease.Until) := fun w' hw => hw.1.cell 6
 have ye4 : ∀ w', (Blk w' gg 39 #[.int .i64 ei, .int .i64 et, .slice b2 m2 j2, .slice b3 m3 j3, .int .i64 m.Lease.Holder, .int .i64 m.Lease.Epoch, .int .i64 m.Lease.Until] ∧ Blk w' (w.heap.size + 1) 54 #[.int .i64 ei, .int .i64 et, .int .i64 ec, .int .i64 es, .int .i64 ok, .int .i64 oa, .int .i64 ob, .int .i64 oc, .int .i64 od]) → w'.cell? ⟨w.heap.size + 1, 4, none⟩ = some (.int .i64 ok) := fun w' hw => hw.2.cell 4
 go_region_held3 (fun w' => Blk w' gg 39 #[.int .i64 ei, .int .i64 et, .slice b2 m2 j2, .slice b3 m3 j3, .int .i64 m.Lease.Holder, .int .i64 m.Lease.Epoch, .int .i64 m.Lease.Until] ∧ Blk w' (w.heap.size + 1) 54 #[.int .i64 ei, .int .i64 et, .int .i64 ec, .int .i64 es, .int .i64 ok, .int .i64 oa, .int .i64 ob, .int .i64 oc, .int .i64 od]) (first | exact ⟨by repeat' (first | (with_reducible assumption) | (with_reducible exact And.left ‹_›) | (with_reducible exact And.right ‹_›) | (with_reducible (apply Blk.ext; rotate_left; exact hxc)) | (with_reducible apply Blk.drew) | (with_reducible apply Blk.drewN) | (with_reducible apply Blk.alloc) | (with_reducible apply Blk.far) | omega | (show (_ : Nat) ≠ w.heap.size + 1 + 1; omega) | (simp; omega)), by repeat' (first | (with_reducible assumption) | (with_reducible exact And.left ‹_›) | (with_reducible exact And.right ‹_›) | (with_reducible (apply Blk.ext; rotate_left; exact hxc)) | (with_reducible apply Blk.drew) | (with_reducible apply Blk.drewN) | (with_reducible apply Blk.alloc) | (with_reducible apply Blk.far) | omega | (show (_ : Nat) ≠ w.heap.size + 1 + 1; omega) | (simp; omega))⟩) (first | (go_at_call 80; refine (copyState_k (HRD.out.ext xT) HOK.out).mono ?_; rintro e9 wc ⟨_, rfl, hxc, p2, p3, rfl, g2, g3⟩; obtain ⟨c2, m4, j4, rfl⟩ := g2.shape; obtain ⟨c3, m5, j5, rfl⟩ := g3.shape; have hzc := hxc.size; have XC : Ext w5 wc := xT; have CRc := (KR5.ext XC).cell; have FRc := (KR5.ext XC).frozen; have LRc := (KR5.ext XC).lt))
 all_goals
  clear yg0 yg1 yg2 yg3 yg4 yg5 yg6 ye4
  go_wp2_with fail
  refine bodyPost_ret (by simp [results, Tryz.results84, go_sem, CRc, FRc, LRc]; try rfl) rfl ?_
  have E6 := E5.trans XC
  have hz5 := XG5.size
  have hz6 : w5.drew.heap.size = w5.heap.size := size_drew _
  refine ⟨_, rfl, by (clear E1 E5 hxc XC X2 E2 XG5; exact xT), _, by (rw [HE1.out]; try rfl), ?_⟩
  rw [HE2.out]
  exact ⟨_, _, rfl, (g2.keep chgT).mono (by (try simp only [size_drew]); omega), (g3.keep chgT).mono (by (try simp only [size_drew]); omega)⟩
theorem sApplied_k {w : World} {v : Value} {s : DState} (h : RdState w v s) (ei et ec es ok oa ob oc od : Int) :
  Calls Tryz.prog 17 #[v, .agg #[.int .i64 ei, .int .i64 et, .int .i64 ec, .int .i64 es, .int .i64 ok, .int .i64 oa, .int .i64 ob, .int .i64 oc, .int .i64 od]] w (Ret w fun r w' => ∃ u, r = .tuple #[u, .bool (appOk s ⟨ei, et, ec, es, ⟨ok, oa, ob, oc, od⟩⟩)] ∧ IsState w.heap.size w' u (appD s ⟨ei, et, ec, es, ⟨ok, oa, ob, oc, od⟩⟩)) := by
 have HS := Lib.hid h
 obtain ⟨t2, t3, rfl, h2, h3⟩ := h
 obtain ⟨a2, n2, k2, rfl⟩ := h2.shape
 obtain ⟨a3, n3, k3, rfl⟩ := h3.shape
 have H2 := Lib.hid h2; have H3 := Lib.hid h3
 clear h2 h3
 obtain ⟨W1, hW1⟩ : ∃ W1, W1 = ((w.alloc (.cells #[.int .i64 s.Index, .int .i64 s.Time, .slice a2 n2 k2, .slice a3 n3 k3, .int .i64 s.Lease.Holder, .int .i64 s.Lease.Epoch, .int .i64 s.Lease.Until] 39)).alloc (.cells #[.int .i64 ei, .int .i64 et, .int .i64 ec, .int .i64 es, .int .i64 ok, .int .i64 oa, .int .i64 ob, .int .i64 oc, .int .i64 od] 54)).alloc (.cells #[.int .i64 0, .int .i64 0, .slice none 0 0, .slice none 0 0, .int .i64 0, .int .i64 0, .int .i64 0] 39) := ⟨_, rfl⟩
 have E1 : Ext w W1 := by rw [hW1]; exact (((Ext.refl _).alloc _).alloc _).alloc _
 have KS1 : Blk W1 w.heap.size 39 #[.int .i64 s.Index, .int .i64 s.Time, .slice a2 n2 k2, .slice a3 n3 k3, .int .i64 s.Lease.Holder, .int .i64 s.Lease.Epoch, .int .i64 s.Lease.Until] := by rw [hW1]; exact ((Blk.new _ _ _).alloc _).alloc _
 have KE1 : Blk W1 (w.heap.size + 1) 54 #[.int .i64 ei, .int .i64 et, .int .i64 ec, .int .i64 es, .int .i64 ok, .int .i64 oa, .int .i64 ob, .int .i64 oc, .int .i64 od] := by rw [hW1]; exact (Blk.new2 _ _ _ _).alloc _
 have KR1 : Blk W1 (w.heap.size + 1 + 1) 39 #[.int .i64 0, .int .i64 0, .slice none 0 0, .slice none 0 0, .int .i64 0, .int .i64 0, .int .i64 0] := by rw [hW1]; exact Blk.new3 _ _ _ _ _
 have hz1' : w.heap.size + 2 < W1.heap.size := by rw [hW1]; simp
 have HW1 := Lib.hid hW1
 clear hW1
 go_enter Tryz.func17, Tryz.ntmps17
 go_wp2_with fail
 rw [← HW1.out]
 have CS1 := KS1.cell; have FS1 := KS1.frozen; have LS1 := KS1.lt; have CE1 := KE1.cell; have FE1 := KE1.frozen; have LE1 := KE1.lt; have CR1 := KR1.cell; have FR1 := KR1.frozen; have LR1 := KR1.lt
 go_wp2_with fail
 refine (sStateOk_k (HS.out.ext E1)).mono ?_
 rintro e9 w2 ⟨rfl, hx2⟩
 have E2 : Ext w w2 := E1.trans hx2
 have hz2 := hx2.size
 have KS2 := KS1.ext hx2; have KE2 := KE1.ext hx2; have KR2 := KR1.ext hx2
 clear CS1 FS1 LS1 CE1 FE1 LE1 CR1 FR1 LR1
 have CS2 := KS2.cell; have FS2 := KS2.frozen; have LS2 := KS2.lt; have CE2 := KE2.cell; have FE2 := KE2.frozen; have LE2 := KE2.lt; have CR2 := KR2.cell; have FR2 := KR2.frozen; have LR2 := KR2.lt
 cases hso : stateOk s
 ·
  have e1 : appOk s ⟨ei, et, ec, es, ⟨ok, oa, ob, oc, od⟩⟩ = false := by simp [appOk, hso]
  have e2 : appD s ⟨ei, et, ec, es, ⟨ok, oa, ob, oc, od⟩⟩ = ⟨0, 0, [], [], ⟨0, 0, 0⟩⟩ := by simp [appD, hso]
  have HA1 := Lib.hid e1; have HA2 := Lib.hid e2
  clear e1 e2
  go_wp2_with fail
  refine bodyPost_ret (by simp [results, Tryz.results17, go_sem, CR2, FR2, LR2]; try rfl) rfl ?_
  refine ⟨_, rfl, xT, _, by (rw [HA1.out]; try rfl), ?_⟩
  rw [HA2.out]
  exact ⟨_, _, rfl, OwnI.nil _ _ _ _, OwnI.nil _ _ _ _⟩
 have HSO := Lib.hid hso
 clear hso
 go_wp2_with fail
 refine (l17Copy_k (HS.out.ext E2) (stateOk_small2 HSO.out)).mono ?_
 rintro e9 w3 ⟨_, rfl, hx3, p2, p3, rfl, g2, g3⟩
 obtain ⟨c2, m4, j4, rfl⟩ := g2.shape
 obtain ⟨c3, m5, j5, rfl⟩ := g3.shape
 have hz3 := hx3.size
 obtain ⟨w4, hW4⟩ : ∃ w4, w4 = w3.alloc (.cells #[.int .i64 s.Index, .int .i64 s.Time, .slice c2 m4 j4, .slice c3 m5 j5, .int .i64 s.Lease.Holder, .int .i64 s.Lease.Epoch, .int .i64 s.Lease.Until] 39) := ⟨_, rfl⟩
 have X4 : Ext w2 w4 := by rw [hW4]; exact hx3.alloc _
 have CH4 : Chg w2.heap.size w3 w4 := by rw [hW4]; exact (Chg.refl _ _).alloc _
 have KO4 : Blk w4 w3.heap.size 39 #[.int .i64 s.Index, .int .i64 s.Time, .slice c2 m4 j4, .slice c3 m5 j5, .int .i64 s.Lease.Holder, .int .i64 s.Lease.Epoch, .int .i64 s.Lease.Until] := by rw [hW4]; exact Blk.new _ _ _
 have HW4 := Lib.hid hW4
 have hz4 := X4.size
 have E4 : Ext w w4 := E2.trans X4
 clear hW4
 have KS3 := KS2.ext hx3; have KE3 := KE2.ext hx3; have KR3 := KR2.ext hx3
 clear CS2 FS2 LS2 CE2 FE2 LE2 CR2 FR2 LR2
 have CS3 := KS3.cell; have FS3 := KS3.frozen; have LS3 := KS3.lt; have CE3 := KE3.cell; have FE3 := KE3.frozen; have LE3 := KE3.lt; have CR3 := KR3.cell; have FR3 := KR3.frozen; have LR3 := KR3.lt
 go_wp2_with fail
 rw [← HW4.out]
 have KS4 := KS2.ext X4; have KE4 := KE2.ext X4; have KR4 := KR2.ext X4
 clear CS3 FS3 LS3 CE3 FE3 LE3 CR3 FR3 LR3
 refine (sEffectOf_k (HS.out.ext E4) ei et ec es ok oa ob oc od).mono ?_
 rintro e9 w5 ⟨rfl, hx5⟩
 have E5 : Ext w w5 := E4.trans hx5
 have hz5 := hx5.size
 have CH5 : Chg w2.heap.size w3 w5 := CH4.ext hx5
 have KS5 := KS4.ext hx5; have KE5 := KE4.ext hx5; have KR5 := KR4.ext hx5; have KO5 := KO4.ext hx5
 clear KS2 KE2 KR2 KS3 KE3 KR3
 have CS5 := KS5.cell; have FS5 := KS5.frozen; have LS5 := KS5.lt; have CE5 := KE5.cell; have FE5 := KE5.frozen; have LE5 := KE5.lt; have CR5 := KR5.cell; have FR5 := KR5.frozen; have LR5 := KR5.lt; have CO5 := KO5.cell; have FO5 := KO5.frozen; have LO5 := KO5.lt
 cases hn : nextIn s ⟨ei, et, ec, es, ⟨ok, oa, ob, oc, od⟩⟩
 ·
  have e1 : appOk s ⟨ei, et, ec, es, ⟨ok, oa, ob, oc, od⟩⟩ = false := by simp [appOk, HSO.out, hn]
  have e2 : appD s ⟨ei, et, ec, es, ⟨ok, oa, ob, oc, od⟩⟩ = s := by simp [appD, HSO.out, hn]
  have e3 : effAt s ⟨ei, et, ec, es, ⟨ok, oa, ob, oc, od⟩⟩ = -1 := by simp [effAt, HSO.out, hn]
  have HA1 := Lib.hid e1; have HA2 := Lib.hid e2
  rw [e3]
  clear e1 e2 e3
  go_wp2_with fail
  refine bodyPost_ret (by simp [results, Tryz.results17, go_sem, CR5, FR5, LR5]; try rfl) rfl ?_
  refine ⟨_, rfl, xT, _, by (rw [HA1.out]; try rfl), ?_⟩
  rw [HA2.out]
  exact ⟨_, _, rfl, (g2.keep chgT).mono oM, (g3.keep chgT).mono oM⟩
 have HNI := Lib.hid hn
 have e1 : appOk s ⟨ei, et, ec, es, ⟨ok, oa, ob, oc, od⟩⟩ = true := by simp [appOk, HSO.out, hn]
 have e2 : appD s ⟨ei, et, ec, es, ⟨ok, oa, ob, oc, od⟩⟩ = stepS s ⟨ei, et, ec, es, ⟨ok, oa, ob, oc, od⟩⟩ := by simp [appD, HSO.out, hn]
 have e3 : effAt s ⟨ei, et, ec, es, ⟨ok, oa, ob, oc, od⟩⟩ = effS s ⟨ei, et, ec, es, ⟨ok, oa, ob, oc, od⟩⟩ := by simp [effAt, HSO.out, hn]
 have HA1 := Lib.hid e1; have HA2 := Lib.hid e2
 have ho : opOk ⟨ok, oa, ob, oc, od⟩ = true := (entryOk_parts (nextIn_parts hn).1).2.2.2
 have HOO := Lib.hid ho
 rw [e3]
 have hop : ok = 1 ∨ ok = 2 ∨ ok = 3 ∨ ok = 4 ∨ ok = 5 := opOk_kind ho
 have X15 : Ext W1 w5 := hx2.trans (X4.trans hx5)
 have HOP := Lib.hid hop
 clear e1 e2 e3 hn ho hop
 cases hd : doesS s ⟨ei, et, ec, es, ⟨ok, oa, ob, oc, od⟩⟩
 ·
  have e1 : effS s ⟨ei, et, ec, es, ⟨ok, oa, ob, oc, od⟩⟩ = 0 := by simp [effS, hd]
  have e2 : stepS s ⟨ei, et, ec, es, ⟨ok, oa, ob, oc, od⟩⟩ = ⟨ei, et, s.Pairs, s.Jobs, s.Lease⟩ := step_none HSO.out HOP.out hd
  have HA3 := Lib.hid (HA2.out.trans e2)
  rw [e1]
  clear e1 e2 hd HA2
  go_wp2_with fail
  refine bodyPost_ret (by simp [results, Tryz.results17, go_sem, CR5, FR5, LR5]; try rfl) rfl ?_
  refine ⟨_, rfl, xT, _, by (rw [HA1.out]; try rfl), ?_⟩
  rw [HA3.out]
  exact ⟨_, _, rfl, (g2.keep chgT).mono oM, (g3.keep chgT).mono oM⟩
 have e1 : effS s ⟨ei, et, ec, es, ⟨ok, oa, ob, oc, od⟩⟩ = ok := by simp [effS, hd]
 rw [e1]
 have HD := Lib.hid hd
 clear e1 hd
 have hop := HOP.out
 rcases hop with hk | hk | hk | hk | hk
 all_goals subst hk
 ·
  go_wp2_with fail
  obtain ⟨w6, hW6⟩ : ∃ w6, w6 = (w5.setCell ⟨w3.heap.size, 0, none⟩ (.int .i64 ei)).setCell ⟨w3.heap.size, 1, none⟩ (.int .i64 et) := ⟨_, rfl⟩
  rw [← hW6]
  have hg2 : W1.heap.size ≤ w3.heap.size := by omega
  have XG6 : Ext W1 w6 := by rw [hW6]; exact (X15.setCell hg2 _).setCell hg2 _
  have CH6 : Chg w2.heap.size w3 w6 := by rw [hW6]; exact (CH5.setNew (Nat.le_refl _) _).setNew (Nat.le_refl _) _
  have KO6 : Blk w6 w3.heap.size 39 #[.int .i64 ei, .int .i64 et, .slice c2 m4 j4, .slice c3 m5 j5, .int .i64 s.Lease.Holder, .int .i64 s.Lease.Epoch, .int .i64 s.Lease.Until] := by rw [hW6]; have := (KO5.set_ 0 (.int .i64 ei)).set_ 1 (.int .i64 et); simpa using this
  have KS6 := KS1.ext XG6; have KE6 := KE1.ext XG6; have KR6 := KR1.ext XG6
  have hz6 : w5.heap.size = w6.heap.size := by rw [hW6]; simp
  have E6 := E1.trans XG6
  have hlo := KO6.lt
  clear hW6
  clear CS5 FS5 LS5 CE5 FE5 LE5 CR5 FR5 LR5 CO5 FO5 LO5
  have HA3 := Lib.hid (HA2.out.trans (step_put HSO.out HOO.out rfl))
  clear HA2
  simp only [] at HA3
  refine (sPut_c _ _ s.Pairs oa ob (H2.out.ext E6)).mono ?_
  rintro e9 w7 ⟨_, rfl, hx7, u9, rfl, gu⟩
  obtain ⟨ua, un, uc, rfl⟩ := gu.shape
  have CH7 : Chg w2.heap.size w3 w7 := CH6.ext hx7
  have E7 := E6.trans hx7
  have hz7 := hx7.size
  have KS7 := KS6.ext hx7; have KE7 := KE6.ext hx7; have KR7 := KR6.ext hx7; have KO7 := KO6.ext hx7
  have CS7 := KS7.cell; have FS7 := KS7.frozen; have LS7 := KS7.lt; have CE7 := KE7.cell; have FE7 := KE7.frozen; have LE7 := KE7.lt; have CR7 := KR7.cell; have FR7 := KR7.frozen; have LR7 := KR7.lt; have CO7 := KO7.cell; have FO7 := KO7.frozen; have LO7 := KO7.lt
  go_wp2_with fail
  refine bodyPost_ret (by simp [results, Tryz.results17, go_sem, CR7, FR7, LR7]; try rfl) rfl ?_
  refine ⟨_, rfl, xT, _, by (rw [HA1.out]; try rfl), ?_⟩
  rw [HA3.out]
  exact ⟨_, _, rfl, (gu.keep chgT).mono oM, (g3.keep chgT).mono oM⟩
 ·
  go_wp2_with fail
  obtain ⟨w6, hW6⟩ : ∃ w6, w6 = (w5.setCell ⟨w3.heap.size, 0, none⟩ (.int .i64 ei)).setCell ⟨w3.heap.size, 1, none⟩ (.int .i64 et) := ⟨_, rfl⟩
  rw [← hW6]
  have hg2 : W1.heap.size ≤ w3.heap.size := by omega
  have XG6 : Ext W1 w6 := by rw [hW6]; exact (X15.setCell hg2 _).setCell hg2 _
  have CH6 : Chg w2.heap.size w3 w6 := by rw [hW6]; exact (CH5.setNew (Nat.le_refl _) _).setNew (Nat.le_refl _) _
  have KO6 : Blk w6 w3.heap.size 39 #[.int .i64 ei, .int .i64 et, .slice c2 m4 j4, .slice c3 m5 j5, .int .i64 s.Lease.Holder, .int .i64 s.Lease.Epoch, .int .i64 s.Lease.Until] := by rw [hW6]; have := (KO5.set_ 0 (.int .i64 ei)).set_ 1 (.int .i64 et); simpa using this
  have KS6 := KS1.ext XG6; have KE6 := KE1.ext XG6; have KR6 := KR1.ext XG6
  have hz6 : w5.heap.size = w6.heap.size := by rw [hW6]; simp
  have E6 := E1.trans XG6
  have hlo := KO6.lt
  clear hW6
  clear CS5 FS5 LS5 CE5 FE5 LE5 CR5 FR5 LR5 CO5 FO5 LO5
  have HA3 := Lib.hid (HA2.out.trans (step_cut HSO.out rfl))
  clear HA2
  simp only [] at HA3
  refine (sCutOut_c _ _ s.Pairs oa (H2.out.ext E6)).mono ?_
  rintro e9 w7 ⟨_, rfl, hx7, u9, rfl, gu⟩
  obtain ⟨ua, un, uc, rfl⟩ := gu.shape
  have CH7 : Chg w2.heap.size w3 w7 := CH6.ext hx7
  have E7 := E6.trans hx7
  have hz7 := hx7.size
  have KS7 := KS6.ext hx7; have KE7 := KE6.ext hx7; have KR7 := KR6.ext hx7; have KO7 := KO6.ext hx7
  have CS7 := KS7.cell; have FS7 := KS7.frozen; have LS7 := KS7.lt; have CE7 := KE7.cell; have FE7 := KE7.frozen; have LE7 := KE7.lt; have CR7 := KR7.cell; have FR7 := KR7.frozen; have LR7 := KR7.lt; have CO7 := KO7.cell; have FO7 := KO7.frozen; have LO7 := KO7.lt
  go_wp2_with fail
  refine bodyPost_ret (by simp [results, Tryz.results17, go_sem, CR7, FR7, LR7]; try rfl) rfl ?_
  refine ⟨_, rfl, xT, _, by (rw [HA1.out]; try rfl), ?_⟩
  rw [HA3.out]
  exact ⟨_, _, rfl, (gu.keep chgT).mono oM, (g3.keep chgT).mono oM⟩
 ·
  go_wp2_with fail
  obtain ⟨w6, hW6⟩ : ∃ w6, w6 = (w5.setCell ⟨w3.heap.size, 0, none⟩ (.int .i64 ei)).setCell ⟨w3.heap.size, 1, none⟩ (.int .i64 et) := ⟨_, rfl⟩
  rw [← hW6]
  have hg2 : W1.heap.size ≤ w3.heap.size := by omega
  have XG6 : Ext W1 w6 := by rw [hW6]; exact (X15.setCell hg2 _).setCell hg2 _
  have CH6 : Chg w2.heap.size w3 w6 := by rw [hW6]; exact (CH5.setNew (Nat.le_refl _) _).setNew (Nat.le_refl _) _
  have KO6 : Blk w6 w3.heap.size 39 #[.int .i64 ei, .int .i64 et, .slice c2 m4 j4, .slice c3 m5 j5, .int .i64 s.Lease.Holder, .int .i64 s.Lease.Epoch, .int .i64 s.Lease.Until] := by rw [hW6]; have := (KO5.set_ 0 (.int .i64 ei)).set_ 1 (.int .i64 et); simpa using this
  have KS6 := KS1.ext XG6; have KE6 := KE1.ext XG6; have KR6 := KR1.ext XG6
  have hz6 : w5.heap.size = w6.heap.size := by rw [hW6]; simp
  have E6 := E1.trans XG6
  have hlo := KO6.lt
  clear hW6
  clear CS5 FS5 LS5 CE5 FE5 LE5 CR5 FR5 LR5 CO5 FO5 LO5
  have HA3 := Lib.hid (HA2.out.trans (step_add rfl))
  clear HA2
  simp only [] at HA3
  have ya3 : ∀ w', Ext W1 w' → w'.cell? ⟨_, 3, none⟩ = some (.slice a3 n3 k3) := fun w' hw => (KS1.ext hw).cell 3
  have yb4 : ∀ w', Ext W1 w' → w'.cell? ⟨_, 4, none⟩ = some (.int .i64 3) := fun w' hw => (KE1.ext hw).cell 4
  have yb5 : ∀ w', Ext W1 w' → w'.cell? ⟨_, 5, none⟩ = some (.int .i64 oa) := fun w' hw => (KE1.ext hw).cell 5
  have yb6 : ∀ w', Ext W1 w' → w'.cell? ⟨_, 6, none⟩ = some (.int .i64 ob) := fun w' hw => (KE1.ext hw).cell 6
  have yb7 : ∀ w', Ext W1 w' → w'.cell? ⟨_, 7, none⟩ = some (.int .i64 oc) := fun w' hw => (KE1.ext hw).cell 7
  have yb8 : ∀ w', Ext W1 w' → w'.cell? ⟨_, 8, none⟩ = some (.int .i64 od) := fun w' hw => (KE1.ext hw).cell 8
  go_region_held3 (fun w' => Ext W1 w') (exact xT) (first | (go_at_call 44; refine (l17Job_k _ 3 oa ob oc od).mono ?_; rintro e9 wa ⟨rfl, hxa⟩) | (go_at_call 43; refine (sJobAdded_c _ _ s.Jobs oa ob oc od 0 (H3.out.ext (E1.trans (by repeat' (first | (with_reducible exact Ext.refl _) | (with_reducible refine Ext.drewN ?_ _) | (with_reducible refine Ext.drew ?_) | (with_reducible refine Ext.alloc ?_ _) | (with_reducible refine Ext.setCell ?_ ?_ _) | (with_reducible refine Ext.trans ?_ hxb) | (with_reducible refine Ext.trans ?_ hxa) | (with_reducible assumption) | omega))))).mono ?_; rintro e9 wb ⟨_, rfl, hxb, u9, rfl, gu⟩; obtain ⟨ua, un, uc, rfl⟩ := gu.shape; have hxw : Ext w6 wb := (by repeat' (first | (with_reducible exact Ext.refl _) | (with_reducible refine Ext.drewN ?_ _) | (with_reducible refine Ext.drew ?_) | (with_reducible refine Ext.alloc ?_ _) | (with_reducible refine Ext.setCell ?_ ?_ _) | (with_reducible refine Ext.trans ?_ hxb) | (with_reducible refine Ext.trans ?_ hxa) | (with_reducible assumption) | omega)); have KOb := KO6.ext hxw; have COb := KOb.cell; have FOb := KOb.frozen; have LOb := KOb.lt))
  all_goals
   clear ya3 yb4 yb5 yb6 yb7 yb8
   have KRb := KR6.ext hxw; have CRb := KRb.cell; have FRb := KRb.frozen; have LRb := KRb.lt
   have CHb := CH6.ext hxw
   have hzb := hxw.size
   have hza : w6.heap.size ≤ wa.heap.size := by have := hxa.size; (try simp only [size_drew] at this); omega
   have hzq := hxb.size
   (try simp only [size_drew] at hzq)
   have Eb := E6.trans hxw
   go_wp2_with fail
   refine bodyPost_ret (by simp [results, Tryz.results17, go_sem, CRb, FRb, LRb]; try rfl) rfl ?_
   refine ⟨_, rfl, by (clear hxa hxb hxw E1 E2 E4 E5 E6 XG6 X15 hx2 hx3 X4 hx5; exact xT), _, by (rw [HA1.out]; try rfl), ?_⟩
   rw [HA3.out]
   exact ⟨_, _, rfl, (g2.keep chgT).mono oM, (gu.keep chgT).mono (by (try simp only [size_drew]); omega)⟩
 ·
  go_wp2_with fail
  obtain ⟨w6, hW6⟩ : ∃ w6, w6 = (w5.setCell ⟨w3.heap.size, 0, none⟩ (.int .i64 ei)).setCell ⟨w3.heap.size, 1, none⟩ (.int .i64 et) := ⟨_, rfl⟩
  rw [← hW6]
  have hg2 : W1.heap.size ≤ w3.heap.size := by omega
  have XG6 : Ext W1 w6 := by rw [hW6]; exact (X15.setCell hg2 _).setCell hg2 _
  have CH6 : Chg w2.heap.size w3 w6 := by rw [hW6]; exact (CH5.setNew (Nat.le_refl _) _).setNew (Nat.le_refl _) _
  have KO6 : Blk w6 w3.heap.size 39 #[.int .i64 ei, .int .i64 et, .slice c2 m4 j4, .slice c3 m5 j5, .int .i64 s.Lease.Holder, .int .i64 s.Lease.Epoch, .int .i64 s.Lease.Until] := by rw [hW6]; have := (KO5.set_ 0 (.int .i64 ei)).set_ 1 (.int .i64 et); simpa using this
  have KS6 := KS1.ext XG6; have KE6 := KE1.ext XG6; have KR6 := KR1.ext XG6
  have hz6 : w5.heap.size = w6.heap.size := by rw [hW6]; simp
  have E6 := E1.trans XG6
  have hlo := KO6.lt
  clear hW6
  clear CS5 FS5 LS5 CE5 FE5 LE5 CR5 FR5 LR5 CO5 FO5 LO5
  have hf : fires s ⟨ei, et, ec, es, ⟨4, oa, ob, oc, od⟩⟩ = true := by simpa [doesS] using HD.out
  have HA3 := Lib.hid (HA2.out.trans (step_fire HSO.out HNI.out rfl hf))
  clear HA2
  simp only [] at HA3
  have HF := Lib.hid hf
  clear hf
  refine (sJobAt_c _ _ s.Jobs oa (H3.out.ext E6) (stateOk_parts HSO.out).2.2.2.2.1).mono ?_
  rintro e9 w7 ⟨rfl, hx7⟩
  obtain ⟨J, hJ⟩ : ∃ J, J = jget s.Jobs oa := ⟨_, rfl⟩
  rw [← hJ] at HA3 ⊢
  clear hJ
  obtain ⟨w8, hW8⟩ : ∃ w8, w8 = w7.alloc (.cells #[.int .i64 J.Id, .int .i64 J.Due, .int .i64 J.Key, .int .i64 J.Value, .int .i64 J.Fired] 95) := ⟨_, rfl⟩
  have X8 : Ext w6 w8 := by rw [hW8]; exact hx7.alloc _
  have KJ8 : Blk w8 w7.heap.size 95 #[.int .i64 J.Id, .int .i64 J.Due, .int .i64 J.Key, .int .i64 J.Value, .int .i64 J.Fired] := by rw [hW8]; exact Blk.new _ _ _
  have HW8 := Lib.hid hW8
  have hs7 := hx7.size
  clear hW8
  have KS7 := KS6.ext hx7; have KE7 := KE6.ext hx7; have KR7 := KR6.ext hx7; have KO7 := KO6.ext hx7
  have CS7 := KS7.cell; have FS7 := KS7.frozen; have LS7 := KS7.lt; have CE7 := KE7.cell; have FE7 := KE7.frozen; have LE7 := KE7.lt; have CR7 := KR7.cell; have FR7 := KR7.frozen; have LR7 := KR7.lt; have CO7 := KO7.cell; have FO7 := KO7.frozen; have LO7 := KO7.lt
  go_wp2_with fail
  rw [← HW8.out]
  clear KS7 KE7 KR7 KO7
  clear CS7 FS7 LS7 CE7 FE7 LE7 CR7 FR7 LR7 CO7 FO7 LO7
  have CH8 : Chg w2.heap.size w3 w8 := CH6.ext X8
  have E8 := E6.trans X8
  have hz8 := X8.size
  have KS8 := KS6.ext X8; have KE8 := KE6.ext X8; have KR8 := KR6.ext X8; have KO8 := KO6.ext X8
  have CS8 := KS8.cell; have FS8 := KS8.frozen; have LS8 := KS8.lt; have CE8 := KE8.cell; have FE8 := KE8.frozen; have LE8 := KE8.lt; have CR8 := KR8.cell; have FR8 := KR8.frozen; have LR8 := KR8.lt; have CO8 := KO8.cell; have FO8 := KO8.frozen; have LO8 := KO8.lt
  refine (sJobFired_c _ _ s.Jobs oa ei (H3.out.ext E8)).mono ?_
  rintro e9 w9 ⟨_, rfl, hx9, u9, rfl, gj⟩
  obtain ⟨ua, un, uc, rfl⟩ := gj.shape
  have KJ9 := KJ8.ext hx9
  clear CS8 FS8 LS8 CE8 FE8 LE8 CR8 FR8 LR8 CO8 FO8 LO8
  have CH9 : Chg w2.heap.size w3 w9 := CH8.ext hx9
  have E9 := E8.trans hx9
  have hz9 := hx9.size
  have KS9 := KS8.ext hx9; have KE9 := KE8.ext hx9; have KR9 := KR8.ext hx9; have KO9 := KO8.ext hx9
  have CS9 := KS9.cell; have FS9 := KS9.frozen; have LS9 := KS9.lt; have CE9 := KE9.cell; have FE9 := KE9.frozen; have LE9 := KE9.lt; have CR9 := KR9.cell; have FR9 := KR9.frozen; have LR9 := KR9.lt; have CO9 := KO9.cell; have FO9 := KO9.frozen; have LO9 := KO9.lt
  have CJ9 := KJ9.cell; have LJ9 := KJ9.lt
  go_wp2_with fail
  obtain ⟨wx, hWx⟩ : ∃ wx, wx = w9.setCell ⟨w3.heap.size, 3, none⟩ (.slice ua un uc) := ⟨_, rfl⟩
  rw [← hWx]
  have XGx : Ext W1 wx := by rw [hWx]; exact (((XG6.trans X8).trans hx9).setCell hg2 _)
  have CHx : Chg w2.heap.size w3 wx := by rw [hWx]; exact CH9.setNew (Nat.le_refl _) _
  have KOx : Blk wx w3.heap.size 39 #[.int .i64 ei, .int .i64 et, .slice c2 m4 j4, .slice ua un uc, .int .i64 s.Lease.Holder, .int .i64 s.Lease.Epoch, .int .i64 s.Lease.Until] := by rw [hWx]; have := KO9.set_ 3 (.slice ua un uc); simpa using this
  have KJx : Blk wx w7.heap.size 95 #[.int .i64 J.Id, .int .i64 J.Due, .int .i64 J.Key, .int .i64 J.Value, .int .i64 J.Fired] := by rw [hWx]; exact KJ9.far (by show _ ≠ w3.heap.size; omega) _
  have gjx : OwnI w8.heap.size 95 5 wx (.slice ua un uc) (flJob (fireR s.Jobs oa ei)) := by rw [hWx]; exact gj.keep ((Chg.refl _ _).setLow oM _)
  have KSx := KS1.ext XGx; have KEx := KE1.ext XGx; have KRx := KR1.ext XGx
  have hzx : w9.heap.size = wx.heap.size := by rw [hWx]; simp
  have Ex := E1.trans XGx
  clear hWx CS9 FS9 LS9 CE9 FE9 LE9 CR9 FR9 LR9 CO9 FO9 LO9 CJ9 LJ9
  have CSx := KSx.cell; have FSx := KSx.frozen; have LSx := KSx.lt; have CEx := KEx.cell; have FEx := KEx.frozen; have LEx := KEx.lt; have CRx := KRx.cell; have FRx := KRx.frozen; have LRx := KRx.lt; have COx := KOx.cell; have FOx := KOx.frozen; have LOx := KOx.lt
  have CJx := KJx.cell; have LJx := KJx.lt
  go_wp2_with fail
  refine (sPut_c _ _ s.Pairs J.Key J.Value (H2.out.ext Ex)).mono ?_
  rintro e9 wy ⟨_, rfl, hxy, u9, rfl, gp⟩
  obtain ⟨va, vn, vc, rfl⟩ := gp.shape
  have gjy := Own.ext gjx hxy
  have gjy : OwnI w8.heap.size 95 5 wy (.slice ua un uc) (flJob (fireR s.Jobs oa ei)) := gjy
  clear CSx FSx LSx CEx FEx LEx CRx FRx LRx COx FOx LOx CJx LJx
  have CHy : Chg w2.heap.size w3 wy := CHx.ext hxy
  have Ey := Ex.trans hxy
  have hzy := hxy.size
  have KSy := KSx.ext hxy; have KEy := KEx.ext hxy; have KRy := KRx.ext hxy; have KOy := KOx.ext hxy
  have CSy := KSy.cell; have FSy := KSy.frozen; have LSy := KSy.lt; have CEy := KEy.cell; have FEy := KEy.frozen; have LEy := KEy.lt; have CRy := KRy.cell; have FRy := KRy.frozen; have LRy := KRy.lt; have COy := KOy.cell; have FOy := KOy.frozen; have LOy := KOy.lt
  go_wp2_with fail
  refine bodyPost_ret (by simp [results, Tryz.results17, go_sem, CRy, FRy, LRy]; try rfl) rfl ?_
  refine ⟨_, rfl, xT, _, by (rw [HA1.out]; try rfl), ?_⟩
  rw [HA3.out]
  exact ⟨_, _, rfl, (gp.keep chgT).mono oM, (gjy.keep chgT).mono oM⟩
 go_wp2_with fail
 obtain ⟨w6, hW6⟩ : ∃ w6, w6 = (w5.setCell ⟨w3.heap.size, 0, none⟩ (.int .i64 ei)).setCell ⟨w3.heap.size, 1, none⟩ (.int .i64 et) := ⟨_, rfl⟩
 rw [← hW6]
 have hg2 : W1.heap.size ≤ w3.heap.size := by omega
 have XG6 : Ext W1 w6 := by rw [hW6]; exact (X15.setCell hg2 _).setCell hg2 _
 have CH6 : Chg w2.heap.size w3 w6 := by rw [hW6]; exact (CH5.setNew (Nat.le_refl _) _).setNew (Nat.le_refl _) _
 have KO6 : Blk w6 w3.heap.size 39 #[.int .i64 ei, .int .i64 et, .slice c2 m4 j4, .slice c3 m5 j5, .int .i64 s.Lease.Holder, .int .i64 s.Lease.Epoch, .int .i64 s.Lease.Until] := by rw [hW6]; have := (KO5.set_ 0 (.int .i64 ei)).set_ 1 (.int .i64 et); simpa using this
 have KS6 := KS1.ext XG6; have KE6 := KE1.ext XG6; have KR6 := KR1.ext XG6
 have hz6 : w5.heap.size = w6.heap.size := by rw [hW6]; simp
 have E6 := E1.trans XG6
 have hlo := KO6.lt
 clear hW6
 clear CS5 FS5 LS5 CE5 FE5 LE5 CR5 FR5 LR5 CO5 FO5 LO5
 have HA3 := Lib.hid (HA2.out.trans (step_lease rfl))
 clear HA2
 simp only [] at HA3
 have hl : (⟨s.Lease.Holder, s.Lease.Epoch, s.Lease.Until⟩ : DLease) = s.Lease := rfl
 refine (sGranted_e _ _ _ _ ec et oa).mono ?_
 rintro e9 w7 ⟨rfl, hx7⟩
 rw [hl]
 obtain ⟨gl, hgl⟩ : ∃ gl, gl = grantR s.Lease ec et oa := ⟨_, rfl⟩
 rw [← hgl] at HA3 ⊢
 clear hgl hl
 have CH7 : Chg w2.heap.size w3 w7 := CH6.ext hx7
 have E7 := E6.trans hx7
 have hz7 := hx7.size
 have KS7 := KS6.ext hx7; have KE7 := KE6.ext hx7; have KR7 := KR6.ext hx7; have KO7 := KO6.ext hx7
 have CS7 := KS7.cell; have FS7 := KS7.frozen; have LS7 := KS7.lt; have CE7 := KE7.cell; have FE7 := KE7.frozen; have LE7 := KE7.lt; have CR7 := KR7.cell; have FR7 := KR7.frozen; have LR7 := KR7.lt; have CO7 := KO7.cell; have FO7 := KO7.frozen; have LO7 := KO7.lt
 go_wp2_with fail
 refine bodyPost_ret (by simp [results, Tryz.results17, go_sem, CR7, FR7, LR7]; try rfl) rfl ?_
 refine ⟨_, rfl, xT, _, by (rw [HA1.out]; try rfl), ?_⟩
 rw [HA3.out]
 exact ⟨_, _, rfl, (g2.keep chgT).mono oM, (g3.keep chgT).mono oM⟩
end Go.Proofs.YtlnkggpemdpemaaGreat
