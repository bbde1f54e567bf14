/- The statement FnExactShotRows: for every input the law returns true. -/
import Derived.Test.YtemhbbpbmgpcaaaOpen
import Derived.Test.YtemhbbpbmgpcaaaFacts
import Derived.Test.YtemhbbpbmgpcaaaLShotRows
import Derived.Test.YtemhbbpbmgpcaaaOpen2
namespace Go.Proofs.Ytemhbbpbmgpcaaa.fnExactShotRows
open Go.ChangeShapes Go.WideShapes Go.ChangeAt Go.RowKit Go.G8
open Go.Proofs.Ytemhbbpbmgpcaaa.facts (b2)

set_option maxRecDepth 100000 in
theorem lifted (os : Os) (started : os.Started) (H : Type) (enc : TypeId × Value → H) :
    ReturnsInHanded {} Try.checked os 3 .any (Rows.fnExactShotRowsSpec.pre6 enc Try.prog Try.f3 Rows.fnExactShotRowsRow.domain false) (Rows.fnExactShotRowsSpec.post enc Try.prog Try.f3 false true false false) := by
  refine returnsInHanded_of_change (C := Try.checked) own started (by kernel_rfl) Try.func3
    (ChangeSpec.witness6 (enc := enc) (C := Try.checked) false ⟨#[], #[.agg #[.int .i64 0, .int .i64 0, .int .i64 0, .slice none 0 0, .slice none 0 0, .int .i64 0, .int .i64 0, .int .i64 0]], []⟩ 8 (by kernel_rfl) (by kernel_rfl) (by kernel_rfl) (by kernel_rfl)) ?_
  intro W base args ds gs before hval0 hW _ _
  have hval : ∀ (j : Nat) t v, Try.f3.params[j]? = some t → args[j]? = some v → Value.okWide Try.prog W .any base t v := hval0
  have hW' := hW
  obtain ⟨p, q, hA0, hV, rfl, hfz, hnd⟩ := hW
  have hA : DataW.TrodAll enc Try.prog W 0 (fun _ => true) true Try.f3.params.toList args.toList ds p := hA0
  rw [Try.params3] at hA hval
  obtain ⟨v0, vs0, d0, ds0, p0, q0, hargs, rfl, rfl, h0, r0⟩ := trodAll_cons hA
  obtain ⟨rfl, rfl, rfl⟩ := trodAll_nil r0
  obtain rfl : args = #[v0] := by cases args; simp_all
  obtain ⟨rfl, rfl⟩ := trodVars_none hV
  have k0 := h0
  have lt0 : ∀ x ∈ p0, x.block < W.heap.size := by obtain ⟨m, hm⟩ := k0; exact DataW.trod_lt m _ _ _ hm
  have hv0 := hval 0 29 v0 rfl rfl
  unfold Value.okWide at hv0
  rw [Try.underlying29] at hv0
  obtain ⟨cs0, rfl, _, _⟩ := hv0
  obtain ⟨m0, hm0⟩ := h0
  obtain ⟨c0_0, c0_1, c0_2, s0_3, l0_3, s0_4, l0_4, c0_5, c0_6, c0_7, e0, g0_3, g0_4⟩ := rl_Shot hm0
  obtain rfl : cs0 = #[.int .i64 c0_0, .int .i64 c0_1, .int .i64 c0_2, s0_3, s0_4, .int .i64 c0_5, .int .i64 c0_6, .int .i64 c0_7] := by cases cs0; simp_all [Value.cells]
  clear hA0 hval0
  refine (law_ShotRows W _ _ _ _ _ _ _ _ _ _ g0_3 g0_4).mono fun e W' ⟨he, bel0⟩ => ?_
  have bel : Below W.heap.size W W' := bel0
  subst he
  exact ⟨_, rfl, _, _, _, [], _, [], hW', trodAll_mk1 (shut_bool Try.underlying4 _), (trodAll_cons_mk (Below.trod laidOut (by kernel_rfl) (of_decide_eq_true (by kernel_rfl)) k0 bel lt0) trodAll_mk0), rfl, bel.frame _, fun h => by cases h⟩

theorem k0 : (Rows.fnExactShotRowsRow.wf (OpenSpec.ofChange Rows.fnExactShotRowsSpec)) = true := by kernel_rfl
theorem k1 : (laidOutB Try.checked.prog) = true := facts.k1
theorem k2 : (mapsRowed Try.checked.prog) = true := facts.k2
theorem k3 : (Try.f3.params.all (Try.checked.prog.readableRec ·)) = true := by kernel_rfl
theorem k4 : (namedTie Try.checked.prog Rows.fnExactShotRowsRow.named Rows.fnExactShotRowsSpec.vars) = true := by kernel_rfl
theorem k5 : ((Rows.fnExactShotRowsRow.stops == [])) = true := by kernel_rfl
theorem k6 : ((Try.checked.prog.stops == [])) = true := facts.k6
theorem k7 : ((Rows.fnExactShotRowsRow.knobs == [])) = true := by kernel_rfl
theorem k8 : ((Try.checked.prog.stopKnobs == [])) = true := facts.k8
theorem k9 : ((Rows.fnExactShotRowsRow.inPlace == Try.checked.prog.inPlace 3)) = true := by kernel_rfl
theorem k10 : ((Rows.fnExactShotRowsRow.unfollowed == Try.checked.prog.unfollowed 3)) = true := by kernel_rfl
theorem k11 : ((Rows.fnExactShotRowsRow.recurses == Try.checked.prog.recurses 3)) = true := by kernel_rfl
theorem k12 : ((Rows.fnExactShotRowsRow.named == Try.checked.prog.varsNamed 3)) = true := by kernel_rfl
theorem k13 : ((Rows.fnExactShotRowsRow.maps == (Try.f3.params.toList ++ Rows.fnExactShotRowsSpec.plain.varTypes Try.checked.prog).any (Try.checked.prog.mapsRec ·))) = true := by kernel_rfl
theorem k14 : ((Rows.fnExactShotRowsRow.ifaces == (Try.f3.params.toList ++ Rows.fnExactShotRowsSpec.plain.varTypes Try.checked.prog).any (Try.checked.prog.ifacesRec ·))) = true := by kernel_rfl
theorem k15 : ((Rows.fnExactShotRowsRow.mapsOut == Try.checked.prog.mapsAmong Try.f3.resultTypes.toList)) = true := by kernel_rfl
theorem k16 : ((Rows.fnExactShotRowsRow.loops == (Try.f3.params.toList ++ Rows.fnExactShotRowsSpec.plain.varTypes Try.checked.prog).any (Try.checked.prog.loopsFrom ·))) = true := by kernel_rfl
theorem k17 : ((Rows.fnExactShotRowsRow.wideKeys == (Try.f3.params.toList ++ Rows.fnExactShotRowsSpec.plain.varTypes Try.checked.prog ++ Try.f3.resultTypes.toList).any (Try.checked.prog.wideKeysFrom ·))) = true := by kernel_rfl
theorem k18 : (Rows.fnExactShotRowsSpec.vars.all (Try.checked.prog.varReadable ·)) = true := by kernel_rfl
theorem k19 : (Try.f3.resultTypes.all (fun t => Try.checked.prog.readableRec t && decide (t < Try.checked.prog.types.size))) = true := by kernel_rfl
theorem k20 : ((Rows.fnExactShotRowsRow.ifacesOut == Try.f3.resultTypes.toList.any (Try.checked.prog.ifacesRec ·))) = true := by kernel_rfl
theorem k21 : ((Rows.fnExactShotRowsRow.loopsOut == Try.f3.resultTypes.toList.any (Try.checked.prog.loopsFrom ·))) = true := by kernel_rfl
theorem k22 : ((Rows.fnExactShotRowsRow.plainKeys == Try.checked.prog.plainKeys)) = true := facts.k22
theorem k23 : (Rows.fnExactShotRowsRow.shortTexts.isNone) = true := by kernel_rfl
theorem k24 : (Try.checked.prog.stopsHeard) = true := facts.k24
theorem k25 : (Try.checked.prog.mayEnter) = true := facts.k25
theorem k26 : ((Rows.fnExactShotRowsRow.lifted == Try.checked.prog.liftsFinal)) = true := facts.k26
theorem k27 : ((Try.checked.prog.make == some Rows.fnExactShotRowsRow.make)) = true := facts.k27
theorem k28 : ((Rows.fnExactShotRowsRow.kinds == (if Rows.fnExactShotRowsRow.domain.isEmpty then [] else Try.f3.params.toList.map fun t => match Try.checked.prog.underlying t with | some (.int k) => some k | _ => none))) = true := by kernel_rfl
theorem k29 : ((Rows.fnExactShotRowsRow.pinned == Rows.fnExactShotRowsRow.pinnedBy)) = true := by kernel_rfl
theorem k30 : ((Rows.fnExactShotRowsRow.veiled == (Try.f3.params.toList ++ Rows.fnExactShotRowsSpec.plain.varTypes Try.checked.prog ++ Try.f3.resultTypes.toList).any (Try.checked.prog.veiledRec ·))) = true := by kernel_rfl
theorem k31 : (Rows.fnExactShotRowsRow.veiledFits Try.checked.prog Try.f3.params.toList (Try.f3.params.toList ++ Rows.fnExactShotRowsSpec.plain.varTypes Try.checked.prog ++ Try.f3.resultTypes.toList)) = true := by kernel_rfl
set_option maxRecDepth 100000 in
theorem closed : joinedFacts Try.checked.prog 3 Try.f3 Rows.fnExactShotRowsSpec Rows.fnExactShotRowsRow = true := by
  unfold joinedFacts
  exact (b2 (b2 (b2 (b2 (b2 (b2 (b2 (b2 (b2 (b2 (b2 (b2 (b2 (b2 (b2 (b2 (b2 (b2 (b2 (b2 (b2 (b2 (b2 (b2 (b2 (b2 (b2 (b2 (b2 (b2 (b2 k0 k1) k2) k3) k4) k5) k6) k7) k8) k9) k10) k11) k12) k13) k14) k15) k16) k17) k18) k19) k20) k21) k22) k23) k24) k25) k26) k27) k28) k29) k30) k31)

theorem proved : Rows.FnExactShotRowsSaid :=
  OpenClaim.holds_of_wide 3 Try.f3 rfl rfl rfl rfl rfl rfl rfl ⟨rfl, rfl, rfl, rfl, rfl⟩ rfl rfl rfl rfl rfl (by as_aux_lemma => kernel_rfl) Try.func3 closed
    (of_decide_eq_true (by as_aux_lemma => kernel_rfl)) (by as_aux_lemma => (unfold Func.isWrapper; rw [if_neg (of_decide_eq_false (by kernel_rfl))]; exact ⟨rfl, rfl⟩))
    (fun os started H enc _ => lifted os started H enc)
end Go.Proofs.Ytemhbbpbmgpcaaa.fnExactShotRows
