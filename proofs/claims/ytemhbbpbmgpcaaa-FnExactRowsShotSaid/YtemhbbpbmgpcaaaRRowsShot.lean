/- The statement FnExactRowsShot: for every input the law returns true. -/
import Derived.Test.YtemhbbpbmgpcaaaOpen
import Derived.Test.YtemhbbpbmgpcaaaFacts
import Derived.Test.YtemhbbpbmgpcaaaLRowsShot
import Derived.Test.YtemhbbpbmgpcaaaOpen3
namespace Go.Proofs.Ytemhbbpbmgpcaaa.fnExactRowsShot
open Go.ChangeShapes Go.WideShapes Go.ChangeAt Go.RowKit Go.G8
open Go.Proofs.Ytemhbbpbmgpcaaa.facts (b2)

set_option maxRecDepth 100000 in
theorem lifted (os : Os) (started : os.Started) (H : Type) (enc : TypeId × Value → H) :
    ReturnsInHanded {} Try.checked os 4 .any (Rows.fnExactRowsShotSpec.pre6 enc Try.prog Try.f4 Rows.fnExactRowsShotRow.domain false) (Rows.fnExactRowsShotSpec.post enc Try.prog Try.f4 false true false false) := by
  refine returnsInHanded_of_change (C := Try.checked) own started (by kernel_rfl) Try.func4
    (ChangeSpec.witness6 (enc := enc) (C := Try.checked) false ⟨#[], #[.slice none 0 0], []⟩ 8 (by kernel_rfl) (by kernel_rfl) (by kernel_rfl) (by kernel_rfl)) ?_
  intro W base args ds gs before hval0 hW _ _
  have hval : ∀ (j : Nat) t v, Try.f4.params[j]? = some t → args[j]? = some v → Value.okWide Try.prog W .any base t v := hval0
  have hW' := hW
  obtain ⟨p, q, hA0, hV, rfl, hfz, hnd⟩ := hW
  have hA : DataW.TrodAll enc Try.prog W 0 (fun _ => true) true Try.f4.params.toList args.toList ds p := hA0
  rw [Try.params4] at hA hval
  obtain ⟨v0, vs0, d0, ds0, p0, q0, hargs, rfl, rfl, h0, r0⟩ := trodAll_cons hA
  obtain ⟨rfl, rfl, rfl⟩ := trodAll_nil r0
  obtain rfl : args = #[v0] := by cases args; simp_all
  obtain ⟨rfl, rfl⟩ := trodVars_none hV
  have k0 := h0
  have lt0 : ∀ x ∈ p0, x.block < W.heap.size := by obtain ⟨m, hm⟩ := k0; exact DataW.trod_lt m _ _ _ hm
  obtain ⟨sa0, sn0, sc0, rfl⟩ := okWide_slice Try.underlying31 (hval 0 31 v0 rfl rfl)
  obtain ⟨m0, hm0⟩ := h0
  obtain ⟨s0_0, l0_0, e0, g0_0⟩ := rl_Int64SS hm0
  simp [Value.cells] at e0
  subst e0
  clear hA0 hval0
  refine (law_RowsShot W _ _ g0_0).mono fun e W' ⟨he, bel0⟩ => ?_
  have bel : Below W.heap.size W W' := bel0
  subst he
  exact ⟨_, rfl, _, _, _, [], _, [], hW', trodAll_mk1 (shut_bool Try.underlying4 _), (trodAll_cons_mk (Below.trod laidOut (by kernel_rfl) (of_decide_eq_true (by kernel_rfl)) k0 bel lt0) trodAll_mk0), rfl, bel.frame _, fun h => by cases h⟩

theorem k0 : (Rows.fnExactRowsShotRow.wf (OpenSpec.ofChange Rows.fnExactRowsShotSpec)) = true := by kernel_rfl
theorem k1 : (laidOutB Try.checked.prog) = true := facts.k1
theorem k2 : (mapsRowed Try.checked.prog) = true := facts.k2
theorem k3 : (Try.f4.params.all (Try.checked.prog.readableRec ·)) = true := by kernel_rfl
theorem k4 : (namedTie Try.checked.prog Rows.fnExactRowsShotRow.named Rows.fnExactRowsShotSpec.vars) = true := by kernel_rfl
theorem k5 : ((Rows.fnExactRowsShotRow.stops == [])) = true := by kernel_rfl
theorem k6 : ((Try.checked.prog.stops == [])) = true := facts.k6
theorem k7 : ((Rows.fnExactRowsShotRow.knobs == [])) = true := by kernel_rfl
theorem k8 : ((Try.checked.prog.stopKnobs == [])) = true := facts.k8
theorem k9 : ((Rows.fnExactRowsShotRow.inPlace == Try.checked.prog.inPlace 4)) = true := by kernel_rfl
theorem k10 : ((Rows.fnExactRowsShotRow.unfollowed == Try.checked.prog.unfollowed 4)) = true := by kernel_rfl
theorem k11 : ((Rows.fnExactRowsShotRow.recurses == Try.checked.prog.recurses 4)) = true := by kernel_rfl
theorem k12 : ((Rows.fnExactRowsShotRow.named == Try.checked.prog.varsNamed 4)) = true := by kernel_rfl
theorem k13 : ((Rows.fnExactRowsShotRow.maps == (Try.f4.params.toList ++ Rows.fnExactRowsShotSpec.plain.varTypes Try.checked.prog).any (Try.checked.prog.mapsRec ·))) = true := by kernel_rfl
theorem k14 : ((Rows.fnExactRowsShotRow.ifaces == (Try.f4.params.toList ++ Rows.fnExactRowsShotSpec.plain.varTypes Try.checked.prog).any (Try.checked.prog.ifacesRec ·))) = true := by kernel_rfl
theorem k15 : ((Rows.fnExactRowsShotRow.mapsOut == Try.checked.prog.mapsAmong Try.f4.resultTypes.toList)) = true := by kernel_rfl
theorem k16 : ((Rows.fnExactRowsShotRow.loops == (Try.f4.params.toList ++ Rows.fnExactRowsShotSpec.plain.varTypes Try.checked.prog).any (Try.checked.prog.loopsFrom ·))) = true := by kernel_rfl
theorem k17 : ((Rows.fnExactRowsShotRow.wideKeys == (Try.f4.params.toList ++ Rows.fnExactRowsShotSpec.plain.varTypes Try.checked.prog ++ Try.f4.resultTypes.toList).any (Try.checked.prog.wideKeysFrom ·))) = true := by kernel_rfl
theorem k18 : (Rows.fnExactRowsShotSpec.vars.all (Try.checked.prog.varReadable ·)) = true := by kernel_rfl
theorem k19 : (Try.f4.resultTypes.all (fun t => Try.checked.prog.readableRec t && decide (t < Try.checked.prog.types.size))) = true := by kernel_rfl
theorem k20 : ((Rows.fnExactRowsShotRow.ifacesOut == Try.f4.resultTypes.toList.any (Try.checked.prog.ifacesRec ·))) = true := by kernel_rfl
theorem k21 : ((Rows.fnExactRowsShotRow.loopsOut == Try.f4.resultTypes.toList.any (Try.checked.prog.loopsFrom ·))) = true := by kernel_rfl
theorem k22 : ((Rows.fnExactRowsShotRow.plainKeys == Try.checked.prog.plainKeys)) = true := facts.k22
theorem k23 : (Rows.fnExactRowsShotRow.shortTexts.isNone) = true := by kernel_rfl
theorem k24 : (Try.checked.prog.stopsHeard) = true := facts.k24
theorem k25 : (Try.checked.prog.mayEnter) = true := facts.k25
theorem k26 : ((Rows.fnExactRowsShotRow.lifted == Try.checked.prog.liftsFinal)) = true := facts.k26
theorem k27 : ((Try.checked.prog.make == some Rows.fnExactRowsShotRow.make)) = true := facts.k27
theorem k28 : ((Rows.fnExactRowsShotRow.kinds == (if Rows.fnExactRowsShotRow.domain.isEmpty then [] else Try.f4.params.toList.map fun t => match Try.checked.prog.underlying t with | some (.int k) => some k | _ => none))) = true := by kernel_rfl
theorem k29 : ((Rows.fnExactRowsShotRow.pinned == Rows.fnExactRowsShotRow.pinnedBy)) = true := by kernel_rfl
theorem k30 : ((Rows.fnExactRowsShotRow.veiled == (Try.f4.params.toList ++ Rows.fnExactRowsShotSpec.plain.varTypes Try.checked.prog ++ Try.f4.resultTypes.toList).any (Try.checked.prog.veiledRec ·))) = true := by kernel_rfl
theorem k31 : (Rows.fnExactRowsShotRow.veiledFits Try.checked.prog Try.f4.params.toList (Try.f4.params.toList ++ Rows.fnExactRowsShotSpec.plain.varTypes Try.checked.prog ++ Try.f4.resultTypes.toList)) = true := by kernel_rfl
set_option maxRecDepth 100000 in
theorem closed : joinedFacts Try.checked.prog 4 Try.f4 Rows.fnExactRowsShotSpec Rows.fnExactRowsShotRow = true := by
  unfold joinedFacts
  exact (b2 (b2 (b2 (b2 (b2 (b2 (b2 (b2 (b2 (b2 (b2 (b2 (b2 (b2 (b2 (b2 (b2 (b2 (b2 (b2 (b2 (b2 (b2 (b2 (b2 (b2 (b2 (b2 (b2 (b2 (b2 k0 k1) k2) k3) k4) k5) k6) k7) k8) k9) k10) k11) k12) k13) k14) k15) k16) k17) k18) k19) k20) k21) k22) k23) k24) k25) k26) k27) k28) k29) k30) k31)

theorem proved : Rows.FnExactRowsShotSaid :=
  OpenClaim.holds_of_wide 4 Try.f4 rfl rfl rfl rfl rfl rfl rfl ⟨rfl, rfl, rfl, rfl, rfl⟩ rfl rfl rfl rfl rfl (by as_aux_lemma => kernel_rfl) Try.func4 closed
    (of_decide_eq_true (by as_aux_lemma => kernel_rfl)) (by as_aux_lemma => (unfold Func.isWrapper; rw [if_neg (of_decide_eq_false (by kernel_rfl))]; exact ⟨rfl, rfl⟩))
    (fun os started H enc _ => lifted os started H enc)
end Go.Proofs.Ytemhbbpbmgpcaaa.fnExactRowsShot
