/- The statement FnExactNewStore: for every input the law returns true. -/
import Derived.Test.YtghfklophkekjaaOpen
import Derived.Test.YtghfklophkekjaaFacts
import Derived.Test.YtghfklophkekjaaLNewStore
namespace Go.Proofs.Ytghfklophkekjaa.fnExactNewStore
open Go.ChangeShapes Go.WideShapes Go.ChangeAt Go.RowKit Go.G8
open Go.Proofs.Ytghfklophkekjaa.facts (b2)

set_option maxRecDepth 100000 in
theorem lifted (os : Os) (started : os.Started) (H : Type) (enc : TypeId × Value → H) :
    ReturnsInHanded {} Try.checked os 5 .any (Rows.fnExactNewStoreSpec.pre6 enc Try.prog Try.f5 Rows.fnExactNewStoreRow.domain false) (Rows.fnExactNewStoreSpec.post enc Try.prog Try.f5 false true false false) := by
  refine returnsInHanded_of_change (C := Try.checked) own started (by kernel_rfl) Try.func5
    (ChangeSpec.witness6 (enc := enc) (C := Try.checked) false ⟨#[], #[], []⟩ 8 (by kernel_rfl) (by kernel_rfl) (by kernel_rfl) (by kernel_rfl)) ?_
  intro W base args ds gs before hval0 hW _ _
  have hval : ∀ (j : Nat) t v, Try.f5.params[j]? = some t → args[j]? = some v → Value.okWide Try.prog W .any base t v := hval0
  have hW' := hW
  obtain ⟨p, q, hA0, hV, rfl, hfz, hnd⟩ := hW
  have hA : DataW.TrodAll enc Try.prog W 0 (fun _ => true) true Try.f5.params.toList args.toList ds p := hA0
  rw [Try.params5] at hA hval
  obtain ⟨rfl, rfl, rfl⟩ := trodAll_none hA
  obtain ⟨rfl, rfl⟩ := trodVars_none hV
  clear hA0 hval0
  refine (law_NewStore W ).mono fun e W' ⟨he, bel0⟩ => ?_
  have bel : Below W.heap.size W W' := bel0
  subst he
  exact ⟨_, rfl, _, _, _, [], _, [], hW', trodAll_mk1 (shut_bool Try.underlying4 _), rfl, rfl, bel.frame _, fun h => by cases h⟩

theorem k0 : (Rows.fnExactNewStoreRow.wf (OpenSpec.ofChange Rows.fnExactNewStoreSpec)) = true := by kernel_rfl
theorem k1 : (laidOutB Try.checked.prog) = true := facts.k1
theorem k2 : (mapsRowed Try.checked.prog) = true := facts.k2
theorem k3 : (Try.f5.params.all (Try.checked.prog.readableRec ·)) = true := by kernel_rfl
theorem k4 : (namedTie Try.checked.prog Rows.fnExactNewStoreRow.named Rows.fnExactNewStoreSpec.vars) = true := by kernel_rfl
theorem k5 : ((Rows.fnExactNewStoreRow.stops == [])) = true := by kernel_rfl
theorem k6 : ((Try.checked.prog.stops == [])) = true := facts.k6
theorem k7 : ((Rows.fnExactNewStoreRow.knobs == [])) = true := by kernel_rfl
theorem k8 : ((Try.checked.prog.stopKnobs == [])) = true := facts.k8
theorem k9 : ((Rows.fnExactNewStoreRow.inPlace == Try.checked.prog.inPlace 5)) = true := by kernel_rfl
theorem k10 : ((Rows.fnExactNewStoreRow.unfollowed == Try.checked.prog.unfollowed 5)) = true := by kernel_rfl
theorem k11 : ((Rows.fnExactNewStoreRow.recurses == Try.checked.prog.recurses 5)) = true := by kernel_rfl
theorem k12 : ((Rows.fnExactNewStoreRow.named == Try.checked.prog.varsNamed 5)) = true := by kernel_rfl
theorem k13 : ((Rows.fnExactNewStoreRow.maps == (Try.f5.params.toList ++ Rows.fnExactNewStoreSpec.plain.varTypes Try.checked.prog).any (Try.checked.prog.mapsRec ·))) = true := by kernel_rfl
theorem k14 : ((Rows.fnExactNewStoreRow.ifaces == (Try.f5.params.toList ++ Rows.fnExactNewStoreSpec.plain.varTypes Try.checked.prog).any (Try.checked.prog.ifacesRec ·))) = true := by kernel_rfl
theorem k15 : ((Rows.fnExactNewStoreRow.mapsOut == Try.checked.prog.mapsAmong Try.f5.resultTypes.toList)) = true := by kernel_rfl
theorem k16 : ((Rows.fnExactNewStoreRow.loops == (Try.f5.params.toList ++ Rows.fnExactNewStoreSpec.plain.varTypes Try.checked.prog).any (Try.checked.prog.loopsFrom ·))) = true := by kernel_rfl
theorem k17 : ((Rows.fnExactNewStoreRow.wideKeys == (Try.f5.params.toList ++ Rows.fnExactNewStoreSpec.plain.varTypes Try.checked.prog ++ Try.f5.resultTypes.toList).any (Try.checked.prog.wideKeysFrom ·))) = true := by kernel_rfl
theorem k18 : (Rows.fnExactNewStoreSpec.vars.all (Try.checked.prog.varReadable ·)) = true := by kernel_rfl
theorem k19 : (Try.f5.resultTypes.all (fun t => Try.checked.prog.readableRec t && decide (t < Try.checked.prog.types.size))) = true := by kernel_rfl
theorem k20 : ((Rows.fnExactNewStoreRow.ifacesOut == Try.f5.resultTypes.toList.any (Try.checked.prog.ifacesRec ·))) = true := by kernel_rfl
theorem k21 : ((Rows.fnExactNewStoreRow.loopsOut == Try.f5.resultTypes.toList.any (Try.checked.prog.loopsFrom ·))) = true := by kernel_rfl
theorem k22 : ((Rows.fnExactNewStoreRow.plainKeys == Try.checked.prog.plainKeys)) = true := facts.k22
theorem k23 : (Rows.fnExactNewStoreRow.shortTexts.isNone) = true := by kernel_rfl
theorem k24 : (Try.checked.prog.stopsHeard) = true := facts.k24
theorem k25 : (Try.checked.prog.mayEnter) = true := facts.k25
theorem k26 : ((Rows.fnExactNewStoreRow.lifted == Try.checked.prog.liftsFinal)) = true := facts.k26
theorem k27 : ((Try.checked.prog.make == some Rows.fnExactNewStoreRow.make)) = true := facts.k27
theorem k28 : ((Rows.fnExactNewStoreRow.kinds == (if Rows.fnExactNewStoreRow.domain.isEmpty then [] else Try.f5.params.toList.map fun t => match Try.checked.prog.underlying t with | some (.int k) => some k | _ => none))) = true := by kernel_rfl
theorem k29 : ((Rows.fnExactNewStoreRow.pinned == Rows.fnExactNewStoreRow.pinnedBy)) = true := by kernel_rfl
theorem k30 : ((Rows.fnExactNewStoreRow.veiled == (Try.f5.params.toList ++ Rows.fnExactNewStoreSpec.plain.varTypes Try.checked.prog ++ Try.f5.resultTypes.toList).any (Try.checked.prog.veiledRec ·))) = true := by kernel_rfl
theorem k31 : (Rows.fnExactNewStoreRow.veiledFits Try.checked.prog Try.f5.params.toList (Try.f5.params.toList ++ Rows.fnExactNewStoreSpec.plain.varTypes Try.checked.prog ++ Try.f5.resultTypes.toList)) = true := by kernel_rfl
set_option maxRecDepth 100000 in
theorem closed : joinedFacts Try.checked.prog 5 Try.f5 Rows.fnExactNewStoreSpec Rows.fnExactNewStoreRow = true := by
  unfold joinedFacts
  exact (b2 (b2 (b2 (b2 (b2 (b2 (b2 (b2 (b2 (b2 (b2 (b2 (b2 (b2 (b2 (b2 (b2 (b2 (b2 (b2 (b2 (b2 (b2 (b2 (b2 (b2 (b2 (b2 (b2 (b2 (b2 k0 k1) k2) k3) k4) k5) k6) k7) k8) k9) k10) k11) k12) k13) k14) k15) k16) k17) k18) k19) k20) k21) k22) k23) k24) k25) k26) k27) k28) k29) k30) k31)

theorem proved : Rows.FnExactNewStoreSaid :=
  OpenClaim.holds_of_wide 5 Try.f5 rfl rfl rfl rfl rfl rfl rfl ⟨rfl, rfl, rfl, rfl, rfl⟩ rfl rfl rfl rfl rfl (by as_aux_lemma => kernel_rfl) Try.func5 closed
    (of_decide_eq_true (by as_aux_lemma => kernel_rfl)) (by as_aux_lemma => (unfold Func.isWrapper; rw [if_neg (of_decide_eq_false (by kernel_rfl))]; exact ⟨rfl, rfl⟩))
    (fun os started H enc _ => lifted os started H enc)
end Go.Proofs.Ytghfklophkekjaa.fnExactNewStore
