/- The statement FnExactNewShelf: for every input the law returns true. -/
import Derived.Test.YtfeddckbbhgpfaaOpen
import Derived.Test.YtfeddckbbhgpfaaFacts
import Derived.Test.YtfeddckbbhgpfaaLNewShelf
namespace Go.Proofs.Ytfeddckbbhgpfaa.fnExactNewShelf
open Go.ChangeShapes Go.WideShapes Go.ChangeAt Go.RowKit Go.G8
open Go.Proofs.Ytfeddckbbhgpfaa.facts (b2)

set_option maxRecDepth 100000 in
theorem lifted (os : Os) (started : os.Started) (H : Type) (enc : TypeId × Value → H) :
    ReturnsInHanded {} Try.checked os 3 .any (Rows.fnExactNewShelfSpec.pre6 enc Try.prog Try.f3 Rows.fnExactNewShelfRow.domain false) (Rows.fnExactNewShelfSpec.post enc Try.prog Try.f3 false true false false) := by
  refine returnsInHanded_of_change (C := Try.checked) own started (by kernel_rfl) Try.func3
    (ChangeSpec.witness6 (enc := enc) (C := Try.checked) false ⟨#[], #[], []⟩ 8 (by kernel_rfl) (by kernel_rfl) (by kernel_rfl) (by kernel_rfl)) ?_
  intro W base args ds gs before hval0 hW _ _
  have hval : ∀ (j : Nat) t v, Try.f3.params[j]? = some t → args[j]? = some v → Value.okWide Try.prog W .any base t v := hval0
  have hW' := hW
  obtain ⟨p, q, hA0, hV, rfl, hfz, hnd⟩ := hW
  have hA : DataW.TrodAll enc Try.prog W 0 (fun _ => true) true Try.f3.params.toList args.toList ds p := hA0
  rw [Try.params3] at hA hval
  obtain ⟨rfl, rfl, rfl⟩ := trodAll_none hA
  obtain ⟨rfl, rfl⟩ := trodVars_none hV
  clear hA0 hval0
  refine (law_NewShelf W ).mono fun e W' ⟨he, bel0⟩ => ?_
  have bel : Below W.heap.size W W' := bel0
  subst he
  exact ⟨_, rfl, _, _, _, [], _, [], hW', trodAll_mk1 (shut_bool Try.underlying4 _), rfl, rfl, bel.frame _, fun h => by cases h⟩

theorem k0 : (Rows.fnExactNewShelfRow.wf (OpenSpec.ofChange Rows.fnExactNewShelfSpec)) = true := by kernel_rfl
theorem k1 : (laidOutB Try.checked.prog) = true := facts.k1
theorem k2 : (mapsRowed Try.checked.prog) = true := facts.k2
theorem k3 : (Try.f3.params.all (Try.checked.prog.readableRec ·)) = true := by kernel_rfl
theorem k4 : (namedTie Try.checked.prog Rows.fnExactNewShelfRow.named Rows.fnExactNewShelfSpec.vars) = true := by kernel_rfl
theorem k5 : ((Rows.fnExactNewShelfRow.stops == [])) = true := by kernel_rfl
theorem k6 : ((Try.checked.prog.stops == [])) = true := facts.k6
theorem k7 : ((Rows.fnExactNewShelfRow.knobs == [])) = true := by kernel_rfl
theorem k8 : ((Try.checked.prog.stopKnobs == [])) = true := facts.k8
theorem k9 : ((Rows.fnExactNewShelfRow.inPlace == Try.checked.prog.inPlace 3)) = true := by kernel_rfl
theorem k10 : ((Rows.fnExactNewShelfRow.unfollowed == Try.checked.prog.unfollowed 3)) = true := by kernel_rfl
theorem k11 : ((Rows.fnExactNewShelfRow.recurses == Try.checked.prog.recurses 3)) = true := by kernel_rfl
theorem k12 : ((Rows.fnExactNewShelfRow.named == Try.checked.prog.varsNamed 3)) = true := by kernel_rfl
theorem k13 : ((Rows.fnExactNewShelfRow.maps == (Try.f3.params.toList ++ Rows.fnExactNewShelfSpec.plain.varTypes Try.checked.prog).any (Try.checked.prog.mapsRec ·))) = true := by kernel_rfl
theorem k14 : ((Rows.fnExactNewShelfRow.ifaces == (Try.f3.params.toList ++ Rows.fnExactNewShelfSpec.plain.varTypes Try.checked.prog).any (Try.checked.prog.ifacesRec ·))) = true := by kernel_rfl
theorem k15 : ((Rows.fnExactNewShelfRow.mapsOut == Try.checked.prog.mapsAmong Try.f3.resultTypes.toList)) = true := by kernel_rfl
theorem k16 : ((Rows.fnExactNewShelfRow.loops == (Try.f3.params.toList ++ Rows.fnExactNewShelfSpec.plain.varTypes Try.checked.prog).any (Try.checked.prog.loopsFrom ·))) = true := by kernel_rfl
theorem k17 : ((Rows.fnExactNewShelfRow.wideKeys == (Try.f3.params.toList ++ Rows.fnExactNewShelfSpec.plain.varTypes Try.checked.prog ++ Try.f3.resultTypes.toList).any (Try.checked.prog.wideKeysFrom ·))) = true := by kernel_rfl
theorem k18 : (Rows.fnExactNewShelfSpec.vars.all (Try.checked.prog.varReadable ·)) = true := by kernel_rfl
theorem k19 : (Try.f3.resultTypes.all (fun t => Try.checked.prog.readableRec t && decide (t < Try.checked.prog.types.size))) = true := by kernel_rfl
theorem k20 : ((Rows.fnExactNewShelfRow.ifacesOut == Try.f3.resultTypes.toList.any (Try.checked.prog.ifacesRec ·))) = true := by kernel_rfl
theorem k21 : ((Rows.fnExactNewShelfRow.loopsOut == Try.f3.resultTypes.toList.any (Try.checked.prog.loopsFrom ·))) = true := by kernel_rfl
theorem k22 : ((Rows.fnExactNewShelfRow.plainKeys == Try.checked.prog.plainKeys)) = true := facts.k22
theorem k23 : (Rows.fnExactNewShelfRow.shortTexts.isNone) = true := by kernel_rfl
theorem k24 : (Try.checked.prog.stopsHeard) = true := facts.k24
theorem k25 : (Try.checked.prog.mayEnter) = true := facts.k25
theorem k26 : ((Rows.fnExactNewShelfRow.lifted == Try.checked.prog.liftsFinal)) = true := facts.k26
theorem k27 : ((Try.checked.prog.make == some Rows.fnExactNewShelfRow.make)) = true := facts.k27
theorem k28 : ((Rows.fnExactNewShelfRow.kinds == (if Rows.fnExactNewShelfRow.domain.isEmpty then [] else Try.f3.params.toList.map fun t => match Try.checked.prog.underlying t with | some (.int k) => some k | _ => none))) = true := by kernel_rfl
theorem k29 : ((Rows.fnExactNewShelfRow.pinned == Rows.fnExactNewShelfRow.pinnedBy)) = true := by kernel_rfl
theorem k30 : ((Rows.fnExactNewShelfRow.veiled == (Try.f3.params.toList ++ Rows.fnExactNewShelfSpec.plain.varTypes Try.checked.prog ++ Try.f3.resultTypes.toList).any (Try.checked.prog.veiledRec ·))) = true := by kernel_rfl
theorem k31 : (Rows.fnExactNewShelfRow.veiledFits Try.checked.prog Try.f3.params.toList (Try.f3.params.toList ++ Rows.fnExactNewShelfSpec.plain.varTypes Try.checked.prog ++ Try.f3.resultTypes.toList)) = true := by kernel_rfl
set_option maxRecDepth 100000 in
theorem closed : joinedFacts Try.checked.prog 3 Try.f3 Rows.fnExactNewShelfSpec Rows.fnExactNewShelfRow = true := by
  unfold joinedFacts
  exact (b2 (b2 (b2 (b2 (b2 (b2 (b2 (b2 (b2 (b2 (b2 (b2 (b2 (b2 (b2 (b2 (b2 (b2 (b2 (b2 (b2 (b2 (b2 (b2 (b2 (b2 (b2 (b2 (b2 (b2 (b2 k0 k1) k2) k3) k4) k5) k6) k7) k8) k9) k10) k11) k12) k13) k14) k15) k16) k17) k18) k19) k20) k21) k22) k23) k24) k25) k26) k27) k28) k29) k30) k31)

theorem proved : Rows.FnExactNewShelfSaid :=
  OpenClaim.holds_of_wide 3 Try.f3 rfl rfl rfl rfl rfl rfl rfl ⟨rfl, rfl, rfl, rfl, rfl⟩ rfl rfl rfl rfl rfl (by as_aux_lemma => kernel_rfl) Try.func3 closed
    (of_decide_eq_true (by as_aux_lemma => kernel_rfl)) (by as_aux_lemma => (unfold Func.isWrapper; rw [if_neg (of_decide_eq_false (by kernel_rfl))]; exact ⟨rfl, rfl⟩))
    (fun os started H enc _ => lifted os started H enc)
end Go.Proofs.Ytfeddckbbhgpfaa.fnExactNewShelf
