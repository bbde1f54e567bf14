/- The statement FnShotsTurn: the walk and the row. -/
import Derived.Test.YtlnkggpemdpemaaGreatYa
import Derived.Test.YtlnkggpemdpemaaGreatXw
import Derived.Test.YtlnkggpemdpemaaGreatYq
import Derived.Test.YtlnkggpemdpemaaGreatXl
import Derived.Test.YtlnkggpemdpemaaGreatYl
import Derived.Test.YtlnkggpemdpemaaGreatYc
set_option linter.unusedSimpArgs false
set_option linter.unusedVariables false
set_option maxHeartbeats 8000000
set_option maxRecDepth 100000
namespace Go.Proofs.YtlnkggpemdpemaaGreat
open Go.RowKit Go.G8
theorem law_ShotsTurn (w : World) (v : Value) (h : Bytes w v) : Calls Tryz.prog 4 #[v] w (RetV w (.bool true)) := by
 obtain ⟨bs, hbs, hbo⟩ := h
 obtain ⟨a, n, k, rfl⟩ := hbs.shape
 have HB : Bytes w (.slice a n k) := ⟨bs, hbs, hbo⟩
 clear hbs hbo
 go_enter Tryz.func4, Tryz.ntmps4
 go_wp2_with fail
 refine (big_c _ a n k).mono ?_
 rintro e9 w9 ⟨rfl, rfl⟩
 by_cases hbig : (4096 : Int) < (n : Int)
 ·
  go_wp2_with fail
  go_ret
  exact ⟨rfl, Ext.refl _⟩
 go_wp2_with fail
 refine (roll_c HB 19).mono ?_
 rintro e w1 ⟨_, rfl, hx1, g, rfl, hc1⟩
 obtain ⟨B, hB⟩ : ∃ B, B = w.heap.size := ⟨_, rfl⟩
 rw [← hB] at hc1
 have hg0 := hc1.lt; have hgw : w.heap.size ≤ g := by omega
 have hz1 := hx1.size; have E1 : Upd w w1 [g] := Upd.ofExt hx1 _
 clear hx1 HB
 go_wp2_with fail
 refine (below_c (show Die B _ g from by exact dieT) 30 oM).mono ?_
 rintro e w2 ⟨_, rfl, X2, hc2, x0, rfl, px0, qx0⟩
 have hz2 := X2.sz
 have E2 : Upd w w2 [g] := X2.up
 clear X2
 obtain ⟨N, rfl⟩ := Int.eq_ofNat_of_zero_le px0
 have hgl := hc2.lt
 go_wp2_with fail
 refine (w6List_c (show Die B _ g from by exact dieT) N oM).mono ?_
 rintro e w3 ⟨_, rfl, X3, hc3, l, m, Ol3, hl, hfo, hmo⟩
 have hz3 := X3.sz
 have E3 : Upd w w3 [g] := X3.up
 clear X3
 obtain ⟨a0, n0, c0, rfl⟩ := Ol3.shape
 have hn0 : n0 = l.length := by obtain ⟨_, q, _, e, hl9, _⟩ := Ol3.ints; injection e with _ e _; simp only [List.length_map, length_flEntry] at hl9; omega
 subst hn0
 have hcap : l.length ≤ c0 := by obtain ⟨_, q, _, e, _, hle, _⟩ := Ol3.ints; injection e with _ e1 e2; omega
 clear hmo
 go_wp2_with fail
 refine (w6Store_c (show Die B _ g from by exact dieT) (M := w2.heap.size) oM (show OwnI w2.heap.size 54 9 _ (.slice a0 l.length c0) (flEntry l) from by exact ownT) oM hfo 30 oM _).mono ?_
 rintro e w4 ⟨_, rfl, X4, hc4, x, s, told, rfl, gs, hI⟩
 have hz4 := X4.sz
 have E4 : Upd w w4 [g] := X4.up
 have Ol4 : OwnI w2.heap.size 54 9 w4 (.slice a0 l.length c0) (flEntry l) := OwnI.drawn (by exact ownT) X4 oM
 clear X4
 obtain ⟨ST, hST⟩ : ∃ q, q = (fun k : Int => fldD (⟨0, 0, [], [], ⟨0, 0, 0⟩⟩ : DState) (l.take k.toNat)) := ⟨_, rfl⟩
 rw [← hST] at hI
 have hst : StOk ST (l.length : Int) := by rw [hST]; exact st_ok hfo oM
 have hli := sinv_lies hst hI; have hok := hI.ok; have hb := storeOk_bounds hI.ok; have hto := hI.top; have htd := hI.told; have hsok : stateOk s.State = true := by have := hI.state; rw [this]; exact (hst.2 _ oM oM).1
 obtain ⟨az0, nz0, kz0, az1, nz1, kz1, az4, nz4, kz4, az5, nz5, kz5, rfl⟩ := gs.rd.shape
 obtain ⟨Iz, hIz⟩ : ∃ q : Nat, s.State.Index = (q : Int) := ⟨_, (Int.toNat_of_nonneg oM).symm⟩
 have hJz : Iz ≤ l.length := by omega
 have ht1 : told ≤ (Iz : Int) := by omega
 have ht2 : told ≤ s.Last := htd
 have hsst : fldD (⟨0, 0, [], [], ⟨0, 0, 0⟩⟩ : DState) (l.take Iz) = s.State := by have := hI.state; rw [hIz, hST] at this; simpa using this.symm
 rw [hIz] at gs ⊢
 have HLI := Lib.hid hli; have HOK := Lib.hid hok; have HSO := Lib.hid hsok; have HIz := Lib.hid hIz; have HSS := Lib.hid hsst
 clear hli hok hb hto htd hsok hIz hsst hI hst hST hfo
 have hIc : Iz ≤ c0 := by omega
 have hng : ¬ ((Iz : Int) < 0) := by omega
 have hnl : ¬ ((l.length : Int) < (Iz : Int)) := by omega
 have gr := gs.rd; clear gs
 go_wp2_with fail
 refine (sStoreOk_r (gr.ext (by exact extT))).mono ?_
 rintro e w5 ⟨rfl, hx5⟩
 have gr := gr.ext (Ext.trans (by exact extT) hx5)
 have hz5 := hx5.size; (try simp only [szA] at hz5)
 have E5 : Upd w w5 [g] := Upd.ext (by exact updT) hx5
 have hc5 : Die B w5 g := Die.ext (by exact dieT) hx5
 have KU5 : Blk w5 w4.heap.size 41 #[.slice az0 nz0 kz0, .slice az1 nz1 kz1, .int .i64 (Iz : Int), .int .i64 s.State.Time, .slice az4 nz4 kz4, .slice az5 nz5 kz5, .int .i64 s.State.Lease.Holder, .int .i64 s.State.Lease.Epoch, .int .i64 s.State.Lease.Until, .int .i64 s.Num, .int .i64 s.Last, .int .i64 s.Busy] := Blk.ext bD hx5
 have Ol5 := OwnI.ext1 (ow_en Ol4) hx5
 clear hx5
 obtain ⟨CU5, FU5, LU5⟩ := KU5.cfl
 rw [HOK.out]
 go_wp2_with fail
 refine (liesIn_k (gr.ext (by exact extT))).mono ?_
 rintro e w6 ⟨rfl, hx6⟩
 have gr := gr.ext (Ext.trans (by exact extT) hx6)
 have hz6 := hx6.size; (try simp only [szA] at hz6)
 have E6 : Upd w w6 [g] := Upd.ext (by exact updT) hx6
 have hc6 : Die B w6 g := Die.ext (by exact dieT) hx6
 have KU6 := KU5.exv hx6
 have Ol6 := OwnI.ext1 (ow_ex0n Ol5 KU5) hx6
 clear hx6
 clear CU5 FU5 LU5
 obtain ⟨CU6, FU6, LU6⟩ := KU6.cfl
 rw [HLI.out]
 go_wp2_with fail
 refine (sLiesIn_k (gr.ext (by exact extT))).mono ?_
 rintro e w7 ⟨rfl, hx7⟩
 have gr := gr.ext (Ext.trans (by exact extT) hx7)
 have hz7 := hx7.size; (try simp only [szA] at hz7)
 have E7 : Upd w w7 [g] := Upd.ext (by exact updT) hx7
 have hc7 : Die B w7 g := Die.ext (by exact dieT) hx7
 have KU7 := KU6.exv hx7
 have Ol7 := OwnI.ext1 (ow_ex0n Ol6 KU6) hx7
 clear hx7
 clear CU6 FU6 LU6
 obtain ⟨CU7, FU7, LU7⟩ := KU7.cfl
 rw [HLI.out]
 go_wp2_with fail
 go_ret
 exact ⟨by first | rfl | (simp [*]; done), Upd.toExt (g := g) (by exact updT) hgw⟩
end Go.Proofs.YtlnkggpemdpemaaGreat
namespace Go.Proofs.YtlnkggpemdpemaaGreat.fnShotsTurn
open Go.ChangeShapes Go.WideShapes Go.ChangeAt Go.RowKit Go.G8
open Go.Proofs.YtlnkggpemdpemaaGreat.facts (b2)
theorem lifted (os : Os) (started : os.Started) (H : Type) (enc : TypeId × Value → H) :
  ReturnsInHanded {} Tryz.checked os 4 .any (Rows.fnShotsTurnSpec.pre6 enc Tryz.prog Tryz.f4 Rows.fnShotsTurnRow.domain false) (Rows.fnShotsTurnSpec.post enc Tryz.prog Tryz.f4 false true false false) := by
 refine returnsInHanded_of_change (C := Tryz.checked) own started (by kernel_rfl) Tryz.func4
  (ChangeSpec.witness6 (enc := enc) (C := Tryz.checked) false ⟨#[], #[.slice none 0 0], []⟩ 8 (by kernel_rfl) (by kernel_rfl) (by kernel_rfl) (by kernel_rfl)) ?_
 intro W base args ds gs before hval0 hW _ _
 have hval : ∀ (j : Nat) t v, Tryz.f4.params[j]? = some t → args[j]? = some v → Value.okWide Tryz.prog W .any base t v := hval0
 have hW' := hW
 obtain ⟨p, q, hA0, hV, rfl, hfz, hnd⟩ := hW
 have hA : DataW.TrodAll enc Tryz.prog W 0 (fun _ => true) true Tryz.f4.params.toList args.toList ds p := hA0
 rw [Tryz.params4] at hA hval
 obtain ⟨v0, vs0, d0, ds0, p0, q0, hargs, rfl, rfl, h0, r0⟩ := trodAll_cons hA
 obtain ⟨rfl, rfl, rfl⟩ := trodAll_nil r0
 obtain rfl : args = #[v0] := by cases args; simp_all
 obtain ⟨rfl, rfl⟩ := trodVars_none hV
 have k0 := h0
 have lt0 : ∀ x ∈ p0, x.block < W.heap.size := by obtain ⟨m, hm⟩ := k0; exact DataW.trod_lt m _ _ _ hm
 obtain ⟨sa0, sn0, sc0, rfl⟩ := okWide_slice Tryz.underlying22 (hval 0 22 v0 rfl rfl)
 obtain ⟨m0, hm0⟩ := h0
 obtain ⟨s0, e0, g0⟩ := rd_Bytes hm0
 simp [Value.cells] at e0
 subst e0
 clear hA0 hval0
 refine (law_ShotsTurn W _ g0).mono fun e W' ⟨he, bel0⟩ => ?_
 have bel : Below W.heap.size W W' := bel0
 subst he
 exact ⟨_, rfl, _, _, _, [], _, [], hW', trodAll_mk1 (shut_bool Tryz.underlying4 _), (trodAll_cons_mk (Below.trod laidOut (by kernel_rfl) (of_decide_eq_true (by kernel_rfl)) k0 bel lt0) trodAll_mk0), rfl, bel.frame _, fun h => by cases h⟩
theorem k0 : (Rows.fnShotsTurnRow.wf (OpenSpec.ofChange Rows.fnShotsTurnSpec)) = true := by kernel_rfl
theorem k1 : (laidOutB Tryz.checked.prog) = true := facts.k1
theorem k2 : (mapsRowed Tryz.checked.prog) = true := facts.k2
theorem k3 : (Tryz.f4.params.all (Tryz.checked.prog.readableRec ·)) = true := by kernel_rfl
theorem k4 : (namedTie Tryz.checked.prog Rows.fnShotsTurnRow.named Rows.fnShotsTurnSpec.vars) = true := by kernel_rfl
theorem k5 : ((Rows.fnShotsTurnRow.stops == [])) = true := by kernel_rfl
theorem k6 : ((Tryz.checked.prog.stops == [])) = true := facts.k6
theorem k7 : ((Rows.fnShotsTurnRow.knobs == [])) = true := by kernel_rfl
theorem k8 : ((Tryz.checked.prog.stopKnobs == [])) = true := facts.k8
theorem k9 : ((Rows.fnShotsTurnRow.inPlace == Tryz.checked.prog.inPlace 4)) = true := by kernel_rfl
theorem k10 : ((Rows.fnShotsTurnRow.unfollowed == Tryz.checked.prog.unfollowed 4)) = true := by kernel_rfl
theorem k11 : ((Rows.fnShotsTurnRow.recurses == Tryz.checked.prog.recurses 4)) = true := by kernel_rfl
theorem k12 : ((Rows.fnShotsTurnRow.named == Tryz.checked.prog.varsNamed 4)) = true := by kernel_rfl
theorem k13 : ((Rows.fnShotsTurnRow.maps == (Tryz.f4.params.toList ++ Rows.fnShotsTurnSpec.plain.varTypes Tryz.checked.prog).any (Tryz.checked.prog.mapsRec ·))) = true := by kernel_rfl
theorem k14 : ((Rows.fnShotsTurnRow.ifaces == (Tryz.f4.params.toList ++ Rows.fnShotsTurnSpec.plain.varTypes Tryz.checked.prog).any (Tryz.checked.prog.ifacesRec ·))) = true := by kernel_rfl
theorem k15 : ((Rows.fnShotsTurnRow.mapsOut == Tryz.checked.prog.mapsAmong Tryz.f4.resultTypes.toList)) = true := by kernel_rfl
theorem k16 : ((Rows.fnShotsTurnRow.loops == (Tryz.f4.params.toList ++ Rows.fnShotsTurnSpec.plain.varTypes Tryz.checked.prog).any (Tryz.checked.prog.loopsFrom ·))) = true := by kernel_rfl
theorem k17 : ((Rows.fnShotsTurnRow.wideKeys == (Tryz.f4.params.toList ++ Rows.fnShotsTurnSpec.plain.varTypes Tryz.checked.prog ++ Tryz.f4.resultTypes.toList).any (Tryz.checked.prog.wideKeysFrom ·))) = true := by kernel_rfl
theorem k18 : (Rows.fnShotsTurnSpec.vars.all (Tryz.checked.prog.varReadable ·)) = true := by kernel_rfl
theorem k19 : (Tryz.f4.resultTypes.all (fun t => Tryz.checked.prog.readableRec t && decide (t < Tryz.checked.prog.types.size))) = true := by kernel_rfl
theorem k20 : ((Rows.fnShotsTurnRow.ifacesOut == Tryz.f4.resultTypes.toList.any (Tryz.checked.prog.ifacesRec ·))) = true := by kernel_rfl
theorem k21 : ((Rows.fnShotsTurnRow.loopsOut == Tryz.f4.resultTypes.toList.any (Tryz.checked.prog.loopsFrom ·))) = true := by kernel_rfl
theorem k22 : ((Rows.fnShotsTurnRow.plainKeys == Tryz.checked.prog.plainKeys)) = true := facts.k22
theorem k23 : (Rows.fnShotsTurnRow.shortTexts.isNone) = true := by kernel_rfl
theorem k24 : (Tryz.checked.prog.stopsHeard) = true := facts.k24
theorem k25 : (Tryz.checked.prog.mayEnter) = true := facts.k25
theorem k26 : ((Rows.fnShotsTurnRow.lifted == Tryz.checked.prog.liftsFinal)) = true := facts.k26
theorem k27 : ((Tryz.checked.prog.make == some Rows.fnShotsTurnRow.make)) = true := facts.k27
theorem k28 : ((Rows.fnShotsTurnRow.kinds == (if Rows.fnShotsTurnRow.domain.isEmpty then [] else Tryz.f4.params.toList.map fun t => match Tryz.checked.prog.underlying t with | some (.int k) => some k | _ => none))) = true := by kernel_rfl
theorem k29 : ((Rows.fnShotsTurnRow.pinned == Rows.fnShotsTurnRow.pinnedBy)) = true := by kernel_rfl
theorem k30 : ((Rows.fnShotsTurnRow.veiled == (Tryz.f4.params.toList ++ Rows.fnShotsTurnSpec.plain.varTypes Tryz.checked.prog ++ Tryz.f4.resultTypes.toList).any (Tryz.checked.prog.veiledRec ·))) = true := by kernel_rfl
theorem k31 : (Rows.fnShotsTurnRow.veiledFits Tryz.checked.prog Tryz.f4.params.toList (Tryz.f4.params.toList ++ Rows.fnShotsTurnSpec.plain.varTypes Tryz.checked.prog ++ Tryz.f4.resultTypes.toList)) = true := by kernel_rfl
theorem closed : joinedFacts Tryz.checked.prog 4 Tryz.f4 Rows.fnShotsTurnSpec Rows.fnShotsTurnRow = true := by
 unfold joinedFacts
 exact (b2 (b2 (b2 (b2 (b2 (b2 (b2 (b2 (b2 (b2 (b2 (b2 (b2 (b2 (b2 (b2 (b2 (b2 (b2 (b2 (b2 (b2 (b2 (b2 (b2 (b2 (b2 (b2 (b2 (b2 (b2 k0 k1) k2) k3) k4) k5) k6) k7) k8) k9) k10) k11) k12) k13) k14) k15) k16) k17) k18) k19) k20) k21) k22) k23) k24) k25) k26) k27) k28) k29) k30) k31)
theorem proved : Rows.FnShotsTurnSaid :=
 OpenClaim.holds_of_wide 4 Tryz.f4 rfl rfl rfl rfl rfl rfl rfl ⟨rfl, rfl, rfl, rfl, rfl⟩ rfl rfl rfl rfl rfl (by as_aux_lemma => kernel_rfl) Tryz.func4 closed
  (of_decide_eq_true (by as_aux_lemma => kernel_rfl)) (by as_aux_lemma => (unfold Func.isWrapper; rw [if_neg (of_decide_eq_false (by kernel_rfl))]; exact ⟨rfl, rfl⟩))
  (fun os started H enc _ => lifted os started H enc)
end Go.Proofs.YtlnkggpemdpemaaGreat.fnShotsTurn
