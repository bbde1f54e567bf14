/- The statement FnExactDigestOf: walk and row. -/
import Derived.Test.YtkpmbocbbgocbaaGreatGa
import Derived.Test.YtkpmbocbbgocbaaGreatB3
import Derived.Test.YtkpmbocbbgocbaaGreatN5
import Derived.Test.YtkpmbocbbgocbaaGreatGc
import Derived.Test.YtkpmbocbbgocbaaGreatB12
set_option linter.unusedSimpArgs false
set_option linter.unusedVariables false
set_option maxHeartbeats 40000000
set_option maxRecDepth 100000
namespace Go.Proofs.YtkpmbocbbgocbaaGreat
open Go.RowKit Go.G8
theorem law_DigestOf (w:World) (v:Value) (d:DWorld) (h0:RdWorld w v d) :
  Calls Tryz.prog 4 #[v] w (RetV w (.bool true)):=by
 obtain⟨L,rfl,hL,-⟩:=h0.cells
 obtain⟨W0,hW0⟩:∃ W0,W0=w.alloc (.cells L.toArray 65):=⟨_,rfl⟩
 have E0:Ext w W0:=by rw [hW0];exact (Ext.refl _).alloc _
 have RL:W0.rangeAt w.heap.size 0 L:=by rw [hW0];exact Bk.range (A:=[]) (C:=[]) (Bk.cast (Bk.new _ _ _) (by simp)) rfl
 go_enter Tryz.func4,Tryz.ntmps4
 go_upto_region 1 with (fail)
 rw [← hW0];clear hW0
 go_wp2_with (first|(refine wpList_load_mid rfl 65 _ rfl (w.heap.size) 0 (by rfl) L _ (rangeAt_ext RL extT) Tryz.underlying65 rfl (by rw [hL];kernel_rfl) ?_))
 refine (sz_World (h0.ext extT) (left:=1048576) oM oM).mono ?_
 rintro e w1 ⟨v1,rfl,hx1,hv1⟩
 have X1:Ext W0 w1:=hx1;clear hx1
 rcases hv1 with ⟨rfl,hq⟩|⟨rfl,hq⟩
 ·
  clear hq
  go_wp2_with fail
  go_ret
  exact⟨rfl,by exact extT⟩
 obtain⟨z,hz⟩:∃ z,z=(1048576:Int) - (sznWorld d:Nat):=⟨_,rfl⟩
 rw [← hz]
 have hd:decide (z<0)=false:=by simp;omega
 have hs:sznWorld d≤1048576:=by omega
 clear hz hq
 go_wp2_with (first|(refine wpList_load_mid rfl 65 _ rfl (w.heap.size) 0 (by rfl) L _ (rangeAt_ext RL extT) Tryz.underlying65 rfl (by rw [hL];kernel_rfl) ?_))
 refine (to_World (h0.ext extT) hs).mono ?_
 rintro e w2 ⟨u2,rfl,hx2,F2,o2⟩
 have X2:Ext W0 w2:=X1.trans hx2;clear hx2
 go_wp2_with fail
 refine (sDigestOf_k (o2.rd.ext extT) (by have:=worldN_len d;omega)).mono ?_
 rintro e w3 ⟨rfl,hx3⟩
 have X3:Ext W0 w3:=X2.trans hx3;clear hx3 o2
 obtain⟨r,hr⟩:∃ r,r=digestOf d:=⟨_,rfl⟩
 rw [← hr];have HR:=Lib.hid hr;clear hr
 as_aux_lemma =>
 go_wp2_with (first|(refine wpList_load_mid rfl 65 _ rfl (w.heap.size) 0 (by rfl) L _ (rangeAt_ext RL extT) Tryz.underlying65 rfl (by rw [hL];kernel_rfl) ?_))
 refine (to_World (h0.ext extT) hs).mono ?_
 rintro e w4 ⟨u4,rfl,hx4,F4,o4⟩
 have X4:Ext W0 w4:=X3.trans hx4;clear hx4
 obtain⟨M,rfl,hM,oneM⟩:=o4.rd.cells
 go_wp2_with (first|(refine wpList_load_mid rfl 106 _ rfl (w4.heap.size) 0 (by rfl) M _ (rangeAt_ext RM extT) Tryz.underlying106 rfl (by rw [hM];kernel_rfl) ?_)|(refine wpList_store_part rfl 106 _ _ rfl w4.heap.size 0 (.agg M.toArray) M (by rfl) (by rfl) rfl 106 [] [Value.slice none 0 0,Value.slice none 0 0,Value.slice none 0 0,Value.slice none 0 0,Value.int .i64 0,Value.int .i64 0,Value.int .i64 0,Value.slice none 0 0,Value.int .i64 0,Value.int .i64 0,Value.int .i64 0,Value.slice none 0 0,Value.bool false,Value.int .i64 0,Value.int .i64 0,Value.slice none 0 0,Value.slice none 0 0,Value.int .i64 0,Value.slice none 0 0,Value.slice none 0 0,Value.slice none 0 0,Value.int .i64 0,Value.int .i64 0,Value.slice none 0 0,Value.slice none 0 0,Value.int .i64 0,Value.int .i64 0,Value.int .i64 0,Value.int .i64 0,Value.int .i64 0,Value.int .i64 0,Value.int .i64 0,Value.int .i64 0,Value.int .i64 0,Value.int .i64 0,Value.int .i64 0,Value.int .i64 0,Value.int .i64 0,Value.slice none 0 0,Value.bool false,Value.int .i64 0,Value.int .i64 0,Value.int .i64 0,Value.int .i64 0,Value.int .i64 0,Value.int .i64 0,Value.int .i64 0,Value.int .i64 0,Value.int .i64 0,Value.int .i64 0,Value.int .i64 0,Value.int .i64 0,Value.int .i64 0,Value.slice none 0 0,Value.bool false,Value.int .i64 0,Value.int .i64 0,Value.int .i64 0,Value.int .i64 0,Value.int .i64 0,Value.int .i64 0,Value.int .i64 0,Value.slice none 0 0,Value.slice none 0 0,Value.int .i64 0,Value.int .i64 0,Value.slice none 0 0,Value.slice none 0 0,Value.int .i64 0,Value.slice none 0 0,Value.slice none 0 0,Value.slice none 0 0,Value.slice none 0 0] [] (Bk.cast (Bk.new w4 106 [Value.slice none 0 0,Value.slice none 0 0,Value.slice none 0 0,Value.slice none 0 0,Value.int .i64 0,Value.int .i64 0,Value.int .i64 0,Value.slice none 0 0,Value.int .i64 0,Value.int .i64 0,Value.int .i64 0,Value.slice none 0 0,Value.bool false,Value.int .i64 0,Value.int .i64 0,Value.slice none 0 0,Value.slice none 0 0,Value.int .i64 0,Value.slice none 0 0,Value.slice none 0 0,Value.slice none 0 0,Value.int .i64 0,Value.int .i64 0,Value.slice none 0 0,Value.slice none 0 0,Value.int .i64 0,Value.int .i64 0,Value.int .i64 0,Value.int .i64 0,Value.int .i64 0,Value.int .i64 0,Value.int .i64 0,Value.int .i64 0,Value.int .i64 0,Value.int .i64 0,Value.int .i64 0,Value.int .i64 0,Value.int .i64 0,Value.slice none 0 0,Value.bool false,Value.int .i64 0,Value.int .i64 0,Value.int .i64 0,Value.int .i64 0,Value.int .i64 0,Value.int .i64 0,Value.int .i64 0,Value.int .i64 0,Value.int .i64 0,Value.int .i64 0,Value.int .i64 0,Value.int .i64 0,Value.int .i64 0,Value.slice none 0 0,Value.bool false,Value.int .i64 0,Value.int .i64 0,Value.int .i64 0,Value.int .i64 0,Value.int .i64 0,Value.int .i64 0,Value.int .i64 0,Value.slice none 0 0,Value.slice none 0 0,Value.int .i64 0,Value.int .i64 0,Value.slice none 0 0,Value.slice none 0 0,Value.int .i64 0,Value.slice none 0 0,Value.slice none 0 0,Value.slice none 0 0,Value.slice none 0 0]) (by simp)) rfl (by rw [hM];rfl) (by rw [hM];kernel_rfl) oneM ?_;intro V5 hV5 B5;have X5:Ext W0 V5:=Ext.ofSet hV5 extT (by have:=X4.size;omega);have o5:=o4.keep (Chg.ofSet hV5 (Chg.ext (Chg.refl _ _) ((Ext.refl _).alloc _)) (Or.inr (Nat.le_refl _)));have RM:V5.rangeAt w4.heap.size 0 M:=Bk.range (A:=[]) (C:=[]) (Bk.cast B5 (by simp)) rfl;clear hV5 B5 o4))
 refine (DigestOf_k (o5.rd.ext extT) (by have:=worldN_len d;omega)).mono ?_
 rintro e w6 ⟨rfl,hx6⟩
 have X6:Ext W0 w6:=X5.trans hx6
 rw [← HR.out]
 have RM6:=rangeAt_ext RM hx6;have h6:=o5.rd.ext hx6;clear hx6 RM o5
 as_aux_lemma =>
 have hr1:(r != r)=false:=by simp
 go_upto_region 10 with (fail)
 have RL6:=rangeAt_ext RL X6
 have g0:=h0.ext (E0.trans X6)
 refine wp_region_held_drew (S:=fun w'=>Ext w6 w') (by kernel_rfl) (by (try dsimp only);exact extT) (fun hHeld=>?_)
 refine wpAnyH_take (i:=0) (v:=.agg M.toArray) rfl (by kernel_rfl) (by kernel_rfl) (by kernel_rfl) (fun _ _ _ h=>h) (yieldsIf_load_mid (by rfl) 106 _ rfl (w4.heap.size) 0 (by rfl) M _ (fun _ hSw=>rangeAt_ext RM6 hSw) Tryz.underlying106 rfl (by rw [hM];kernel_rfl)) (by assumption) ?_
 (try simp only [redA,Act.put])
 refine wpAnyH_take (i:=1) (v:=.agg L.toArray) rfl (by kernel_rfl) (by kernel_rfl) (by kernel_rfl) (fun _ _ _ h=>h) (yieldsIf_load_mid (by rfl) 65 _ rfl (w.heap.size) 0 (by rfl) L _ (fun _ hSw=>rangeAt_ext RL6 hSw) Tryz.underlying65 rfl (by rw [hL];kernel_rfl)) (by assumption) ?_
 (try simp only [redA,Act.put])
 refine wr1 2 fun Kz hKz=>?_
 (try simp only [redA])
 go_simp
 go_at_call 10
 refine (to_World (g0.ext extT) hs).mono ?_
 rintro e w7 ⟨u7,rfl,hx7,F7,o7⟩
 have Y7:Ext w6 w7:=Ext.trans extT hx7
 clear hx7
 refine hKz.out _ _ (by (try dsimp only);exact extT) (fun hHeld=>?_)
 clear hKz Kz
 (try simp only [redA,Act.put])
 refine wr1 3 fun Kz hKz=>?_
 (try simp only [redA])
 go_simp
 go_at_call 12
 refine (eq_World (h6.ext extT) (o7.rd.ext extT)).mono ?_
 rintro e w8 ⟨rfl,hx8⟩
 have Y8:Ext w6 w8:=Ext.trans extT hx8
 clear hx8
 refine hKz.out _ _ (by (try dsimp only);exact extT) (fun hHeld=>?_)
 clear hKz Kz
 (try simp only [redA,Act.put])
 refine wt 4 ?_
 (try simp only [redA,Act.put])
 refine wpAnyH_done (by kernel_rfl) ?_ _
 go_wp2_with fail
 go_ret
 exact⟨rfl,by exact extT⟩
end Go.Proofs.YtkpmbocbbgocbaaGreat
namespace Go.Proofs.YtkpmbocbbgocbaaGreat.fnExactDigestOf
open Go.ChangeShapes Go.WideShapes Go.ChangeAt Go.RowKit Go.G8
open Go.Proofs.YtkpmbocbbgocbaaGreat.facts (b2)
theorem lifted (os:Os) (started:os.Started) (H:Type) (enc:TypeId × Value→H) :
  ReturnsInHanded {} Tryz.checked os 4 .any (Rows.fnExactDigestOfSpec.pre6 enc Tryz.prog Tryz.f4 Rows.fnExactDigestOfRow.domain false) (Rows.fnExactDigestOfSpec.post enc Tryz.prog Tryz.f4 false true false false):=by
 refine returnsInHanded_of_change (C:=Tryz.checked) own started (by kernel_rfl) Tryz.func4
  (ChangeSpec.witness6 (enc:=enc) (C:=Tryz.checked) false ⟨#[],#[.agg #[.slice none 0 0,.slice none 0 0,.slice none 0 0,.slice none 0 0,.int .i64 0,.int .i64 0,.int .i64 0,.slice none 0 0,.int .i64 0,.int .i64 0,.int .i64 0,.slice none 0 0,.bool false,.int .i64 0,.int .i64 0,.slice none 0 0,.slice none 0 0,.int .i64 0,.slice none 0 0,.slice none 0 0,.slice none 0 0,.int .i64 0,.int .i64 0,.slice none 0 0,.slice none 0 0,.int .i64 0,.int .i64 0,.int .i64 0,.int .i64 0,.int .i64 0,.int .i64 0,.int .i64 0,.int .i64 0,.int .i64 0,.int .i64 0,.int .i64 0,.int .i64 0,.int .i64 0,.slice none 0 0,.bool false,.int .i64 0,.int .i64 0,.int .i64 0,.int .i64 0,.int .i64 0,.int .i64 0,.int .i64 0,.int .i64 0,.int .i64 0,.int .i64 0,.int .i64 0,.int .i64 0,.int .i64 0,.slice none 0 0,.bool false,.int .i64 0,.int .i64 0,.int .i64 0,.int .i64 0,.int .i64 0,.int .i64 0,.int .i64 0,.slice none 0 0,.slice none 0 0,.int .i64 0,.int .i64 0,.slice none 0 0,.slice none 0 0,.int .i64 0,.slice none 0 0,.slice none 0 0,.slice none 0 0,.slice none 0 0]],[]⟩ 8 (by kernel_rfl) (by kernel_rfl) (by kernel_rfl) (by kernel_rfl)) ?_
 intro W base args ds gs before hval0 hW _ _
 have hval:∀ (j:Nat) t v,Tryz.f4.params[j]?=some t→args[j]?=some v→Value.okWide Tryz.prog W .any base t v:=hval0
 have hW':=hW
 obtain⟨p,q,hA0,hV,rfl,hfz,hnd⟩:=hW
 have hA:DataW.TrodAll enc Tryz.prog W 0 (fun _=>true) true Tryz.f4.params.toList args.toList ds p:=hA0
 rw [Tryz.params4] at hA hval
 obtain⟨v0,vs0,d0,ds0,p0,q0,hargs,rfl,rfl,h0,r0⟩:=trodAll_cons hA
 obtain⟨rfl,rfl,rfl⟩:=trodAll_nil r0
 obtain rfl:args=#[v0]:=by cases args;simp_all
 obtain⟨rfl,rfl⟩:=trodVars_none hV
 have k0:=h0
 have lt0:∀ x ∈ p0,x.block<W.heap.size:=by obtain⟨m,hm⟩:=k0;exact DataW.trod_lt m _ _ _ hm
 have hv0:=hval 0 65 v0 rfl rfl
 unfold Value.okWide at hv0
 rw [Tryz.underlying65] at hv0
 obtain⟨cs0,rfl,_,_⟩:=hv0
 obtain⟨m0,hm0⟩:=h0
 obtain⟨d0',g0⟩:=rk_World hm0
 have g0:RdWorld W (.agg cs0) d0':=by simpa [Value.cells] using g0
 clear hA0 hval0
 refine (law_DigestOf W _ d0' g0).mono fun e W' ⟨he,bel0⟩=>?_
 have bel:Below W.heap.size W W':=bel0
 subst he
 exact⟨_,rfl,_,_,_,[],_,[],hW',trodAll_mk1 (shut_bool Tryz.underlying4 _),(trodAll_cons_mk (Below.trod laidOut (by kernel_rfl) (of_decide_eq_true (by kernel_rfl)) k0 bel lt0) trodAll_mk0),rfl,bel.frame _,fun h=>by cases h⟩
theorem k0:(Rows.fnExactDigestOfRow.wf (OpenSpec.ofChange Rows.fnExactDigestOfSpec))=true:=by kernel_rfl
theorem k1:(laidOutB Tryz.checked.prog)=true:=facts.k1
theorem k2:(mapsRowed Tryz.checked.prog)=true:=facts.k2
theorem k3:(Tryz.f4.params.all (Tryz.checked.prog.readableRec ·))=true:=by kernel_rfl
theorem k4:(namedTie Tryz.checked.prog Rows.fnExactDigestOfRow.named Rows.fnExactDigestOfSpec.vars)=true:=by kernel_rfl
theorem k5:((Rows.fnExactDigestOfRow.stops == []))=true:=by kernel_rfl
theorem k6:((Tryz.checked.prog.stops == []))=true:=facts.k6
theorem k7:((Rows.fnExactDigestOfRow.knobs == []))=true:=by kernel_rfl
theorem k8:((Tryz.checked.prog.stopKnobs == []))=true:=facts.k8
theorem k9:((Rows.fnExactDigestOfRow.inPlace == Tryz.checked.prog.inPlace 4))=true:=by kernel_rfl
theorem k10:((Rows.fnExactDigestOfRow.unfollowed == Tryz.checked.prog.unfollowed 4))=true:=by kernel_rfl
theorem k11:((Rows.fnExactDigestOfRow.recurses == Tryz.checked.prog.recurses 4))=true:=by kernel_rfl
theorem k12:((Rows.fnExactDigestOfRow.named == Tryz.checked.prog.varsNamed 4))=true:=by kernel_rfl
theorem k13:((Rows.fnExactDigestOfRow.maps == (Tryz.f4.params.toList ++ Rows.fnExactDigestOfSpec.plain.varTypes Tryz.checked.prog).any (Tryz.checked.prog.mapsRec ·)))=true:=by kernel_rfl
theorem k14:((Rows.fnExactDigestOfRow.ifaces == (Tryz.f4.params.toList ++ Rows.fnExactDigestOfSpec.plain.varTypes Tryz.checked.prog).any (Tryz.checked.prog.ifacesRec ·)))=true:=by kernel_rfl
theorem k15:((Rows.fnExactDigestOfRow.mapsOut == Tryz.checked.prog.mapsAmong Tryz.f4.resultTypes.toList))=true:=by kernel_rfl
theorem k16:((Rows.fnExactDigestOfRow.loops == (Tryz.f4.params.toList ++ Rows.fnExactDigestOfSpec.plain.varTypes Tryz.checked.prog).any (Tryz.checked.prog.loopsFrom ·)))=true:=by kernel_rfl
theorem k17:((Rows.fnExactDigestOfRow.wideKeys == (Tryz.f4.params.toList ++ Rows.fnExactDigestOfSpec.plain.varTypes Tryz.checked.prog ++ Tryz.f4.resultTypes.toList).any (Tryz.checked.prog.wideKeysFrom ·)))=true:=by kernel_rfl
theorem k18:(Rows.fnExactDigestOfSpec.vars.all (Tryz.checked.prog.varReadable ·))=true:=by kernel_rfl
theorem k19:(Tryz.f4.resultTypes.all (fun t=>Tryz.checked.prog.readableRec t && decide (t<Tryz.checked.prog.types.size)))=true:=by kernel_rfl
theorem k20:((Rows.fnExactDigestOfRow.ifacesOut == Tryz.f4.resultTypes.toList.any (Tryz.checked.prog.ifacesRec ·)))=true:=by kernel_rfl
theorem k21:((Rows.fnExactDigestOfRow.loopsOut == Tryz.f4.resultTypes.toList.any (Tryz.checked.prog.loopsFrom ·)))=true:=by kernel_rfl
theorem k22:((Rows.fnExactDigestOfRow.plainKeys == Tryz.checked.prog.plainKeys))=true:=facts.k22
theorem k23:(Rows.fnExactDigestOfRow.shortTexts.isNone)=true:=by kernel_rfl
theorem k24:(Tryz.checked.prog.stopsHeard)=true:=facts.k24
theorem k25:(Tryz.checked.prog.mayEnter)=true:=facts.k25
theorem k26:((Rows.fnExactDigestOfRow.lifted == Tryz.checked.prog.liftsFinal))=true:=facts.k26
theorem k27:((Tryz.checked.prog.make == some Rows.fnExactDigestOfRow.make))=true:=facts.k27
theorem k28:((Rows.fnExactDigestOfRow.kinds == (if Rows.fnExactDigestOfRow.domain.isEmpty then [] else Tryz.f4.params.toList.map fun t=>match Tryz.checked.prog.underlying t with|some (.int k)=>some k|_=>none)))=true:=by kernel_rfl
theorem k29:((Rows.fnExactDigestOfRow.pinned == Rows.fnExactDigestOfRow.pinnedBy))=true:=by kernel_rfl
theorem k30:((Rows.fnExactDigestOfRow.veiled == (Tryz.f4.params.toList ++ Rows.fnExactDigestOfSpec.plain.varTypes Tryz.checked.prog ++ Tryz.f4.resultTypes.toList).any (Tryz.checked.prog.veiledRec ·)))=true:=by kernel_rfl
theorem k31:(Rows.fnExactDigestOfRow.veiledFits Tryz.checked.prog Tryz.f4.params.toList (Tryz.f4.params.toList ++ Rows.fnExactDigestOfSpec.plain.varTypes Tryz.checked.prog ++ Tryz.f4.resultTypes.toList))=true:=by kernel_rfl
theorem closed:joinedFacts Tryz.checked.prog 4 Tryz.f4 Rows.fnExactDigestOfSpec Rows.fnExactDigestOfRow=true:=by
 unfold joinedFacts
 exact (b2 (b2 (b2 (b2 (b2 (b2 (b2 (b2 (b2 (b2 (b2 (b2 (b2 (b2 (b2 (b2 (b2 (b2 (b2 (b2 (b2 (b2 (b2 (b2 (b2 (b2 (b2 (b2 (b2 (b2 (b2 k0 k1) k2) k3) k4) k5) k6) k7) k8) k9) k10) k11) k12) k13) k14) k15) k16) k17) k18) k19) k20) k21) k22) k23) k24) k25) k26) k27) k28) k29) k30) k31)
theorem proved:Rows.FnExactDigestOfSaid :=
 OpenClaim.holds_of_wide 4 Tryz.f4 rfl rfl rfl rfl rfl rfl rfl ⟨rfl,rfl,rfl,rfl,rfl⟩ rfl rfl rfl rfl rfl (by as_aux_lemma=>kernel_rfl) Tryz.func4 closed
  (of_decide_eq_true (by as_aux_lemma=>kernel_rfl)) (by as_aux_lemma=>(unfold Func.isWrapper;rw [if_neg (of_decide_eq_false (by kernel_rfl))];exact⟨rfl,rfl⟩))
  (fun os started H enc _=>lifted os started H enc)
end Go.Proofs.YtkpmbocbbgocbaaGreat.fnExactDigestOf
