/- The statement FnFeedTwice: walk and row. -/
import Derived.Test.YtcnioiieiebodaaGreatYa
import Derived.Test.YtcnioiieiebodaaGreatYq
import Derived.Test.YtcnioiieiebodaaGreatXh
import Derived.Test.YtcnioiieiebodaaGreatXj
import Derived.Test.YtcnioiieiebodaaGreatXi
import Derived.Test.YtcnioiieiebodaaGreatYl
import Derived.Test.YtcnioiieiebodaaGreatYc
set_option linter.unusedSimpArgs false
set_option maxHeartbeats 8000000
set_option maxRecDepth 100000
namespace Go.Proofs.YtcnioiieiebodaaGreat
open Go.RowKit Go.G8
theorem RdState.cast9 {w:World} {v:Value} {s s':DState} (h:RdState w v s) (e:s=s'):RdState w v s':=e ▸ h
theorem law_FeedTwice (w:World) (v:Value) (h:Bytes w v):Calls Tryz.prog 5 #[v] w (RetV w (.bool true)):=by
 obtain⟨bs,hbs,hbo⟩:=h
 obtain⟨a,n,k,rfl⟩:=hbs.shape
 have HB:Bytes w (.slice a n k):=⟨bs,hbs,hbo⟩
 clear hbs hbo
 have E0:Ext w w:=Ext.refl _
 go_enter Tryz.func5,Tryz.ntmps5
 go_wp2_with fail
 refine (big_c _ a n k).mono ?_
 rintro e9 w9 ⟨rfl,rfl⟩
 by_cases hbig:(4096:Int)<(n:Int)
 ·
  go_wp2_with fail
  go_ret
  exact⟨rfl,by exact extT⟩
 go_wp2_with fail
 refine (drawHeardFeed_c (HB.ext extT)).mono ?_
 rintro e w1 ⟨_,rfl,hx1,s,f,x,y,rfl,gs,gf⟩
 have X1:Ext w w1:=Ext.trans extT hx1
 have hz1:=X1.size
 have hy1:=hx1.size;(try simp only [szA] at hy1)
 have HB:=HB.ext X1
 have E1:Ext w w1:=E0.trans X1
 clear hx1 X1
 clear HB
 obtain⟨az0,nz0,kz0,az1,nz1,kz1,az4,nz4,kz4,az5,nz5,kz5,rfl⟩:=gs.shape
 obtain⟨af,nf,kf,rfl⟩:=gf.shape
 go_wp2_with fail
 refine (sHeardFeed_k (gs.ext extT) (gf.ext extT)).mono ?_
 rintro e w2 ⟨_,rfl,hx2,FW,gw0⟩
 have X2:Ext w1 w2:=Ext.trans extT hx2
 have hz2:=X2.size
 have hy2:=hx2.size;(try simp only [szA] at hy2)
 have KS2:Blk w2 w1.heap.size 65 #[.slice az0 nz0 kz0,.slice az1 nz1 kz1,.int .i64 s.State.Index,.int .i64 s.State.Time,.slice az4 nz4 kz4,.slice az5 nz5 kz5,.int .i64 s.State.Lease.Holder,.int .i64 s.State.Lease.Epoch,.int .i64 s.State.Lease.Until,.int .i64 s.Num,.int .i64 s.Last,.int .i64 s.Busy]:=Blk.ext bC hx2
 have KF2:Blk w2 (w1.heap.size+1) 68 #[.int .i64 f.Base,.int .i64 f.Last,.slice af nf kf]:=Blk.ext bC hx2
 have gs:=gs.ext X2
 have gf:=gf.ext X2
 have E2:Ext w w2:=E1.trans X2
 clear hx2 X2 E1
 obtain⟨CS2,FS2,LS2⟩:=KS2.cfl
 obtain⟨CF2,FF2,LF2⟩:=KF2.cfl
 have gw:=gw0.rd;clear gw0
 obtain⟨aw0,nw0,kw0,aw1,nw1,kw1,aw4,nw4,kw4,aw5,nw5,kw5,rfl⟩:=gw.shape
 go_wp2_with fail
 refine (heardFeed_k (gs.ext extT) (gf.ext extT)).mono ?_
 rintro e w3 ⟨_,rfl,hx3,FO,go0⟩
 have X3:Ext w2 w3:=Ext.trans extT hx3
 have hz3:=X3.size
 have hy3:=hx3.size;(try simp only [szA] at hy3)
 have KS3:=KS2.exv hx3
 clear KS2
 have KF3:=KF2.exv hx3
 clear KF2
 have KW3:Blk w3 w2.heap.size 65 #[.slice aw0 nw0 kw0,.slice aw1 nw1 kw1,.int .i64 (hfD s f).State.Index,.int .i64 (hfD s f).State.Time,.slice aw4 nw4 kw4,.slice aw5 nw5 kw5,.int .i64 (hfD s f).State.Lease.Holder,.int .i64 (hfD s f).State.Lease.Epoch,.int .i64 (hfD s f).State.Lease.Until,.int .i64 (hfD s f).Num,.int .i64 (hfD s f).Last,.int .i64 (hfD s f).Busy]:=Blk.ext bC hx3
 have gs:=gs.ext X3
 have gf:=gf.ext X3
 have gw:=gw.ext X3
 have E3:Ext w w3:=E2.trans X3
 clear hx3 X3 E2
 clear CS2 FS2 LS2 CF2 FF2 LF2
 obtain⟨CS3,FS3,LS3⟩:=KS3.cfl
 obtain⟨CF3,FF3,LF3⟩:=KF3.cfl
 obtain⟨CW3,FW3,LW3⟩:=KW3.cfl
 have go:=go0.rd;clear go0
 obtain⟨ao0,no0,ko0,ao1,no1,ko1,ao4,no4,ko4,ao5,no5,ko5,rfl⟩:=go.shape
 go_wp2_with fail
 refine (heardFeed_k (go.ext extT) (gf.ext extT)).mono ?_
 rintro e w4 ⟨_,rfl,hx4,FT,gt0⟩
 have X4:Ext w3 w4:=Ext.trans extT hx4
 have hz4:=X4.size
 have hy4:=hx4.size;(try simp only [szA] at hy4)
 have KS4:=KS3.exv hx4
 clear KS3
 have KF4:=KF3.exv hx4
 clear KF3
 have KW4:=KW3.exv hx4
 clear KW3
 have KO4:Blk w4 w3.heap.size 65 #[.slice ao0 no0 ko0,.slice ao1 no1 ko1,.int .i64 (hfD s f).State.Index,.int .i64 (hfD s f).State.Time,.slice ao4 no4 ko4,.slice ao5 no5 ko5,.int .i64 (hfD s f).State.Lease.Holder,.int .i64 (hfD s f).State.Lease.Epoch,.int .i64 (hfD s f).State.Lease.Until,.int .i64 (hfD s f).Num,.int .i64 (hfD s f).Last,.int .i64 (hfD s f).Busy]:=Blk.ext bC hx4
 have gs:=gs.ext X4
 have gf:=gf.ext X4
 have gw:=gw.ext X4
 have go:=go.ext X4
 have E4:Ext w w4:=E3.trans X4
 clear hx4 X4 E3
 clear CS3 FS3 LS3 CF3 FF3 LF3 CW3 FW3 LW3
 obtain⟨CS4,FS4,LS4⟩:=KS4.cfl
 obtain⟨CF4,FF4,LF4⟩:=KF4.cfl
 obtain⟨CW4,FW4,LW4⟩:=KW4.cfl
 obtain⟨CO4,FO4,LO4⟩:=KO4.cfl
 have gt:=gt0.rd;clear gt0
 obtain⟨at0,nt0,kt0,at1,nt1,kt1,at4,nt4,kt4,at5,nt5,kt5,rfl⟩:=gt.shape
 go_wp2_with fail
 refine (sStoreOk_k (gs.ext extT)).mono ?_
 rintro e w5 ⟨rfl,hx5⟩
 have X5:Ext w4 w5:=Ext.trans extT hx5
 have hz5:=X5.size
 have hy5:=hx5.size;(try simp only [szA] at hy5)
 have KS5:=KS4.exv hx5
 clear KS4
 have KF5:=KF4.exv hx5
 clear KF4
 have KW5:=KW4.exv hx5
 clear KW4
 have KO5:=KO4.exv hx5
 clear KO4
 have KT5:Blk w5 w4.heap.size 65 #[.slice at0 nt0 kt0,.slice at1 nt1 kt1,.int .i64 (hfD (hfD s f) f).State.Index,.int .i64 (hfD (hfD s f) f).State.Time,.slice at4 nt4 kt4,.slice at5 nt5 kt5,.int .i64 (hfD (hfD s f) f).State.Lease.Holder,.int .i64 (hfD (hfD s f) f).State.Lease.Epoch,.int .i64 (hfD (hfD s f) f).State.Lease.Until,.int .i64 (hfD (hfD s f) f).Num,.int .i64 (hfD (hfD s f) f).Last,.int .i64 (hfD (hfD s f) f).Busy]:=Blk.ext bC hx5
 have gs:=gs.ext X5
 have gf:=gf.ext X5
 have gw:=gw.ext X5
 have go:=go.ext X5
 have gt:=gt.ext X5
 have E5:Ext w w5:=E4.trans X5
 clear hx5 X5 E4
 clear CS4 FS4 LS4 CF4 FF4 LF4 CW4 FW4 LW4 CO4 FO4 LO4
 obtain⟨CS5,FS5,LS5⟩:=KS5.cfl
 obtain⟨CF5,FF5,LF5⟩:=KF5.cfl
 obtain⟨CW5,FW5,LW5⟩:=KW5.cfl
 obtain⟨CO5,FO5,LO5⟩:=KO5.cfl
 obtain⟨CT5,FT5,LT5⟩:=KT5.cfl
 cases hb:storeOk s
 ·
  go_wp2_with fail
  refine (storeOk_k (go.ext extT)).mono ?_
  rintro e w6 ⟨rfl,hx6⟩
  have X6:Ext w5 w6:=Ext.trans extT hx6
  have hz6:=X6.size
  have hy6:=hx6.size;(try simp only [szA] at hy6)
  have KS6:=KS5.exv hx6
  clear KS5
  have KF6:=KF5.exv hx6
  clear KF5
  have KW6:=KW5.exv hx6
  clear KW5
  have KO6:=KO5.exv hx6
  clear KO5
  have KT6:=KT5.exv hx6
  clear KT5
  have gs:=gs.ext X6
  have gf:=gf.ext X6
  have gw:=gw.ext X6
  have go:=go.ext X6
  have gt:=gt.ext X6
  have E6:Ext w w6:=E5.trans X6
  clear hx6 X6 E5
  clear CS5 FS5 LS5 CF5 FF5 LF5 CW5 FW5 LW5 CO5 FO5 LO5 CT5 FT5 LT5
  obtain⟨CS6,FS6,LS6⟩:=KS6.cfl
  obtain⟨CF6,FF6,LF6⟩:=KF6.cfl
  obtain⟨CW6,FW6,LW6⟩:=KW6.cfl
  obtain⟨CO6,FO6,LO6⟩:=KO6.cfl
  obtain⟨CT6,FT6,LT6⟩:=KT6.cfl
  rw [hf_no hb]
  go_wp2_with fail
  go_ret
  exact⟨by first|rfl|(simp [*];done),by exact extT⟩
 obtain⟨-,y2,y3,y4,y5,y6⟩:=hf_yes (f:=f) hb;clear hb
 have e1:((hfD s f).Last == s.Last)=true:=by rw [y2];simp
 have e2:((hfD s f).Busy == s.Busy)=true:=by rw [y3];simp
 have e3:decide (s.State.Index≤(hfD s f).State.Index)=true:=by simpa using y4
 have e4:((hfD s f).Last != s.Last)=false:=by rw [y2];simp
 have e5:((hfD s f).Busy != s.Busy)=false:=by rw [y3];simp
 clear y2 y3
 have Y5:=Lib.hid y5;have Y6:=Lib.hid y6;clear y5 y6
 have so:=go.st;have sw:=gw.st;have st:=gt.st.cast9 Y5.out
 go_wp2_with fail
 refine (sSameState_k (so.ext extT) (sw.ext extT) Y6.out).mono ?_
 rintro e w6 ⟨rfl,hx6⟩
 have X6:Ext w5 w6:=Ext.trans extT hx6
 have hz6:=X6.size
 have hy6:=hx6.size;(try simp only [szA] at hy6)
 have KS6:=KS5.exv hx6
 clear KS5
 have KF6:=KF5.exv hx6
 clear KF5
 have KW6:=KW5.exv hx6
 clear KW5
 have KO6:=KO5.exv hx6
 clear KO5
 have KT6:=KT5.exv hx6
 clear KT5
 have gs:=gs.ext X6
 have gf:=gf.ext X6
 have gw:=gw.ext X6
 have go:=go.ext X6
 have gt:=gt.ext X6
 have so:=so.ext X6
 have sw:=sw.ext X6
 have st:=st.ext X6
 have E6:Ext w w6:=E5.trans X6
 clear hx6 X6 E5
 clear CS5 FS5 LS5 CF5 FF5 LF5 CW5 FW5 LW5 CO5 FO5 LO5 CT5 FT5 LT5
 obtain⟨CS6,FS6,LS6⟩:=KS6.cfl
 obtain⟨CF6,FF6,LF6⟩:=KF6.cfl
 obtain⟨CW6,FW6,LW6⟩:=KW6.cfl
 obtain⟨CO6,FO6,LO6⟩:=KO6.cfl
 obtain⟨CT6,FT6,LT6⟩:=KT6.cfl
 go_wp2_with fail
 refine (sSameState_k (st.ext extT) (so.ext extT) Y6.out).mono ?_
 rintro e w7 ⟨rfl,hx7⟩
 have X7:Ext w6 w7:=Ext.trans extT hx7
 have hz7:=X7.size
 have hy7:=hx7.size;(try simp only [szA] at hy7)
 have KS7:=KS6.exv hx7
 clear KS6
 have KF7:=KF6.exv hx7
 clear KF6
 have KW7:=KW6.exv hx7
 clear KW6
 have KO7:=KO6.exv hx7
 clear KO6
 have KT7:=KT6.exv hx7
 clear KT6
 have gs:=gs.ext X7
 have gf:=gf.ext X7
 have gw:=gw.ext X7
 have go:=go.ext X7
 have gt:=gt.ext X7
 have so:=so.ext X7
 have sw:=sw.ext X7
 have st:=st.ext X7
 have E7:Ext w w7:=E6.trans X7
 clear hx7 X7 E6
 clear CS6 FS6 LS6 CF6 FF6 LF6 CW6 FW6 LW6 CO6 FO6 LO6 CT6 FT6 LT6
 obtain⟨CS7,FS7,LS7⟩:=KS7.cfl
 obtain⟨CF7,FF7,LF7⟩:=KF7.cfl
 obtain⟨CW7,FW7,LW7⟩:=KW7.cfl
 obtain⟨CO7,FO7,LO7⟩:=KO7.cfl
 obtain⟨CT7,FT7,LT7⟩:=KT7.cfl
 go_wp2_with fail
 go_ret
 exact⟨by first|rfl|(simp [*];done),by exact extT⟩
end Go.Proofs.YtcnioiieiebodaaGreat
namespace Go.Proofs.YtcnioiieiebodaaGreat.fnFeedTwice
open Go.ChangeShapes Go.WideShapes Go.ChangeAt Go.RowKit Go.G8
open Go.Proofs.YtcnioiieiebodaaGreat.facts (b2)
theorem lifted (os:Os) (started:os.Started) (H:Type) (enc:TypeId × Value→H) :
  ReturnsInHanded {} Tryz.checked os 5 .any (Rows.fnFeedTwiceSpec.pre6 enc Tryz.prog Tryz.f5 Rows.fnFeedTwiceRow.domain false) (Rows.fnFeedTwiceSpec.post enc Tryz.prog Tryz.f5 false true false false):=by
 refine returnsInHanded_of_change (C:=Tryz.checked) own started (by kernel_rfl) Tryz.func5
  (ChangeSpec.witness6 (enc:=enc) (C:=Tryz.checked) false ⟨#[],#[.slice none 0 0],[]⟩ 8 (by kernel_rfl) (by kernel_rfl) (by kernel_rfl) (by kernel_rfl)) ?_
 intro W base args ds gs before hval0 hW _ _
 have hval:∀ (j:Nat) t v,Tryz.f5.params[j]?=some t→args[j]?=some v→Value.okWide Tryz.prog W .any base t v:=hval0
 have hW':=hW
 obtain⟨p,q,hA0,hV,rfl,hfz,hnd⟩:=hW
 have hA:DataW.TrodAll enc Tryz.prog W 0 (fun _=>true) true Tryz.f5.params.toList args.toList ds p:=hA0
 rw [Tryz.params5] at hA hval
 obtain⟨v0,vs0,d0,ds0,p0,q0,hargs,rfl,rfl,h0,r0⟩:=trodAll_cons hA
 obtain⟨rfl,rfl,rfl⟩:=trodAll_nil r0
 obtain rfl:args=#[v0]:=by cases args;simp_all
 obtain⟨rfl,rfl⟩:=trodVars_none hV
 have k0:=h0
 have lt0:∀ x ∈ p0,x.block<W.heap.size:=by obtain⟨m,hm⟩:=k0;exact DataW.trod_lt m _ _ _ hm
 obtain⟨sa0,sn0,sc0,rfl⟩:=okWide_slice Tryz.underlying22 (hval 0 22 v0 rfl rfl)
 obtain⟨m0,hm0⟩:=h0
 obtain⟨s0,e0,g0⟩:=rd_Bytes hm0
 simp [Value.cells] at e0
 subst e0
 clear hA0 hval0
 refine (law_FeedTwice W _ g0).mono fun e W' ⟨he,bel0⟩=>?_
 have bel:Below W.heap.size W W':=bel0
 subst he
 exact⟨_,rfl,_,_,_,[],_,[],hW',trodAll_mk1 (shut_bool Tryz.underlying4 _),(trodAll_cons_mk (Below.trod laidOut (by kernel_rfl) (of_decide_eq_true (by kernel_rfl)) k0 bel lt0) trodAll_mk0),rfl,bel.frame _,fun h=>by cases h⟩
theorem k0:(Rows.fnFeedTwiceRow.wf (OpenSpec.ofChange Rows.fnFeedTwiceSpec))=true:=by kernel_rfl
theorem k1:(laidOutB Tryz.checked.prog)=true:=facts.k1
theorem k2:(mapsRowed Tryz.checked.prog)=true:=facts.k2
theorem k3:(Tryz.f5.params.all (Tryz.checked.prog.readableRec ·))=true:=by kernel_rfl
theorem k4:(namedTie Tryz.checked.prog Rows.fnFeedTwiceRow.named Rows.fnFeedTwiceSpec.vars)=true:=by kernel_rfl
theorem k5:((Rows.fnFeedTwiceRow.stops == []))=true:=by kernel_rfl
theorem k6:((Tryz.checked.prog.stops == []))=true:=facts.k6
theorem k7:((Rows.fnFeedTwiceRow.knobs == []))=true:=by kernel_rfl
theorem k8:((Tryz.checked.prog.stopKnobs == []))=true:=facts.k8
theorem k9:((Rows.fnFeedTwiceRow.inPlace == Tryz.checked.prog.inPlace 5))=true:=by kernel_rfl
theorem k10:((Rows.fnFeedTwiceRow.unfollowed == Tryz.checked.prog.unfollowed 5))=true:=by kernel_rfl
theorem k11:((Rows.fnFeedTwiceRow.recurses == Tryz.checked.prog.recurses 5))=true:=by kernel_rfl
theorem k12:((Rows.fnFeedTwiceRow.named == Tryz.checked.prog.varsNamed 5))=true:=by kernel_rfl
theorem k13:((Rows.fnFeedTwiceRow.maps == (Tryz.f5.params.toList ++ Rows.fnFeedTwiceSpec.plain.varTypes Tryz.checked.prog).any (Tryz.checked.prog.mapsRec ·)))=true:=by kernel_rfl
theorem k14:((Rows.fnFeedTwiceRow.ifaces == (Tryz.f5.params.toList ++ Rows.fnFeedTwiceSpec.plain.varTypes Tryz.checked.prog).any (Tryz.checked.prog.ifacesRec ·)))=true:=by kernel_rfl
theorem k15:((Rows.fnFeedTwiceRow.mapsOut == Tryz.checked.prog.mapsAmong Tryz.f5.resultTypes.toList))=true:=by kernel_rfl
theorem k16:((Rows.fnFeedTwiceRow.loops == (Tryz.f5.params.toList ++ Rows.fnFeedTwiceSpec.plain.varTypes Tryz.checked.prog).any (Tryz.checked.prog.loopsFrom ·)))=true:=by kernel_rfl
theorem k17:((Rows.fnFeedTwiceRow.wideKeys == (Tryz.f5.params.toList ++ Rows.fnFeedTwiceSpec.plain.varTypes Tryz.checked.prog ++ Tryz.f5.resultTypes.toList).any (Tryz.checked.prog.wideKeysFrom ·)))=true:=by kernel_rfl
theorem k18:(Rows.fnFeedTwiceSpec.vars.all (Tryz.checked.prog.varReadable ·))=true:=by kernel_rfl
theorem k19:(Tryz.f5.resultTypes.all (fun t=>Tryz.checked.prog.readableRec t && decide (t<Tryz.checked.prog.types.size)))=true:=by kernel_rfl
theorem k20:((Rows.fnFeedTwiceRow.ifacesOut == Tryz.f5.resultTypes.toList.any (Tryz.checked.prog.ifacesRec ·)))=true:=by kernel_rfl
theorem k21:((Rows.fnFeedTwiceRow.loopsOut == Tryz.f5.resultTypes.toList.any (Tryz.checked.prog.loopsFrom ·)))=true:=by kernel_rfl
theorem k22:((Rows.fnFeedTwiceRow.plainKeys == Tryz.checked.prog.plainKeys))=true:=facts.k22
theorem k23:(Rows.fnFeedTwiceRow.shortTexts.isNone)=true:=by kernel_rfl
theorem k24:(Tryz.checked.prog.stopsHeard)=true:=facts.k24
theorem k25:(Tryz.checked.prog.mayEnter)=true:=facts.k25
theorem k26:((Rows.fnFeedTwiceRow.lifted == Tryz.checked.prog.liftsFinal))=true:=facts.k26
theorem k27:((Tryz.checked.prog.make == some Rows.fnFeedTwiceRow.make))=true:=facts.k27
theorem k28:((Rows.fnFeedTwiceRow.kinds == (if Rows.fnFeedTwiceRow.domain.isEmpty then [] else Tryz.f5.params.toList.map fun t=>match Tryz.checked.prog.underlying t with|some (.int k)=>some k|_=>none)))=true:=by kernel_rfl
theorem k29:((Rows.fnFeedTwiceRow.pinned == Rows.fnFeedTwiceRow.pinnedBy))=true:=by kernel_rfl
theorem k30:((Rows.fnFeedTwiceRow.veiled == (Tryz.f5.params.toList ++ Rows.fnFeedTwiceSpec.plain.varTypes Tryz.checked.prog ++ Tryz.f5.resultTypes.toList).any (Tryz.checked.prog.veiledRec ·)))=true:=by kernel_rfl
theorem k31:(Rows.fnFeedTwiceRow.veiledFits Tryz.checked.prog Tryz.f5.params.toList (Tryz.f5.params.toList ++ Rows.fnFeedTwiceSpec.plain.varTypes Tryz.checked.prog ++ Tryz.f5.resultTypes.toList))=true:=by kernel_rfl
theorem closed:joinedFacts Tryz.checked.prog 5 Tryz.f5 Rows.fnFeedTwiceSpec Rows.fnFeedTwiceRow=true:=by
 unfold joinedFacts
 exact (b2 (b2 (b2 (b2 (b2 (b2 (b2 (b2 (b2 (b2 (b2 (b2 (b2 (b2 (b2 (b2 (b2 (b2 (b2 (b2 (b2 (b2 (b2 (b2 (b2 (b2 (b2 (b2 (b2 (b2 (b2 k0 k1) k2) k3) k4) k5) k6) k7) k8) k9) k10) k11) k12) k13) k14) k15) k16) k17) k18) k19) k20) k21) k22) k23) k24) k25) k26) k27) k28) k29) k30) k31)
theorem proved:Rows.FnFeedTwiceSaid :=
 OpenClaim.holds_of_wide 5 Tryz.f5 rfl rfl rfl rfl rfl rfl rfl ⟨rfl,rfl,rfl,rfl,rfl⟩ rfl rfl rfl rfl rfl (by as_aux_lemma=>kernel_rfl) Tryz.func5 closed
  (of_decide_eq_true (by as_aux_lemma=>kernel_rfl)) (by as_aux_lemma=>(unfold Func.isWrapper;rw [if_neg (of_decide_eq_false (by kernel_rfl))];exact⟨rfl,rfl⟩))
  (fun os started H enc _=>lifted os started H enc)
end Go.Proofs.YtcnioiieiebodaaGreat.fnFeedTwice
