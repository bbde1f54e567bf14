/- WR SW. -/
import Derived.Test.YtkpmbocbbgocbaaGreatQGi
import Derived.Test.YtkpmbocbbgocbaaGreatQGh
set_option linter.unusedSimpArgs false
set_option linter.unusedVariables false
set_option maxHeartbeats 8000000
set_option maxRecDepth 100000
namespace Go.Proofs.YtkpmbocbbgocbaaGreat
open Go.RowKit Go.G8
section
open Go.RowKit Go.Proofs.YtkpmbocbbgocbaaGreat
def Nv(d:Ez)(at_:Int)(row:List Int):Bool:=Fu d&&(inb at_ 0 (d.Kept.length - 1)&&(Ik row&&decide (d.Wait.length<60)))
def wrD(d:Ez)(at_:Int)(row:List Int):Ez:=if Fu d then(if Nv d at_ row then⟨d.Kept,d.Wait++[⟨at_,row⟩]⟩ else d) else⟨[],[]⟩
theorem Pv{v:Value}{l:List Value}{k:Nat}(h:k ∈ Be l):k ∈ Be (v::l):=by
 simp only[Be,List.filterMap_cons]
 cases v.ownBlock <;> simp[Be] at h ⊢
 .
  exact h
 exact .inr h
theorem Nw{B B2:Nat}{tR tW e1:TypeId}{w:World}{v0 v1 t:Value}{r0 r1:List Gn}{ss0 ss1:List Value}(h0:Bi B tR e1 0 w v0 r0 ss0)(h1:Bi B tW e1 1 w v1 r1 (ss1++[t]))(ht:∀k,t.ownBlock=some k->B2<=k)
  (hd:∀k,k ∈ Be (v0::ss0)->k ∈ Be ss1->False) (hl:∀k,k ∈ Be (v0::ss0)->k<B2) (n1:tW≠tR) (n2:tW≠e1):∀k,k ∈ Be (v0::ss0)->k ∈ Be (v1::(ss1++[t]))->False:=by
 intro k hk hk1
 obtain⟨ty,cur,hb,hty⟩:=h0.typed hk
 simp only[Be,List.filterMap_cons,List.filterMap_append,List.filterMap_nil] at hk1
 have hc:v1.ownBlock=some k\/k ∈ Be ss1\/t.ownBlock=some k:=by
  cases hv:v1.ownBlock <;> cases hq:t.ownBlock <;> simp[hv,hq,Be] at hk1 ⊢
  .
   exact hk1
  .
   rcases hk1 with h|h
   .
    exact .inl h
   exact .inr h.symm
  .
   rcases hk1 with h|h
   .
    exact .inl h.symm
   exact .inr h
  rcases hk1 with h|h|h
  .
   exact .inl h.symm
  .
   exact .inr (.inl h)
  exact .inr (.inr h.symm)
 rcases hc with h|h|h
 .
  obtain⟨c2,hb2⟩:=Own.typed h1.2.2.1 h
  have:=hb2.same hb
  rcases hty with rfl|rfl
  .
   exact n1 this
  exact n2 this
 .
  exact hd k hk h
 have:=ht k h
 have:=hl k hk
 omega
end
theorem iJ{w:World}{v u:Value}{d:Ez}{row:List Int}(h:Gw w v d)(hu:Aj 1 w u row)(at_:Int):Calls Tryz.prog 405 #[v,.int .i64 at_,u] w (Ret w fun r w'=>∃v',r=.tuple #[v',.bool (Nv d at_ row)]/\∃FF,Dc w.heap.size w' v' (wrD d at_ row) FF):=by
 obtain⟨t0,t1,rfl,h0,h1⟩:=h
 obtain⟨a0,n0,k0,rfl⟩:=h0.shape
 obtain⟨a1,c1,rfl,hcw,hmw,_⟩:=Ck.writes h1
 have hlw:(Ah d.Wait).length=d.Wait.length:=by simp[Ah]
 have H0:=Lib.hid h0;have H1:=Lib.hid h1;have HU:=Lib.hid hu
 obtain⟨ua,un,uc,rfl⟩:=hu.shape
 clear h0 h1 hu
 unfold maxLen at hmw
 obtain⟨j0,hj,hy0,hy1,hy2⟩:=info_parts Rz
 obtain⟨W1,hW1⟩:∃W1,W1=(w.alloc (.cells #[.slice a0 n0 k0,.slice a1 d.Wait.length c1] 70)).alloc (.cells #[.slice none 0 0,.slice none 0 0] 70):=⟨_,rfl⟩
 have E1:Ext w W1:=by rw[hW1];exact((Ext.refl _).alloc _).alloc _
 have KD1:Blk W1 w.heap.size 70 #[.slice a0 n0 k0,.slice a1 d.Wait.length c1]:=by rw[hW1];exact(Blk.new _ _ _).alloc _
 have KR1:Blk W1 (w.heap.size+1) 70 #[.slice none 0 0,.slice none 0 0]:=by rw[hW1];exact Blk.new2 _ _ _ _
 have hs1:W1.heap.size=w.heap.size+1+1:=by rw[hW1];simp
 have HW1:=Lib.hid hW1
 clear hW1
 go_enter Tryz.func405,Tryz.ntmps405
 go_wp2_with fail
 rw[<-HW1.out]
 have CD1:=KD1.cell;have LD1:=KD1.lt
 go_wp2_with fail
 refine(Nq _ _ d.Kept _ d.Wait (H0.out.ext E1) (H1.out.ext E1)).mono ?_
 rintro e w2⟨rfl,hx2⟩
 have KD2:=KD1.ext hx2;have KR2:=KR1.ext hx2
 have E2:Ext w w2:=E1.trans hx2
 have hz2:=hx2.size
 clear CD1 LD1
 cases hd:Fu d
 .
  have e1:Nv d at_ row=false:=by simp[Nv,hd]
  have e2:wrD d at_ row=⟨[],[]⟩:=by simp[wrD,hd]
  have HE1:=Lib.hid e1;have HE2:=Lib.hid e2
  clear e1 e2 hd
  obtain⟨CR2,FR2,LR2⟩:=KR2.cfl
  go_wp2_with fail
  refine bodyPost_ret (by simp[results,Tryz.results405,go_sem,CR2,FR2,LR2];try rfl) rfl ?_
  refine⟨_,rfl,?_,_,by(rw[HE1.out];try rfl),?_⟩
  .
   exact xT
  rw[HE2.out]
  exact⟨_,_,_,[],[],rfl,Bi.nil _ _ _ _ _,Bi.nil _ _ _ _ _,by simp[Be,Value.ownBlock],rfl⟩
 have HD:=Lib.hid hd
 have hsm:=Pj hd
 have hw60:=(Oo hd).2.2.2.2
 clear hd
 have CD2:=KD2.cell;have LD2:=KD2.lt
 go_wp2_with fail
 refine(hZ _ _ d.Kept _ d.Wait (H0.out.ext E2) (H1.out.ext E2) hsm).mono ?_
 rintro e w3⟨_,rfl,hx3,t0,t1,ss0,ss1,rfl,O0,O1,hdj⟩
 obtain⟨b0,m0,l0,rfl⟩:=O0.nest.shape
 obtain⟨b1,m1,l1,rfl⟩:=O1.nest.shape
 have KD3:=KD2.ext hx3;have KR3:=KR2.ext hx3
 have E3:Ext w w3:=E2.trans hx3
 have hz3:=hx3.size
 have f0:=O0.foot;have f1:=O1.foot
 clear CD2 LD2
 obtain⟨W4,hW4⟩:∃W4,W4=w3.alloc (.cells #[.slice b0 m0 l0,.slice b1 m1 l1] 70):=⟨_,rfl⟩
 have HW4:=Lib.hid hW4
 have X4:Ext w3 W4:=by rw[hW4];exact(Ext.refl _).alloc _
 have KX4:Blk W4 w3.heap.size 70 #[.slice b0 m0 l0,.slice b1 m1 l1]:=by rw[hW4];exact Blk.new _ _ _
 have hs4:W4.heap.size=w3.heap.size+1:=by rw[hW4];simp
 have CD3:=KD3.cell;have LD3:=KD3.lt
 clear hW4
 go_wp2_with fail
 rw[<-HW4.out]
 obtain⟨X,hX⟩:∃X,X=w3.heap.size:=⟨_,rfl⟩
 rw[<-hX] at KX4 hs4
 simp only[<-hX]
 have KD4:=KD3.ext X4;have KR4:=KR3.ext X4
 have E4:Ext w W4:=E3.trans X4
 have O0:=O0.ext X4;have O1:=O1.ext X4
 have hneX:some X≠(Value.slice b1 m1 l1).ownBlock:=fun e=>by
  have h9:X ∈ Be (Value.slice b1 m1 l1::ss1):=by simp only[Be,List.filterMap_cons,<-e];simp
  have:=(f1 X h9).2;omega
 have hXb:w2.heap.size<=X:=by omega
 have hf0:∀k,k ∈ Be (Value.slice b0 m0 l0::ss0)->w2.heap.size<=k/\k<X:=fun k hk=>by have:=f0 k hk;omega
 have hf1:∀k,k ∈ Be (Value.slice b1 m1 l1::ss1)->w2.heap.size<=k/\k<X:=fun k hk=>by have:=f1 k hk;omega
 clear hX f0 f1 CD3 LD3 KD1 KD2 KD3 KR1 KR3 HW4
 refine(mG _ _ d.Kept _ d.Wait at_ (H0.out.ext E4) (H1.out.ext E4)).mono ?_
 rintro e w5⟨rfl,hx5⟩
 have KD5:=KD4.ext hx5;have KR5:=KR4.ext hx5;have KX5:=KX4.ext hx5
 have E5:Ext w w5:=E4.trans hx5
 have hz5:=hx5.size
 have O0:=O0.ext hx5;have O1:=O1.ext hx5
 obtain⟨CR5,FR5,LR5⟩:=KR5.cfl
 obtain⟨CX5,FX5,LX5⟩:=KX5.cfl
 have CD5:=KD5.cell;have LD5:=KD5.lt
 have hin:inb at_ 0 (({ Kept:=d.Kept,Wait:=d.Wait }:Ez).Kept.length - 1)=inb at_ 0 (d.Kept.length - 1):=rfl
 rw[hin]
 cases hi:inb at_ 0 (d.Kept.length - 1)
 .
  have HI:=Lib.hid hi
  clear hi
  have e1:Nv d at_ row=false:=by rw[Nv];simp[HD.out,HI.out]
  have e2:wrD d at_ row=d:=by unfold wrD;rw[if_pos HD.out,if_neg (by rw[e1];simp)]
  have HE1:=Lib.hid e1;have HE2:=Lib.hid e2
  clear e1 e2
  go_wp2_with fail
  refine bodyPost_ret (by simp[results,Tryz.results405,go_sem,CR5,FR5,LR5];try rfl) rfl ?_
  refine⟨_,rfl,?_,_,by(rw[HE1.out];try rfl),?_⟩
  .
   exact xT
  rw[HE2.out]
  exact Ee.ow ⟨_,_,ss0,ss1,rfl,(O0.keep Hx).mono oM,(O1.keep Hx).mono oM,hdj⟩
 have HI:=Lib.hid hi
 clear hi CR5 FR5 LR5 CX5 FX5 LX5
 go_wp2_with fail
 refine(Qc _ _ row (HU.out.ext E5)).mono ?_
 rintro e w6⟨rfl,hx6⟩
 have KD6:=KD5.ext hx6;have KR6:=KR5.ext hx6;have KX6:=KX5.ext hx6
 have E6:Ext w w6:=E5.trans hx6
 have hz6:=hx6.size
 have O0:=O0.ext hx6;have O1:=O1.ext hx6
 clear CD5 LD5
 obtain⟨CR6,FR6,LR6⟩:=KR6.cfl
 obtain⟨CX6,FX6,LX6⟩:=KX6.cfl
 have CD6:=KD6.cell;have LD6:=KD6.lt
 cases hr:Ik row
 .
  have HR:=Lib.hid hr
  clear hr
  have e1:Nv d at_ row=false:=by rw[Nv];simp[HD.out,HR.out]
  have e2:wrD d at_ row=d:=by unfold wrD;rw[if_pos HD.out,if_neg (by rw[e1];simp)]
  have HE1:=Lib.hid e1;have HE2:=Lib.hid e2
  clear e1 e2
  go_wp2_with fail
  refine bodyPost_ret (by simp[results,Tryz.results405,go_sem,CR6,FR6,LR6];try rfl) rfl ?_
  refine⟨_,rfl,?_,_,by(rw[HE1.out];try rfl),?_⟩
  .
   exact xT
  rw[HE2.out]
  exact Ee.ow ⟨_,_,ss0,ss1,rfl,(O0.keep Hx).mono oM,(O1.keep Hx).mono oM,hdj⟩
 have HR:=Lib.hid hr
 have hrl:row.length<=1000000:=by have:=(Pp hr).1;omega
 clear hr
 by_cases hfull:d.Wait.length=60
 .
  have HF:=Lib.hid hfull
  have hge:(60:Int)<=(d.Wait.length:Int):=by omega
  have e1:Nv d at_ row=false:=by rw[Nv];simp[HD.out,HF.out]
  have e2:wrD d at_ row=d:=by unfold wrD;rw[if_pos HD.out,if_neg (by rw[e1];simp)]
  have HE1:=Lib.hid e1;have HE2:=Lib.hid e2
  clear e1 e2
  go_wp2_with fail
  refine bodyPost_ret (by simp[results,Tryz.results405,go_sem,CR6,FR6,LR6];try rfl) rfl ?_
  refine⟨_,rfl,?_,_,by(rw[HE1.out];try rfl),?_⟩
  .
   exact xT
  rw[HE2.out]
  exact Ee.ow ⟨_,_,ss0,ss1,rfl,(O0.keep Hx).mono oM,(O1.keep Hx).mono oM,hdj⟩
 have hlt:(d.Wait.length:Int)<60:=by omega
 have hlt':¬ ((d.Wait.length:Int)=60):=by omega
 have hge':¬ ((60:Int)<=(d.Wait.length:Int)):=by omega
 have e1:Nv d at_ row=true:=by rw[Nv,HD.out,HI.out,HR.out];simp;omega
 have e2:wrD d at_ row=⟨d.Kept,d.Wait++[⟨at_,row⟩]⟩:=by unfold wrD;rw[if_pos HD.out,if_pos e1]
 have HE1:=Lib.hid e1;have HE2:=Lib.hid e2
 clear e1 e2
 have X26:Ext w2 w6:=(hx3.trans X4).trans (hx5.trans hx6)
 go_wp2_with fail
 refine wp_region_held_drew (S:=(fun w'=>True)) (by kernel_rfl) (by(try dsimp only);try trivial) (fun hHeld=>?_)
 refine wt 0 ?_
 (try simp only[Ab,Act.put])
 refine wt 2 ?_
 (try simp only[Ab,Act.put])
 refine wt 3 ?_
 (try simp only[Ab,Act.put])
 refine wr2 1 4 (fun Kz hKz=>?_) fun Kz hKz=>?_
 .
  (try simp only[Ab])
  go_simp
  refine hKz.out _ _ (by(try dsimp only);try trivial) (fun hHeld=>?_)
  clear hKz Kz
  (try simp only[Ab,Act.put])
  refine wr1 4 fun Kz hKz=>?_
  (try simp only[Ab])
  go_simp
  (go_at_call 422;refine(Ln _ _ _ (HU.out.ext (Ext.trans E6 xT)) hrl).mono ?_;rintro e w8 ⟨_,rfl,hx8,g8⟩;obtain⟨ta,tn,tc,rfl⟩:=g8.shape;have hz8:w6.heap.size<=w8.heap.size:=hx8.size;have hz9:w6.drew.heap.size=w6.heap.size:=rfl;have KX8:Blk w8 X 70 _:=KX6.ext (Ext.trans xT hx8);have CX8:=KX8.cell;have FX8:=KX8.frozen;have hXl8:X<w8.heap.size:=oM)
  refine hKz.out _ _ (by(try dsimp only);try trivial) (fun hHeld=>?_)
  clear hKz Kz
  (try simp only[Ab,Act.put])
  refine wt 5 ?_
  (try simp only[Ab,Act.put])
  refine wr1 6 fun Kz hKz=>?_
  (try simp only[Ab])
  go_simp
  refine hKz.out _ _ (by(try dsimp only);try trivial) (fun hHeld=>?_)
  clear hKz Kz
  (try simp only[Ab,Act.put])
  refine wr1 7 fun Kz hKz=>?_
  (try simp only[Ab])
  (rw[if_pos (by rfl)];refine Eu (n:=1) (r:=([at_],row)) (.tmp 32) (.tmp 37) 68 (by rfl) j0 _ 32 Tryz.underlying68 hj hy0 hy1 hy2 rfl (by rfl) (O1.ext xT) _ (by rfl) _ (by exact Blk.new _ _ _) (by rfl) rfl (g8.ext xT) oM (fun k hk=>Nat.lt_of_lt_of_le (O1.foot k hk).2 oM) 1001 (by rw[hlw];omega) (by unfold maxLen;omega) oM (by simp;omega) ?_;intro g cp wa hown1 hga hxa hua;have KA:=(KX8.alloc _).grown hga hneX;have CKA:=KA.cell;have FKA:=KA.frozen)
  refine hKz.out _ _ (by(try dsimp only);try trivial) (fun hHeld=>?_)
  clear hKz Kz
  (try simp only[Ab,Act.put])
  refine wt 8 ?_
  (try simp only[Ab,Act.put])
  refine wr1 9 fun Kz hKz=>?_
  (try simp only[Ab])
  go_simp
  refine hKz.out _ _ (by(try dsimp only);try trivial) (fun hHeld=>?_)
  clear hKz Kz
  (try simp only[Ab,Act.put])
  refine wpAnyH_done (by kernel_rfl) ?_ _
  have hxw0:Ext w2 wa:=hxa w2 ((X26.trans ((Ext.refl w6).drew.trans hx8)).alloc _) (Nat.le_refl _)
  have UA:Upd (w8.alloc (.cells #[.int .i64 at_,.slice ta tn tc] 312)) wa (Be (.slice b1 m1 l1::ss1)):=Upd.grown hga (fun k hk=>by simp only[Be,List.filterMap_cons];rw[hk];simp)
  have O0a:=(O0.ext (((Ext.refl w6).drew.trans hx8).alloc (.cells #[.int .i64 at_,.slice ta tn tc] 312))).upd UA (fun k h1 h2=>hdj k h1 h2)
  have hap:=Nw O0a hown1 (fun k hk=>(Own.lt g8 hk).1) (fun k h1 h2=>hdj k h1 (Pv h2)) (fun k hk=>by have:=(hf0 k hk).2;omega) dC dC
  have KRa:=KR2.ext hxw0
  obtain⟨CRa,FRa,LRa⟩:=KRa.cfl
  have O0b:=O0a.box KA dC dC 1 (.slice (some ⟨g,0,none⟩) ((Ah d.Wait).length+1) cp)
  have O1b:=hown1.box KA dC dC 1 (.slice (some ⟨g,0,none⟩) ((Ah d.Wait).length+1) cp)
  clear hown1 hga hxa hua UA O0a
  rw[hlw] at hap O0b O1b
  go_wp2_with fail
  refine bodyPost_ret (by simp[results,Tryz.results405,go_sem,CRa,FRa,LRa,CKA,FKA];try rfl) rfl ?_
  refine⟨_,rfl,?_,_,by(rw[HE1.out];try rfl),?_⟩
  .
   exact xT
  rw[HE2.out]
  refine Ee.ow ⟨_,_,ss0,ss1++[.slice ta tn tc],rfl,Bi.mono (Bi.keep O0b ?_) ?_,?_,hap⟩
  .
   exact Hx
  .
   omega
  simp only[]
  rw[Ih]
  refine Bi.mono (Bi.keep O1b ?_) ?_
  .
   exact Hx
  omega
 (try simp only[Ab])
 go_simp
 (go_at_call 422;refine(Ln _ _ _ (HU.out.ext (Ext.trans E6 xT)) hrl).mono ?_;rintro e w8 ⟨_,rfl,hx8,g8⟩;obtain⟨ta,tn,tc,rfl⟩:=g8.shape;have hz8:w6.heap.size<=w8.heap.size:=hx8.size;have hz9:w6.drew.heap.size=w6.heap.size:=rfl;have KX8:Blk w8 X 70 _:=KX6.ext (Ext.trans xT hx8);have CX8:=KX8.cell;have FX8:=KX8.frozen;have hXl8:X<w8.heap.size:=oM)
 refine hKz.out _ _ (by(try dsimp only);try trivial) (fun hHeld=>?_)
 clear hKz Kz
 (try simp only[Ab,Act.put])
 refine wt 5 ?_
 (try simp only[Ab,Act.put])
 refine wr2 1 6 (fun Kz hKz=>?_) fun Kz hKz=>?_
 .
  (try simp only[Ab])
  go_simp
  refine hKz.out _ _ (by(try dsimp only);try trivial) (fun hHeld=>?_)
  clear hKz Kz
  (try simp only[Ab,Act.put])
  refine wr1 6 fun Kz hKz=>?_
  (try simp only[Ab])
  go_simp
  refine hKz.out _ _ (by(try dsimp only);try trivial) (fun hHeld=>?_)
  clear hKz Kz
  (try simp only[Ab,Act.put])
  refine wr1 7 fun Kz hKz=>?_
  (try simp only[Ab])
  (rw[if_pos (by rfl)];refine Eu (n:=1) (r:=([at_],row)) (.tmp 32) (.tmp 37) 68 (by rfl) j0 _ 32 Tryz.underlying68 hj hy0 hy1 hy2 rfl (by rfl) (O1.ext xT) _ (by rfl) _ (by exact Blk.new _ _ _) (by rfl) rfl (g8.ext xT) oM (fun k hk=>Nat.lt_of_lt_of_le (O1.foot k hk).2 oM) 1001 (by rw[hlw];omega) (by unfold maxLen;omega) oM (by simp;omega) ?_;intro g cp wa hown1 hga hxa hua;have KA:=(KX8.alloc _).grown hga hneX;have CKA:=KA.cell;have FKA:=KA.frozen)
  refine hKz.out _ _ (by(try dsimp only);try trivial) (fun hHeld=>?_)
  clear hKz Kz
  (try simp only[Ab,Act.put])
  refine wt 8 ?_
  (try simp only[Ab,Act.put])
  refine wr1 9 fun Kz hKz=>?_
  (try simp only[Ab])
  go_simp
  refine hKz.out _ _ (by(try dsimp only);try trivial) (fun hHeld=>?_)
  clear hKz Kz
  (try simp only[Ab,Act.put])
  refine wpAnyH_done (by kernel_rfl) ?_ _
  have hxw0:Ext w2 wa:=hxa w2 ((X26.trans ((Ext.refl w6).drew.trans hx8)).alloc _) (Nat.le_refl _)
  have UA:Upd (w8.alloc (.cells #[.int .i64 at_,.slice ta tn tc] 312)) wa (Be (.slice b1 m1 l1::ss1)):=Upd.grown hga (fun k hk=>by simp only[Be,List.filterMap_cons];rw[hk];simp)
  have O0a:=(O0.ext (((Ext.refl w6).drew.trans hx8).alloc (.cells #[.int .i64 at_,.slice ta tn tc] 312))).upd UA (fun k h1 h2=>hdj k h1 h2)
  have hap:=Nw O0a hown1 (fun k hk=>(Own.lt g8 hk).1) (fun k h1 h2=>hdj k h1 (Pv h2)) (fun k hk=>by have:=(hf0 k hk).2;omega) dC dC
  have KRa:=KR2.ext hxw0
  obtain⟨CRa,FRa,LRa⟩:=KRa.cfl
  have O0b:=O0a.box KA dC dC 1 (.slice (some ⟨g,0,none⟩) ((Ah d.Wait).length+1) cp)
  have O1b:=hown1.box KA dC dC 1 (.slice (some ⟨g,0,none⟩) ((Ah d.Wait).length+1) cp)
  clear hown1 hga hxa hua UA O0a
  rw[hlw] at hap O0b O1b
  go_wp2_with fail
  refine bodyPost_ret (by simp[results,Tryz.results405,go_sem,CRa,FRa,LRa,CKA,FKA];try rfl) rfl ?_
  refine⟨_,rfl,?_,_,by(rw[HE1.out];try rfl),?_⟩
  .
   exact xT
  rw[HE2.out]
  refine Ee.ow ⟨_,_,ss0,ss1++[.slice ta tn tc],rfl,Bi.mono (Bi.keep O0b ?_) ?_,?_,hap⟩
  .
   exact Hx
  .
   omega
  simp only[]
  rw[Ih]
  refine Bi.mono (Bi.keep O1b ?_) ?_
  .
   exact Hx
  omega
 (try simp only[Ab])
 go_simp
 refine hKz.out _ _ (by(try dsimp only);try trivial) (fun hHeld=>?_)
 clear hKz Kz
 (try simp only[Ab,Act.put])
 refine wr1 1 fun Kz hKz=>?_
 (try simp only[Ab])
 go_simp
 refine hKz.out _ _ (by(try dsimp only);try trivial) (fun hHeld=>?_)
 clear hKz Kz
 (try simp only[Ab,Act.put])
 refine wr1 7 fun Kz hKz=>?_
 (try simp only[Ab])
 (rw[if_pos (by rfl)];refine Eu (n:=1) (r:=([at_],row)) (.tmp 32) (.tmp 37) 68 (by rfl) j0 _ 32 Tryz.underlying68 hj hy0 hy1 hy2 rfl (by rfl) (O1.ext xT) _ (by rfl) _ (by exact Blk.new _ _ _) (by rfl) rfl (g8.ext xT) oM (fun k hk=>Nat.lt_of_lt_of_le (O1.foot k hk).2 oM) 1001 (by rw[hlw];omega) (by unfold maxLen;omega) oM (by simp;omega) ?_;intro g cp wa hown1 hga hxa hua;have KA:=(KX8.alloc _).grown hga hneX;have CKA:=KA.cell;have FKA:=KA.frozen)
 refine hKz.out _ _ (by(try dsimp only);try trivial) (fun hHeld=>?_)
 clear hKz Kz
 (try simp only[Ab,Act.put])
 refine wt 8 ?_
 (try simp only[Ab,Act.put])
 refine wr1 9 fun Kz hKz=>?_
 (try simp only[Ab])
 go_simp
 refine hKz.out _ _ (by(try dsimp only);try trivial) (fun hHeld=>?_)
 clear hKz Kz
 (try simp only[Ab,Act.put])
 refine wpAnyH_done (by kernel_rfl) ?_ _
 have hxw0:Ext w2 wa:=hxa w2 ((X26.trans ((Ext.refl w6).drew.trans hx8)).alloc _) (Nat.le_refl _)
 have UA:Upd (w8.alloc (.cells #[.int .i64 at_,.slice ta tn tc] 312)) wa (Be (.slice b1 m1 l1::ss1)):=Upd.grown hga (fun k hk=>by simp only[Be,List.filterMap_cons];rw[hk];simp)
 have O0a:=(O0.ext (((Ext.refl w6).drew.trans hx8).alloc (.cells #[.int .i64 at_,.slice ta tn tc] 312))).upd UA (fun k h1 h2=>hdj k h1 h2)
 have hap:=Nw O0a hown1 (fun k hk=>(Own.lt g8 hk).1) (fun k h1 h2=>hdj k h1 (Pv h2)) (fun k hk=>by have:=(hf0 k hk).2;omega) dC dC
 have KRa:=KR2.ext hxw0
 obtain⟨CRa,FRa,LRa⟩:=KRa.cfl
 have O0b:=O0a.box KA dC dC 1 (.slice (some ⟨g,0,none⟩) ((Ah d.Wait).length+1) cp)
 have O1b:=hown1.box KA dC dC 1 (.slice (some ⟨g,0,none⟩) ((Ah d.Wait).length+1) cp)
 clear hown1 hga hxa hua UA O0a
 rw[hlw] at hap O0b O1b
 go_wp2_with fail
 refine bodyPost_ret (by simp[results,Tryz.results405,go_sem,CRa,FRa,LRa,CKA,FKA];try rfl) rfl ?_
 refine⟨_,rfl,?_,_,by(rw[HE1.out];try rfl),?_⟩
 .
  exact xT
 rw[HE2.out]
 refine Ee.ow ⟨_,_,ss0,ss1++[.slice ta tn tc],rfl,Bi.mono (Bi.keep O0b ?_) ?_,?_,hap⟩
 .
  exact Hx
 .
  omega
 simp only[]
 rw[Ih]
 refine Bi.mono (Bi.keep O1b ?_) ?_
 .
  exact Hx
 omega
theorem mK{w:World}{v u:Value}{d:Ez}{row:List Int}(h:Gw w v d)(hu:Aj 1 w u row)(at_:Int):Calls Tryz.prog 401 #[v,.int .i64 at_,u] w (Ret w fun r w'=>∃v',r=.tuple #[v',.bool (Nv d at_ row)]/\∃FF,Dc w.heap.size w' v' (wrD d at_ row) FF):=by
 obtain⟨t0,t1,rfl,h0,h1⟩:=h
 obtain⟨a0,n0,k0,rfl⟩:=h0.shape
 obtain⟨a1,c1,rfl,hcw,hmw,_⟩:=Ck.writes h1
 have hlw:(Ah d.Wait).length=d.Wait.length:=by simp[Ah]
 have H0:=Lib.hid h0;have H1:=Lib.hid h1;have HU:=Lib.hid hu
 obtain⟨ua,un,uc,rfl⟩:=hu.shape
 clear h0 h1 hu
 unfold maxLen at hmw
 obtain⟨j0,hj,hy0,hy1,hy2⟩:=info_parts Rz
 obtain⟨W1,hW1⟩:∃W1,W1=(w.alloc (.cells #[.slice a0 n0 k0,.slice a1 d.Wait.length c1] 70)).alloc (.cells #[.slice none 0 0,.slice none 0 0] 70):=⟨_,rfl⟩
 have E1:Ext w W1:=by rw[hW1];exact((Ext.refl _).alloc _).alloc _
 have KD1:Blk W1 w.heap.size 70 #[.slice a0 n0 k0,.slice a1 d.Wait.length c1]:=by rw[hW1];exact(Blk.new _ _ _).alloc _
 have KR1:Blk W1 (w.heap.size+1) 70 #[.slice none 0 0,.slice none 0 0]:=by rw[hW1];exact Blk.new2 _ _ _ _
 have hs1:W1.heap.size=w.heap.size+1+1:=by rw[hW1];simp
 have HW1:=Lib.hid hW1
 clear hW1
 go_enter Tryz.func401,Tryz.ntmps401
 go_wp2_with fail
 rw[<-HW1.out]
 have CD1:=KD1.cell;have LD1:=KD1.lt
 go_wp2_with fail
 refine(Rm _ _ d.Kept _ d.Wait (H0.out.ext E1) (H1.out.ext E1)).mono ?_
 rintro e w2⟨rfl,hx2⟩
 have KD2:=KD1.ext hx2;have KR2:=KR1.ext hx2
 have E2:Ext w w2:=E1.trans hx2
 have hz2:=hx2.size
 clear CD1 LD1
 cases hd:Fu d
 .
  have e1:Nv d at_ row=false:=by simp[Nv,hd]
  have e2:wrD d at_ row=⟨[],[]⟩:=by simp[wrD,hd]
  have HE1:=Lib.hid e1;have HE2:=Lib.hid e2
  clear e1 e2 hd
  obtain⟨CR2,FR2,LR2⟩:=KR2.cfl
  go_wp2_with fail
  refine bodyPost_ret (by simp[results,Tryz.results401,go_sem,CR2,FR2,LR2];try rfl) rfl ?_
  refine⟨_,rfl,?_,_,by(rw[HE1.out];try rfl),?_⟩
  .
   exact xT
  rw[HE2.out]
  exact⟨_,_,_,[],[],rfl,Bi.nil _ _ _ _ _,Bi.nil _ _ _ _ _,by simp[Be,Value.ownBlock],rfl⟩
 have HD:=Lib.hid hd
 have hsm:=Pj hd
 have hw60:=(Oo hd).2.2.2.2
 clear hd
 have CD2:=KD2.cell;have LD2:=KD2.lt
 go_wp2_with fail
 refine(Zx _ _ d.Kept _ d.Wait (H0.out.ext E2) (H1.out.ext E2) hsm).mono ?_
 rintro e w3⟨_,rfl,hx3,t0,t1,ss0,ss1,rfl,O0,O1,hdj⟩
 obtain⟨b0,m0,l0,rfl⟩:=O0.nest.shape
 obtain⟨b1,m1,l1,rfl⟩:=O1.nest.shape
 have KD3:=KD2.ext hx3;have KR3:=KR2.ext hx3
 have E3:Ext w w3:=E2.trans hx3
 have hz3:=hx3.size
 have f0:=O0.foot;have f1:=O1.foot
 clear CD2 LD2
 obtain⟨W4,hW4⟩:∃W4,W4=w3.alloc (.cells #[.slice b0 m0 l0,.slice b1 m1 l1] 70):=⟨_,rfl⟩
 have HW4:=Lib.hid hW4
 have X4:Ext w3 W4:=by rw[hW4];exact(Ext.refl _).alloc _
 have KX4:Blk W4 w3.heap.size 70 #[.slice b0 m0 l0,.slice b1 m1 l1]:=by rw[hW4];exact Blk.new _ _ _
 have hs4:W4.heap.size=w3.heap.size+1:=by rw[hW4];simp
 have CD3:=KD3.cell;have LD3:=KD3.lt
 clear hW4
 go_wp2_with fail
 rw[<-HW4.out]
 obtain⟨X,hX⟩:∃X,X=w3.heap.size:=⟨_,rfl⟩
 rw[<-hX] at KX4 hs4
 simp only[<-hX]
 have KD4:=KD3.ext X4;have KR4:=KR3.ext X4
 have E4:Ext w W4:=E3.trans X4
 have O0:=O0.ext X4;have O1:=O1.ext X4
 have hneX:some X≠(Value.slice b1 m1 l1).ownBlock:=fun e=>by
  have h9:X ∈ Be (Value.slice b1 m1 l1::ss1):=by simp only[Be,List.filterMap_cons,<-e];simp
  have:=(f1 X h9).2;omega
 have hXb:w2.heap.size<=X:=by omega
 have hf0:∀k,k ∈ Be (Value.slice b0 m0 l0::ss0)->w2.heap.size<=k/\k<X:=fun k hk=>by have:=f0 k hk;omega
 have hf1:∀k,k ∈ Be (Value.slice b1 m1 l1::ss1)->w2.heap.size<=k/\k<X:=fun k hk=>by have:=f1 k hk;omega
 clear hX f0 f1 CD3 LD3 KD1 KD2 KD3 KR1 KR3 HW4
 refine(Ry _ _ d.Kept _ d.Wait at_ (H0.out.ext E4) (H1.out.ext E4)).mono ?_
 rintro e w5⟨rfl,hx5⟩
 have KD5:=KD4.ext hx5;have KR5:=KR4.ext hx5;have KX5:=KX4.ext hx5
 have E5:Ext w w5:=E4.trans hx5
 have hz5:=hx5.size
 have O0:=O0.ext hx5;have O1:=O1.ext hx5
 obtain⟨CR5,FR5,LR5⟩:=KR5.cfl
 obtain⟨CX5,FX5,LX5⟩:=KX5.cfl
 have CD5:=KD5.cell;have LD5:=KD5.lt
 have hin:inb at_ 0 (({ Kept:=d.Kept,Wait:=d.Wait }:Ez).Kept.length - 1)=inb at_ 0 (d.Kept.length - 1):=rfl
 rw[hin]
 cases hi:inb at_ 0 (d.Kept.length - 1)
 .
  have HI:=Lib.hid hi
  clear hi
  have e1:Nv d at_ row=false:=by rw[Nv];simp[HD.out,HI.out]
  have e2:wrD d at_ row=d:=by unfold wrD;rw[if_pos HD.out,if_neg (by rw[e1];simp)]
  have HE1:=Lib.hid e1;have HE2:=Lib.hid e2
  clear e1 e2
  go_wp2_with fail
  refine bodyPost_ret (by simp[results,Tryz.results401,go_sem,CR5,FR5,LR5];try rfl) rfl ?_
  refine⟨_,rfl,?_,_,by(rw[HE1.out];try rfl),?_⟩
  .
   exact xT
  rw[HE2.out]
  exact Ee.ow ⟨_,_,ss0,ss1,rfl,(O0.keep Hx).mono oM,(O1.keep Hx).mono oM,hdj⟩
 have HI:=Lib.hid hi
 clear hi CR5 FR5 LR5 CX5 FX5 LX5
 go_wp2_with fail
 refine(Qv _ _ row (HU.out.ext E5)).mono ?_
 rintro e w6⟨rfl,hx6⟩
 have KD6:=KD5.ext hx6;have KR6:=KR5.ext hx6;have KX6:=KX5.ext hx6
 have E6:Ext w w6:=E5.trans hx6
 have hz6:=hx6.size
 have O0:=O0.ext hx6;have O1:=O1.ext hx6
 clear CD5 LD5
 obtain⟨CR6,FR6,LR6⟩:=KR6.cfl
 obtain⟨CX6,FX6,LX6⟩:=KX6.cfl
 have CD6:=KD6.cell;have LD6:=KD6.lt
 cases hr:Ik row
 .
  have HR:=Lib.hid hr
  clear hr
  have e1:Nv d at_ row=false:=by rw[Nv];simp[HD.out,HR.out]
  have e2:wrD d at_ row=d:=by unfold wrD;rw[if_pos HD.out,if_neg (by rw[e1];simp)]
  have HE1:=Lib.hid e1;have HE2:=Lib.hid e2
  clear e1 e2
  go_wp2_with fail
  refine bodyPost_ret (by simp[results,Tryz.results401,go_sem,CR6,FR6,LR6];try rfl) rfl ?_
  refine⟨_,rfl,?_,_,by(rw[HE1.out];try rfl),?_⟩
  .
   exact xT
  rw[HE2.out]
  exact Ee.ow ⟨_,_,ss0,ss1,rfl,(O0.keep Hx).mono oM,(O1.keep Hx).mono oM,hdj⟩
 have HR:=Lib.hid hr
 have hrl:row.length<=1000000:=by have:=(Pp hr).1;omega
 clear hr
 by_cases hfull:d.Wait.length=60
 .
  have HF:=Lib.hid hfull
  have hge:(60:Int)<=(d.Wait.length:Int):=by omega
  have e1:Nv d at_ row=false:=by rw[Nv];simp[HD.out,HF.out]
  have e2:wrD d at_ row=d:=by unfold wrD;rw[if_pos HD.out,if_neg (by rw[e1];simp)]
  have HE1:=Lib.hid e1;have HE2:=Lib.hid e2
  clear e1 e2
  go_wp2_with fail
  refine bodyPost_ret (by simp[results,Tryz.results401,go_sem,CR6,FR6,LR6];try rfl) rfl ?_
  refine⟨_,rfl,?_,_,by(rw[HE1.out];try rfl),?_⟩
  .
   exact xT
  rw[HE2.out]
  exact Ee.ow ⟨_,_,ss0,ss1,rfl,(O0.keep Hx).mono oM,(O1.keep Hx).mono oM,hdj⟩
 have hlt:(d.Wait.length:Int)<60:=by omega
 have hlt':¬ ((d.Wait.length:Int)=60):=by omega
 have hge':¬ ((60:Int)<=(d.Wait.length:Int)):=by omega
 have e1:Nv d at_ row=true:=by rw[Nv,HD.out,HI.out,HR.out];simp;omega
 have e2:wrD d at_ row=⟨d.Kept,d.Wait++[⟨at_,row⟩]⟩:=by unfold wrD;rw[if_pos HD.out,if_pos e1]
 have HE1:=Lib.hid e1;have HE2:=Lib.hid e2
 clear e1 e2
 have X26:Ext w2 w6:=(hx3.trans X4).trans (hx5.trans hx6)
 go_wp2_with fail
 refine wp_region_held_drew (S:=(fun w'=>True)) (by kernel_rfl) (by(try dsimp only);try trivial) (fun hHeld=>?_)
 refine wt 0 ?_
 (try simp only[Ab,Act.put])
 refine wt 2 ?_
 (try simp only[Ab,Act.put])
 refine wt 3 ?_
 (try simp only[Ab,Act.put])
 refine wr2 1 4 (fun Kz hKz=>?_) fun Kz hKz=>?_
 .
  (try simp only[Ab])
  go_simp
  refine hKz.out _ _ (by(try dsimp only);try trivial) (fun hHeld=>?_)
  clear hKz Kz
  (try simp only[Ab,Act.put])
  refine wr1 4 fun Kz hKz=>?_
  (try simp only[Ab])
  go_simp
  (go_at_call 420;refine(Po _ _ _ (HU.out.ext (Ext.trans E6 xT)) hrl).mono ?_;rintro e w8 ⟨_,rfl,hx8,g8⟩;obtain⟨ta,tn,tc,rfl⟩:=g8.shape;have hz8:w6.heap.size<=w8.heap.size:=hx8.size;have hz9:w6.drew.heap.size=w6.heap.size:=rfl;have KX8:Blk w8 X 70 _:=KX6.ext (Ext.trans xT hx8);have CX8:=KX8.cell;have FX8:=KX8.frozen;have hXl8:X<w8.heap.size:=oM)
  refine hKz.out _ _ (by(try dsimp only);try trivial) (fun hHeld=>?_)
  clear hKz Kz
  (try simp only[Ab,Act.put])
  refine wt 5 ?_
  (try simp only[Ab,Act.put])
  refine wr1 6 fun Kz hKz=>?_
  (try simp only[Ab])
  go_simp
  refine hKz.out _ _ (by(try dsimp only);try trivial) (fun hHeld=>?_)
  clear hKz Kz
  (try simp only[Ab,Act.put])
  refine wr1 7 fun Kz hKz=>?_
  (try simp only[Ab])
  (rw[if_pos (by rfl)];refine Eu (n:=1) (r:=([at_],row)) (.tmp 32) (.tmp 37) 68 (by rfl) j0 _ 32 Tryz.underlying68 hj hy0 hy1 hy2 rfl (by rfl) (O1.ext xT) _ (by rfl) _ (by exact Blk.new _ _ _) (by rfl) rfl (g8.ext xT) oM (fun k hk=>Nat.lt_of_lt_of_le (O1.foot k hk).2 oM) 1001 (by rw[hlw];omega) (by unfold maxLen;omega) oM (by simp;omega) ?_;intro g cp wa hown1 hga hxa hua;have KA:=(KX8.alloc _).grown hga hneX;have CKA:=KA.cell;have FKA:=KA.frozen)
  refine hKz.out _ _ (by(try dsimp only);try trivial) (fun hHeld=>?_)
  clear hKz Kz
  (try simp only[Ab,Act.put])
  refine wt 8 ?_
  (try simp only[Ab,Act.put])
  refine wr1 9 fun Kz hKz=>?_
  (try simp only[Ab])
  go_simp
  refine hKz.out _ _ (by(try dsimp only);try trivial) (fun hHeld=>?_)
  clear hKz Kz
  (try simp only[Ab,Act.put])
  refine wpAnyH_done (by kernel_rfl) ?_ _
  have hxw0:Ext w2 wa:=hxa w2 ((X26.trans ((Ext.refl w6).drew.trans hx8)).alloc _) (Nat.le_refl _)
  have UA:Upd (w8.alloc (.cells #[.int .i64 at_,.slice ta tn tc] 312)) wa (Be (.slice b1 m1 l1::ss1)):=Upd.grown hga (fun k hk=>by simp only[Be,List.filterMap_cons];rw[hk];simp)
  have O0a:=(O0.ext (((Ext.refl w6).drew.trans hx8).alloc (.cells #[.int .i64 at_,.slice ta tn tc] 312))).upd UA (fun k h1 h2=>hdj k h1 h2)
  have hap:=Nw O0a hown1 (fun k hk=>(Own.lt g8 hk).1) (fun k h1 h2=>hdj k h1 (Pv h2)) (fun k hk=>by have:=(hf0 k hk).2;omega) dC dC
  have KRa:=KR2.ext hxw0
  obtain⟨CRa,FRa,LRa⟩:=KRa.cfl
  have O0b:=O0a.box KA dC dC 1 (.slice (some ⟨g,0,none⟩) ((Ah d.Wait).length+1) cp)
  have O1b:=hown1.box KA dC dC 1 (.slice (some ⟨g,0,none⟩) ((Ah d.Wait).length+1) cp)
  clear hown1 hga hxa hua UA O0a
  rw[hlw] at hap O0b O1b
  go_wp2_with fail
  refine bodyPost_ret (by simp[results,Tryz.results401,go_sem,CRa,FRa,LRa,CKA,FKA];try rfl) rfl ?_
  refine⟨_,rfl,?_,_,by(rw[HE1.out];try rfl),?_⟩
  .
   exact xT
  rw[HE2.out]
  refine Ee.ow ⟨_,_,ss0,ss1++[.slice ta tn tc],rfl,Bi.mono (Bi.keep O0b ?_) ?_,?_,hap⟩
  .
   exact Hx
  .
   omega
  simp only[]
  rw[Ih]
  refine Bi.mono (Bi.keep O1b ?_) ?_
  .
   exact Hx
  omega
 (try simp only[Ab])
 go_simp
 (go_at_call 420;refine(Po _ _ _ (HU.out.ext (Ext.trans E6 xT)) hrl).mono ?_;rintro e w8 ⟨_,rfl,hx8,g8⟩;obtain⟨ta,tn,tc,rfl⟩:=g8.shape;have hz8:w6.heap.size<=w8.heap.size:=hx8.size;have hz9:w6.drew.heap.size=w6.heap.size:=rfl;have KX8:Blk w8 X 70 _:=KX6.ext (Ext.trans xT hx8);have CX8:=KX8.cell;have FX8:=KX8.frozen;have hXl8:X<w8.heap.size:=oM)
 refine hKz.out _ _ (by(try dsimp only);try trivial) (fun hHeld=>?_)
 clear hKz Kz
 (try simp only[Ab,Act.put])
 refine wt 5 ?_
 (try simp only[Ab,Act.put])
 refine wr2 1 6 (fun Kz hKz=>?_) fun Kz hKz=>?_
 .
  (try simp only[Ab])
  go_simp
  refine hKz.out _ _ (by(try dsimp only);try trivial) (fun hHeld=>?_)
  clear hKz Kz
  (try simp only[Ab,Act.put])
  refine wr1 6 fun Kz hKz=>?_
  (try simp only[Ab])
  go_simp
  refine hKz.out _ _ (by(try dsimp only);try trivial) (fun hHeld=>?_)
  clear hKz Kz
  (try simp only[Ab,Act.put])
  refine wr1 7 fun Kz hKz=>?_
  (try simp only[Ab])
  (rw[if_pos (by rfl)];refine Eu (n:=1) (r:=([at_],row)) (.tmp 32) (.tmp 37) 68 (by rfl) j0 _ 32 Tryz.underlying68 hj hy0 hy1 hy2 rfl (by rfl) (O1.ext xT) _ (by rfl) _ (by exact Blk.new _ _ _) (by rfl) rfl (g8.ext xT) oM (fun k hk=>Nat.lt_of_lt_of_le (O1.foot k hk).2 oM) 1001 (by rw[hlw];omega) (by unfold maxLen;omega) oM (by simp;omega) ?_;intro g cp wa hown1 hga hxa hua;have KA:=(KX8.alloc _).grown hga hneX;have CKA:=KA.cell;have FKA:=KA.frozen)
  refine hKz.out _ _ (by(try dsimp only);try trivial) (fun hHeld=>?_)
  clear hKz Kz
  (try simp only[Ab,Act.put])
  refine wt 8 ?_
  (try simp only[Ab,Act.put])
  refine wr1 9 fun Kz hKz=>?_
  (try simp only[Ab])
  go_simp
  refine hKz.out _ _ (by(try dsimp only);try trivial) (fun hHeld=>?_)
  clear hKz Kz
  (try simp only[Ab,Act.put])
  refine wpAnyH_done (by kernel_rfl) ?_ _
  have hxw0:Ext w2 wa:=hxa w2 ((X26.trans ((Ext.refl w6).drew.trans hx8)).alloc _) (Nat.le_refl _)
  have UA:Upd (w8.alloc (.cells #[.int .i64 at_,.slice ta tn tc] 312)) wa (Be (.slice b1 m1 l1::ss1)):=Upd.grown hga (fun k hk=>by simp only[Be,List.filterMap_cons];rw[hk];simp)
  have O0a:=(O0.ext (((Ext.refl w6).drew.trans hx8).alloc (.cells #[.int .i64 at_,.slice ta tn tc] 312))).upd UA (fun k h1 h2=>hdj k h1 h2)
  have hap:=Nw O0a hown1 (fun k hk=>(Own.lt g8 hk).1) (fun k h1 h2=>hdj k h1 (Pv h2)) (fun k hk=>by have:=(hf0 k hk).2;omega) dC dC
  have KRa:=KR2.ext hxw0
  obtain⟨CRa,FRa,LRa⟩:=KRa.cfl
  have O0b:=O0a.box KA dC dC 1 (.slice (some ⟨g,0,none⟩) ((Ah d.Wait).length+1) cp)
  have O1b:=hown1.box KA dC dC 1 (.slice (some ⟨g,0,none⟩) ((Ah d.Wait).length+1) cp)
  clear hown1 hga hxa hua UA O0a
  rw[hlw] at hap O0b O1b
  go_wp2_with fail
  refine bodyPost_ret (by simp[results,Tryz.results401,go_sem,CRa,FRa,LRa,CKA,FKA];try rfl) rfl ?_
  refine⟨_,rfl,?_,_,by(rw[HE1.out];try rfl),?_⟩
  .
   exact xT
  rw[HE2.out]
  refine Ee.ow ⟨_,_,ss0,ss1++[.slice ta tn tc],rfl,Bi.mono (Bi.keep O0b ?_) ?_,?_,hap⟩
  .
   exact Hx
  .
   omega
  simp only[]
  rw[Ih]
  refine Bi.mono (Bi.keep O1b ?_) ?_
  .
   exact Hx
  omega
 (try simp only[Ab])
 go_simp
 refine hKz.out _ _ (by(try dsimp only);try trivial) (fun hHeld=>?_)
 clear hKz Kz
 (try simp only[Ab,Act.put])
 refine wr1 1 fun Kz hKz=>?_
 (try simp only[Ab])
 go_simp
 refine hKz.out _ _ (by(try dsimp only);try trivial) (fun hHeld=>?_)
 clear hKz Kz
 (try simp only[Ab,Act.put])
 refine wr1 7 fun Kz hKz=>?_
 (try simp only[Ab])
 (rw[if_pos (by rfl)];refine Eu (n:=1) (r:=([at_],row)) (.tmp 32) (.tmp 37) 68 (by rfl) j0 _ 32 Tryz.underlying68 hj hy0 hy1 hy2 rfl (by rfl) (O1.ext xT) _ (by rfl) _ (by exact Blk.new _ _ _) (by rfl) rfl (g8.ext xT) oM (fun k hk=>Nat.lt_of_lt_of_le (O1.foot k hk).2 oM) 1001 (by rw[hlw];omega) (by unfold maxLen;omega) oM (by simp;omega) ?_;intro g cp wa hown1 hga hxa hua;have KA:=(KX8.alloc _).grown hga hneX;have CKA:=KA.cell;have FKA:=KA.frozen)
 refine hKz.out _ _ (by(try dsimp only);try trivial) (fun hHeld=>?_)
 clear hKz Kz
 (try simp only[Ab,Act.put])
 refine wt 8 ?_
 (try simp only[Ab,Act.put])
 refine wr1 9 fun Kz hKz=>?_
 (try simp only[Ab])
 go_simp
 refine hKz.out _ _ (by(try dsimp only);try trivial) (fun hHeld=>?_)
 clear hKz Kz
 (try simp only[Ab,Act.put])
 refine wpAnyH_done (by kernel_rfl) ?_ _
 have hxw0:Ext w2 wa:=hxa w2 ((X26.trans ((Ext.refl w6).drew.trans hx8)).alloc _) (Nat.le_refl _)
 have UA:Upd (w8.alloc (.cells #[.int .i64 at_,.slice ta tn tc] 312)) wa (Be (.slice b1 m1 l1::ss1)):=Upd.grown hga (fun k hk=>by simp only[Be,List.filterMap_cons];rw[hk];simp)
 have O0a:=(O0.ext (((Ext.refl w6).drew.trans hx8).alloc (.cells #[.int .i64 at_,.slice ta tn tc] 312))).upd UA (fun k h1 h2=>hdj k h1 h2)
 have hap:=Nw O0a hown1 (fun k hk=>(Own.lt g8 hk).1) (fun k h1 h2=>hdj k h1 (Pv h2)) (fun k hk=>by have:=(hf0 k hk).2;omega) dC dC
 have KRa:=KR2.ext hxw0
 obtain⟨CRa,FRa,LRa⟩:=KRa.cfl
 have O0b:=O0a.box KA dC dC 1 (.slice (some ⟨g,0,none⟩) ((Ah d.Wait).length+1) cp)
 have O1b:=hown1.box KA dC dC 1 (.slice (some ⟨g,0,none⟩) ((Ah d.Wait).length+1) cp)
 clear hown1 hga hxa hua UA O0a
 rw[hlw] at hap O0b O1b
 go_wp2_with fail
 refine bodyPost_ret (by simp[results,Tryz.results401,go_sem,CRa,FRa,LRa,CKA,FKA];try rfl) rfl ?_
 refine⟨_,rfl,?_,_,by(rw[HE1.out];try rfl),?_⟩
 .
  exact xT
 rw[HE2.out]
 refine Ee.ow ⟨_,_,ss0,ss1++[.slice ta tn tc],rfl,Bi.mono (Bi.keep O0b ?_) ?_,?_,hap⟩
 .
  exact Hx
 .
  omega
 simp only[]
 rw[Ih]
 refine Bi.mono (Bi.keep O1b ?_) ?_
 .
  exact Hx
 omega
section
variable {B:Nat} {w:World} {v:Value} {d:Ez} {F:List Nat} {X:Nat} {cs:Array Value}
theorem Dc.keep{w':World}{B':Nat}(h:Dc B w v d F)(x:Chg B w w')(hb:B'<=B):Dc B' w' v d F:=let ⟨t0,t1,s0,s1,e,h0,h1,hd,hF⟩:=h;⟨t0,t1,s0,s1,e,(h0.keep x).mono hb,(h1.keep x).mono hb,hd,hF⟩
theorem Dc.box(h:Dc B w v d F)(hX:Blk w X 70 cs)(i:Nat)(u:Value):Dc B (w.setCell ⟨X,i,none⟩ u) v d F:=let ⟨t0,t1,s0,s1,e,h0,h1,hd,hF⟩:=h;⟨t0,t1,s0,s1,e,h0.box hX dC dC i u,h1.box hX dC dC i u,hd,hF⟩
theorem Ju.box{l:List (List Int)}(h:Ju B w v l F)(hX:Blk w X 70 cs)(i:Nat)(u:Value):Ju B (w.setCell ⟨X,i,none⟩ u) v l F:=let ⟨s,h,e⟩:=h;⟨s,h.box hX dC dC i u,e⟩
end
end Go.Proofs.YtkpmbocbbgocbaaGreat
