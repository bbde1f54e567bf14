/- HelpV KQ KQ2 KQL KQY. -/
import Derived.Test.YtkpmbocbbgocbaaGreatPB3
set_option linter.unusedSimpArgs false
set_option linter.unusedVariables false
set_option maxHeartbeats 8000000
set_option maxRecDepth 100000
namespace Go.Proofs.YtkpmbocbbgocbaaGreat
open Go.RowKit Go.G8
def aL0(q:Int)(n:Nat):List Bool:=(List.range n).map fun i=>((q+(i:Nat)) % 3 == 0)
theorem aR3(q:Int)(n:Nat):(aL0 q n).length=n:=by simp[aL0]
theorem bK5{q q':Int}{n k:Nat}(h:k<n)(e:q'=q+(k:Nat)):((aL0 q n).map Value.bool)[k]?=some (.bool (q' % 3 == 0)):=by
 subst e
 simp[aL0,h]
theorem aR4(w:World)(B:Nat)(v:Value)(xs:List Bool)(L:Nat)(hL:xs.length=L)(q:Int)(h:Own B 4 1 w v (xs.map .bool))(h0:0<=q)(h1:q+(L:Nat)<=4611686018427387904):Calls Tryz.prog 64 #[v,.int .i64 q] w (IX w (Ep [v]) (.int .i64 (q+(L:Nat))) fun w'=>Own B 4 1 w' v ((aL0 q L).map .bool)):=by
 obtain⟨a,len,ca,rfl,hl,hca,hm,hop⟩:=Own.open_ h
 rw[List.length_map] at hl
 obtain rfl:L=len:=by omega
 unfold maxLen at hm
 rcases hop with h00|⟨g,cur0,rfl,hB,hb0,hs0,-⟩
 .
  subst h00
  have hfin:Own B 4 1 w (.slice a 0 ca) ((aL0 q 0).map .bool):=by
   refine Own.empty h ?_ _ ?_
   .
    obtain rfl:xs=[]:=List.eq_nil_of_length_eq_zero hL
    rfl
   simp[aL0]
  have HF:=Lib.hid hfin
  clear hfin h hL hl
  have hq:q+((0:Nat):Int)=q:=by simp
  rw[hq]
  clear hq
  go_enter Tryz.func64,Tryz.ntmps64
  go_wp2
  go_loopw [1,5] (fun kk i wr=>kk=.int .i64 q/\i=.int .i64 0/\wr=w) (fun _ _ _=>0)
  case atStart=>exact⟨rfl,rfl,rfl⟩
  case round =>
   obtain⟨rfl,rfl,rfl⟩:=hrel
   go_wp2
   go_ret
   exact⟨rfl,Upd.refl _ _,HF.out⟩
 have HS:=Lib.hid hs0
 have HC:=Lib.hid (show L<=ca by have:=Nat.mul_le_mul_right 1 hca;omega)
 clear hs0 hL hl h
 go_enter Tryz.func64,Tryz.ntmps64
 go_wp2
 go_loopw [1,5] (fun kk i wr=>∃k:Nat,k<=L/\i=.int .i64 k/\(∃q':Int,q'=q+(k:Nat)/\kk=.int .i64 q')/\Upd w wr [g]/\∃cur,Blk wr g 4 cur/\cur.size=ca/\Pre cur (k) ((aL0 q (L)).map .bool)) (fun _ i _=>L - (intOf i).toNat)
 case atStart=>exact⟨0,Nat.zero_le _,rfl,⟨q,by simp,rfl⟩,Upd.refl _ _,cur0,hb0,by simpa using HS.out,by simpa using Pre.zero _ _⟩
 case round =>
  obtain⟨k,hk,rfl,⟨q',hq',rfl⟩,he,cur,hblk,hsz,hpre⟩:=hrel
  clear HS
  have HS:=Lib.hid hsz
  have HQ:=Lib.hid hq'
  by_cases hlt:k<L
  .
   have hq1:0<=q'/\q'+1<=4611686018427387904:=by have:=Av hlt 1;omega
   obtain⟨hq1,hq2⟩:=hq1
   clear hsz hq'
   obtain⟨z0,g0⟩:∃z,wr.cell? ⟨g,k,none⟩=some z:=⟨_,by rw[hblk.cell];exact Array.getElem?_eq_getElem (by have:=HS.out;have:=HC.out;omega)⟩
   have f0:=hblk.frozen (k)
   go_wp2
   go_roundw
   case rel=>exact⟨k+1,by omega,by go_num,⟨_,by have:=HQ.out;omega,rfl⟩,(he.setCell (by simp) _),_,(hblk.set_ _ _),by simp;exact HS.out,hpre.set (bK5 hlt HQ.out) (by have:=HS.out;have:=HC.out;omega)⟩
   case measure=>simp[intOf];omega
  obtain rfl:k=L:=by omega
  clear hsz hq'
  go_wp2
  go_ret
  refine⟨congrArg (fun z=>Ending.returned (.int .i64 z)) HQ.out,he,Own.of_blk hblk hB (by simpa using HS.out) (by simp[aR3]) hca (by unfold maxLen;omega) (hpre.cast oM)⟩
theorem wX{w V:World}{g o:Nat}{v:Value}{fs:List Nat}(h:w.cell? ⟨g,o,none⟩=some v)(u:Upd w V fs)(hn:g ∉ fs):V.cell? ⟨g,o,none⟩=some v:=by
 have hb:=u.block g (World.block_lt_of_cell? w _ h) hn
 unfold World.cell? at h ⊢
 rw[hb];exact h
theorem Xg{w V:World}{g o:Nat}{cs:List Value}{fs:List Nat}(h:w.rangeAt g o cs)(u:Upd w V fs)(hn:g ∉ fs):V.rangeAt g o cs:=fun j v hv=>wX (h j v hv) u hn
theorem BE{l:List (List Nat)}(h:l.Pairwise (fun a b=>∀k,k ∈ a->k ∈ b->False))(i j:Nat)(hij:i<j)(hj:j<l.length):∀k,k ∈ l[i]'oM->k ∈ l[j]->False:=List.pairwise_iff_getElem.1 h i j oM hj hij
def LR(l:List Int):Nat:=l.length
def MZ(B:Nat)(w:World)(v:Value)(l:List Int)(F:List Nat)(q:Int):Prop:=Ba B 2 1 w v (run q (l.length))/\F=Ep [v]
section
variable {B B':Nat} {w w':World} {v:Value} {l:List Int} {F:List Nat} {q:Int}
theorem MZ.ext(h:MZ B w v l F q)(x:Ext w w'):MZ B w' v l F q:=⟨Own.ext h.1 x,h.2⟩
theorem MZ.upd(h:MZ B w v l F q){fs:List Nat}(x:Upd w w' fs)(hn:∀k,k ∈ F->k ∈ fs->False):MZ B w' v l F q:=by
 obtain⟨h,rfl⟩:=h
 exact⟨Ba.upd' h x hn,rfl⟩
theorem YE(h:EV B w v l F)(hq0:0<=q)(hq1:q+(LR l:Nat)<=4611686018427387904):Calls Tryz.prog 19 #[v,.int .i64 q] w (IX w F (.int .i64 (q+(LR l:Nat))) fun w'=>MZ B w' v l F q):=by
 obtain⟨h,rfl⟩:=h
 refine(OQ w B v _ l.length rfl q h hq0 hq1).mono ?_
 rintro e w'⟨rfl,hx,g⟩
 exact⟨rfl,hx,g,rfl⟩
theorem YF(h:MZ B w v l F q)(hq0:0<=q)(hq1:q+(LR l:Nat)<=4611686018427387904):Calls Tryz.prog 20 #[v,.int .i64 q] w (Fz w (.int .i64 (q+(LR l:Nat)))):=aI1 w v l.length q h.1.ints hq0 hq1
end
def QI(l:List Bz):Nat:=l.length*3
def OT(B:Nat)(w:World)(v:Value)(l:List Bz)(F:List Nat)(q:Int):Prop:=Ba B 290 3 w v (run q (l.length*3))/\F=Ep [v]
section
variable {B B':Nat} {w w':World} {v:Value} {l:List Bz} {F:List Nat} {q:Int}
theorem OT.ext(h:OT B w v l F q)(x:Ext w w'):OT B w' v l F q:=⟨Own.ext h.1 x,h.2⟩
theorem OT.upd(h:OT B w v l F q){fs:List Nat}(x:Upd w w' fs)(hn:∀k,k ∈ F->k ∈ fs->False):OT B w' v l F q:=by
 obtain⟨h,rfl⟩:=h
 exact⟨Ba.upd' h x hn,rfl⟩
theorem aB2(h:IG B w v l F)(hq0:0<=q)(hq1:q+(QI l:Nat)<=4611686018427387904):Calls Tryz.prog 155 #[v,.int .i64 q] w (IX w F (.int .i64 (q+(QI l:Nat))) fun w'=>OT B w' v l F q):=by
 obtain⟨h,rfl⟩:=h
 refine(aP1 w B v _ l.length (CY _) q h hq0 hq1).mono ?_
 rintro e w'⟨rfl,hx,g⟩
 exact⟨rfl,hx,g,rfl⟩
end
def aB3(l:List EN):Nat:=l.length*4
def TT(B:Nat)(w:World)(v:Value)(l:List EN)(F:List Nat)(q:Int):Prop:=Ba B 284 4 w v (run q (l.length*4))/\F=Ep [v]
section
variable {B B':Nat} {w w':World} {v:Value} {l:List EN} {F:List Nat} {q:Int}
theorem TT.ext(h:TT B w v l F q)(x:Ext w w'):TT B w' v l F q:=⟨Own.ext h.1 x,h.2⟩
theorem TT.upd(h:TT B w v l F q){fs:List Nat}(x:Upd w w' fs)(hn:∀k,k ∈ F->k ∈ fs->False):TT B w' v l F q:=by
 obtain⟨h,rfl⟩:=h
 exact⟨Ba.upd' h x hn,rfl⟩
theorem bK6(h:LC B w v l F)(hq0:0<=q)(hq1:q+(aB3 l:Nat)<=4611686018427387904):Calls Tryz.prog 156 #[v,.int .i64 q] w (IX w F (.int .i64 (q+(aB3 l:Nat))) fun w'=>TT B w' v l F q):=by
 obtain⟨h,rfl⟩:=h
 refine(aW9 w B v _ l.length (RE _) q h hq0 hq1).mono ?_
 rintro e w'⟨rfl,hx,g⟩
 exact⟨rfl,hx,g,rfl⟩
end
def UQ(l:List wO):Nat:=l.length*7
def QJ(B:Nat)(w:World)(v:Value)(l:List wO)(F:List Nat)(q:Int):Prop:=Ba B 161 7 w v (run q (l.length*7))/\F=Ep [v]
section
variable {B B':Nat} {w w':World} {v:Value} {l:List wO} {F:List Nat} {q:Int}
theorem QJ.ext(h:QJ B w v l F q)(x:Ext w w'):QJ B w' v l F q:=⟨Own.ext h.1 x,h.2⟩
theorem QJ.upd(h:QJ B w v l F q){fs:List Nat}(x:Upd w w' fs)(hn:∀k,k ∈ F->k ∈ fs->False):QJ B w' v l F q:=by
 obtain⟨h,rfl⟩:=h
 exact⟨Ba.upd' h x hn,rfl⟩
theorem aX6(h:IN B w v l F)(hq0:0<=q)(hq1:q+(UQ l:Nat)<=4611686018427387904):Calls Tryz.prog 31 #[v,.int .i64 q] w (IX w F (.int .i64 (q+(UQ l:Nat))) fun w'=>QJ B w' v l F q):=by
 obtain⟨h,rfl⟩:=h
 refine(aP2 w B v _ l.length (QO _) q h hq0 hq1).mono ?_
 rintro e w'⟨rfl,hx,g⟩
 exact⟨rfl,hx,g,rfl⟩
end
def aB4(l:List FP):Nat:=l.length*4
def TU(B:Nat)(w:World)(v:Value)(l:List FP)(F:List Nat)(q:Int):Prop:=Ba B 276 4 w v (run q (l.length*4))/\F=Ep [v]
section
variable {B B':Nat} {w w':World} {v:Value} {l:List FP} {F:List Nat} {q:Int}
theorem TU.ext(h:TU B w v l F q)(x:Ext w w'):TU B w' v l F q:=⟨Own.ext h.1 x,h.2⟩
theorem TU.upd(h:TU B w v l F q){fs:List Nat}(x:Upd w w' fs)(hn:∀k,k ∈ F->k ∈ fs->False):TU B w' v l F q:=by
 obtain⟨h,rfl⟩:=h
 exact⟨Ba.upd' h x hn,rfl⟩
theorem bK7(h:LD B w v l F)(hq0:0<=q)(hq1:q+(aB4 l:Nat)<=4611686018427387904):Calls Tryz.prog 160 #[v,.int .i64 q] w (IX w F (.int .i64 (q+(aB4 l:Nat))) fun w'=>TU B w' v l F q):=by
 obtain⟨h,rfl⟩:=h
 refine(aX0 w B v _ l.length (RF _) q h hq0 hq1).mono ?_
 rintro e w'⟨rfl,hx,g⟩
 exact⟨rfl,hx,g,rfl⟩
end
def WN(l:List BP):Nat:=l.length*2
def QK(B:Nat)(w:World)(v:Value)(l:List BP)(F:List Nat)(q:Int):Prop:=Ba B 258 2 w v (run q (l.length*2))/\F=Ep [v]
section
variable {B B':Nat} {w w':World} {v:Value} {l:List BP} {F:List Nat} {q:Int}
theorem QK.ext(h:QK B w v l F q)(x:Ext w w'):QK B w' v l F q:=⟨Own.ext h.1 x,h.2⟩
theorem QK.upd(h:QK B w v l F q){fs:List Nat}(x:Upd w w' fs)(hn:∀k,k ∈ F->k ∈ fs->False):QK B w' v l F q:=by
 obtain⟨h,rfl⟩:=h
 exact⟨Ba.upd' h x hn,rfl⟩
theorem aX7(h:IP B w v l F)(hq0:0<=q)(hq1:q+(WN l:Nat)<=4611686018427387904):Calls Tryz.prog 162 #[v,.int .i64 q] w (IX w F (.int .i64 (q+(WN l:Nat))) fun w'=>QK B w' v l F q):=by
 obtain⟨h,rfl⟩:=h
 refine(aP3 w B v _ l.length (QP _) q h hq0 hq1).mono ?_
 rintro e w'⟨rfl,hx,g⟩
 exact⟨rfl,hx,g,rfl⟩
end
def TV(l:List Bj):Nat:=l.length*9
def NV(B:Nat)(w:World)(v:Value)(l:List Bj)(F:List Nat)(q:Int):Prop:=Ba B 281 9 w v (run q (l.length*9))/\F=Ep [v]
section
variable {B B':Nat} {w w':World} {v:Value} {l:List Bj} {F:List Nat} {q:Int}
theorem NV.ext(h:NV B w v l F q)(x:Ext w w'):NV B w' v l F q:=⟨Own.ext h.1 x,h.2⟩
theorem NV.upd(h:NV B w v l F q){fs:List Nat}(x:Upd w w' fs)(hn:∀k,k ∈ F->k ∈ fs->False):NV B w' v l F q:=by
 obtain⟨h,rfl⟩:=h
 exact⟨Ba.upd' h x hn,rfl⟩
theorem aR5(h:GF B w v l F)(hq0:0<=q)(hq1:q+(TV l:Nat)<=4611686018427387904):Calls Tryz.prog 258 #[v,.int .i64 q] w (IX w F (.int .i64 (q+(TV l:Nat))) fun w'=>NV B w' v l F q):=by
 obtain⟨h,rfl⟩:=h
 refine(aJ9 w B v _ l.length (MP _) q h hq0 hq1).mono ?_
 rintro e w'⟨rfl,hx,g⟩
 exact⟨rfl,hx,g,rfl⟩
end
def XL(l:List OP):Nat:=YT (GK l)
def TW(B:Nat)(w:World)(v:Value)(l:List OP)(F:List Nat)(q:Int):Prop:=XF B w v (GK l) F q
section
variable {B B':Nat} {w w':World} {v:Value} {l:List OP} {F:List Nat} {q:Int}
theorem TW.ext(h:TW B w v l F q)(x:Ext w w'):TW B w' v l F q:=XF.ext h x
theorem TW.upd(h:TW B w v l F q){fs:List Nat}(x:Upd w w' fs)(hn:∀k,k ∈ F->k ∈ fs->False):TW B w' v l F q:=by
 obtain⟨s,h,rfl⟩:=h
 exact⟨s,h.upd x hn,rfl⟩
theorem bK8(h:LF B w v l F)(hq0:0<=q)(hq1:q+(XL l:Nat)<=4611686018427387904):Calls Tryz.prog 161 #[v,.int .i64 q] w (IX w F (.int .i64 (q+(XL l:Nat))) fun w'=>TW B w' v l F q):=bF9 h hq0 hq1
end
def WO(l:List Bool):Nat:=l.length
def QL(B:Nat)(w:World)(v:Value)(l:List Bool)(F:List Nat)(q:Int):Prop:=Own B 4 1 w v ((aL0 q l.length).map .bool)/\F=Ep [v]
section
variable {B B':Nat} {w w':World} {v:Value} {l:List Bool} {F:List Nat} {q:Int}
theorem QL.ext(h:QL B w v l F q)(x:Ext w w'):QL B w' v l F q:=⟨Own.ext h.1 x,h.2⟩
theorem QL.upd(h:QL B w v l F q){fs:List Nat}(x:Upd w w' fs)(hn:∀k,k ∈ F->k ∈ fs->False):QL B w' v l F q:=by
 obtain⟨h,rfl⟩:=h
 exact⟨Own.upd h x (fun k e hk=>hn k (by simp[Ep,e]) hk),rfl⟩
theorem IR.upd(h:IR B w v l F){fs:List Nat}(x:Upd w w' fs)(hn:∀k,k ∈ F->k ∈ fs->False):IR B w' v l F:=by
 obtain⟨h,rfl⟩:=h
 exact⟨Own.upd h x (fun k e hk=>hn k (by simp[Ep,e]) hk),rfl⟩
theorem aX8(h:IR B w v l F)(hq0:0<=q)(hq1:q+(WO l:Nat)<=4611686018427387904):Calls Tryz.prog 64 #[v,.int .i64 q] w (IX w F (.int .i64 (q+(WO l:Nat))) fun w'=>QL B w' v l F q):=by
 obtain⟨h,rfl⟩:=h
 refine(aR4 w B v _ l.length rfl q h hq0 hq1).mono ?_
 rintro e w'⟨rfl,hx,g⟩
 exact⟨rfl,hx,g,rfl⟩
end
theorem RV.upd{B:Nat}{w w':World}{v:Value}{d:EI}{F:List Nat}{q:Int}(h:RV B w v d F q){fs:List Nat}(x:Upd w w' fs)(hn:∀k,k ∈ F->k ∈ fs->False):RV B w' v d F q:=by
 obtain⟨t0,t1,s0,s1,e,h0,h1,rfl⟩:=h
 exact⟨t0,t1,s0,s1,e,h0.upd x (fun k h=>hn k (List.mem_append_left _ h)),h1.upd x (fun k h=>hn k (List.mem_append_right _ h)),rfl⟩
def NW(B:Nat)(w:World)(v:Value)(s:EW)(F:List Nat)(q:Int):Prop:=∀w' fs,Upd w w' fs->(∀k,k ∈ F->k ∈ fs->False)->YU B w' v s F q
section
variable {B B':Nat} {w w':World} {v:Value} {s:EW} {F:List Nat} {q:Int}
theorem NW.upd(h:NW B w v s F q){fs:List Nat}(x:Upd w w' fs)(hn:∀k,k ∈ F->k ∈ fs->False):NW B w' v s F q:=fun w2 gs y hy=>h w2 (fs++gs) ((x.more (fun a ha=>List.mem_append_left _ ha)).trans (y.more (fun a ha=>List.mem_append_right _ ha))) (fun a ha hb=>(List.mem_append.1 hb).elim (hn a ha) (hy a ha))
theorem NW.ext(h:NW B w v s F q)(x:Ext w w'):NW B w' v s F q:=h.upd (x.upd []) (fun _ _ h=>by cases h)
theorem aR6(h:DG B w v s F)(hq0:0<=q)(hq1:q+(NI s:Nat)<=4611686018427387904):Calls Tryz.prog 60 #[v,.int .i64 q] w (IX w F (.int .i64 (q+(NI s:Nat))) fun w'=>NW B w' v s F q):=by
 obtain⟨t0,t1,t4,t5,s0,s1,rfl,h0,h1,h4,h5,hd,rfl⟩:=h
 have a04:=VX h0 h4 dC dC;have a05:=VX h0 h5 dC dC
 have a14:=VX h1 h4 dC dC;have a15:=VX h1 h5 dC dC
 unfold NI at hq1 ⊢
 refine(aP0 w B t0 _ s0 t1 _ s1 _ _ t4 _ s.State.Pairs.length (DJ _) t5 _ s.State.Jobs.length (FM _) _ _ _ _ _ _ q h0 h1 h4 h5 hd (fun k hk hk'=>?_) (cD6 h4 h5 dC) hq0 oM).mono ?_
 .
  rcases List.mem_append.1 hk with h|h <;> rcases List.mem_append.1 hk' with h'|h'
  .
   exact a04 k h h'
  .
   exact a05 k h h'
  .
   exact a14 k h h'
  exact a15 k h h'
 rintro e w'⟨rfl,hx,g0,g1,g4,g5⟩
 refine⟨congrArg (fun z:Int=>Ending.returned (Value.int .i64 z)) oM,hx,fun w2 fs x hn=>⟨t0,t1,t4,t5,s0,s1,rfl,?_,?_,?_,?_⟩⟩
 .
  exact g0.upd x (fun k h=>hn k (List.mem_append_left _ (List.mem_append_left _ h)))
 .
  exact g1.upd x (fun k h=>hn k (List.mem_append_left _ (List.mem_append_right _ h)))
 .
  exact Ba.upd' g4 x (fun k h=>hn k (List.mem_append_right _ (List.mem_append_left _ h)))
 exact Ba.upd' g5 x (fun k h=>hn k (List.mem_append_right _ (List.mem_append_right _ h)))
end
def TX(d:MV):Nat:=UT d.A+UT d.B
def YG(B:Nat)(w:World)(v:Value)(d:MV)(F:List Nat)(q:Int):Prop:=∃p0:List Value,∃p1:List Value,∃F0:List Nat,∃F1:List Nat,v=.agg (p0++(p1++[])).toArray/\p0.length=2/\p1.length=2/\RV B w (.agg p0.toArray) d.A F0 (q)/\RV B w (.agg p1.toArray) d.B F1 (q+(UT d.A:Nat))/\F=F0++F1
section
variable {B B':Nat} {w w':World} {v:Value} {d:MV} {F:List Nat} {q:Int}
theorem YG.ext(h:YG B w v d F q)(x:Ext w w'):YG B w' v d F q:=by
 obtain⟨p0,p1,F0,F1,e,l0,l1,m0,m1,hF⟩:=h
 exact⟨p0,p1,F0,F1,e,l0,l1,m0.ext x,m1.ext x,hF⟩
theorem YG.upd(h:YG B w v d F q){fs:List Nat}(x:Upd w w' fs)(hn:∀k,k ∈ F->k ∈ fs->False):YG B w' v d F q:=by
 obtain⟨p0,p1,F0,F1,e,l0,l1,m0,m1,rfl⟩:=h
 exact⟨p0,p1,F0,F1,e,l0,l1,m0.upd x (fun k h=>hn k (by simp[h])),m1.upd x (fun k h=>hn k (by simp[h])),rfl⟩
theorem OM.upd(h:OM B w v d F){fs:List Nat}(x:Upd w w' fs)(hn:∀k,k ∈ F->k ∈ fs->False):OM B w' v d F:=by
 obtain⟨p0,p1,F0,F1,e,l0,l1,g0,g1,hdj,rfl⟩:=h
 exact⟨p0,p1,F0,F1,e,l0,l1,g0.upd x (fun k h=>hn k (by simp[h])),g1.upd x (fun k h=>hn k (by simp[h])),hdj,rfl⟩
theorem bV9(h:OM B w v d F)(hq0:0<=q)(hq1:q+(TX d:Nat)<=4611686018427387904):Calls Tryz.prog 152 #[v,.int .i64 q] w (IX w F (.int .i64 (q+(TX d:Nat))) fun w'=>YG B w' v d F q):=by
 obtain⟨p0,p1,F0,F1,rfl,l0,l1,g0,g1,hdj,rfl⟩:=h
 unfold TX at hq1 ⊢
 have aD1:∀k,k ∈ F0->k ∈ F1->False:=BE hdj 0 1 oM (by simp)
 have f0:w.heap.size ∉ F0:=fun h=>by have:=(g0.low _ h).2;omega
 have f1:w.heap.size ∉ F1:=fun h=>by have:=(g1.low _ h).2;omega
 obtain⟨L,hL⟩:∃L:List Value,L=(p0++(p1++[])):=⟨_,rfl⟩
 rw[<-hL]
 obtain⟨W0,hW0⟩:∃W0,W0=w.alloc (.cells L.toArray 72):=⟨_,rfl⟩
 have E0:Ext w W0:=by rw[hW0];exact(Ext.refl _).alloc _
 have r:W0.rangeAt w.heap.size 0 L:=by rw[hW0];exact(Bk.new _ _ _).ra
 rw[hL] at r
 obtain⟨R0,r⟩:=An (m:=2) r l0 rfl
 obtain⟨R1,r⟩:=An (m:=4) r l1 rfl
 clear r 
 have HL:=Lib.hid hL;clear hL
 go_enter Tryz.func152,Tryz.ntmps152
 go_upto_region 1 with(fail)
 rw[<-hW0]
 clear hW0
 have g0:=g0.upd (E0.upd []) (fun _ _ h=>by cases h)
 have g1:=g1.upd (E0.upd []) (fun _ _ h=>by cases h)
 have U0:Upd w W0 (F0++F1):=E0.upd _
 go_wp2_with (first|(refine wpList_load_mid rfl 70 _ rfl (w.heap.size) 0 (by rfl) p0 _ R0 Tryz.underlying70 rfl (by rw[l0];kernel_rfl) ?_))
 refine(aF2 g0 (q:=q) oM oM).mono ?_
 rintro e w0⟨rfl,x0,m0⟩
 obtain⟨z0,hz0⟩:∃z,z=q+(UT d.A:Nat):=⟨_,rfl⟩
 rw[<-hz0]
 have y0:=Int.le_of_eq hz0;have v0:=Int.le_of_eq hz0.symm;have Hz0:=Lib.hid hz0;clear hz0
 have g1:=g1.upd x0 (fun k a b=>aD1 k b a)
 have R1:=Xg R1 x0 f0
 have U1:=U0.trans (x0.more (fun k h=>by simp[h]))
 clear R0
 go_wp2_with (first|(refine wpList_load_mid rfl 70 _ rfl (w.heap.size) 2 (by rfl) p1 _ R1 Tryz.underlying70 rfl (by rw[l1];kernel_rfl) ?_))
 refine(aF2 g1 (q:=z0) oM oM).mono ?_
 rintro e w1⟨rfl,x1,m1⟩
 obtain⟨z1,hz1⟩:∃z,z=z0+(UT d.B:Nat):=⟨_,rfl⟩
 rw[<-hz1]
 have y1:=Int.le_of_eq hz1;have v1:=Int.le_of_eq hz1.symm;have Hz1:=Lib.hid hz1;clear hz1
 have m0:=m0.upd x1 (fun k a b=>aD1 k a b)
 have UZ:=U1.trans (x1.more (fun k h=>by simp[h]))
 clear R1
 go_wp2_with fail
 go_ret
 have hL:=HL.out
 subst hL
 have hz1:=Hz1.out
 subst hz1
 have hz0:=Hz0.out
 subst hz0
 exact⟨congrArg (fun z:Int=>Ending.returned (Value.int .i64 z)) oM,UZ,p0,p1,F0,F1,rfl,l0,l1,m0,m1,rfl⟩
end
def ME(d:wG):Nat:=QI d.Seen
def SH(B:Nat)(w:World)(v:Value)(d:wG)(F:List Nat)(q:Int):Prop:=∃t3:Value,∃F3:List Nat,v=.agg ([Value.int .i64 d.Num]++([Value.int .i64 d.Base]++([Value.int .i64 d.Time]++([t3]++[])))).toArray/\OT B w t3 d.Seen F3 (q)/\F=F3
section
variable {B B':Nat} {w w':World} {v:Value} {d:wG} {F:List Nat} {q:Int}
theorem SH.ext(h:SH B w v d F q)(x:Ext w w'):SH B w' v d F q:=by
 obtain⟨t3,F3,e,m3,hF⟩:=h
 exact⟨t3,F3,e,m3.ext x,hF⟩
theorem SH.upd(h:SH B w v d F q){fs:List Nat}(x:Upd w w' fs)(hn:∀k,k ∈ F->k ∈ fs->False):SH B w' v d F q:=by
 obtain⟨t3,F3,e,m3,hF⟩:=h
 obtain rfl:F3=F:=hF.symm
 exact⟨t3,F3,e,m3.upd x (fun k h=>hn k (by simp[h])),rfl⟩
theorem JY.upd(h:JY B w v d F){fs:List Nat}(x:Upd w w' fs)(hn:∀k,k ∈ F->k ∈ fs->False):JY B w' v d F:=by
 obtain⟨t3,F3,e,g3,hdj,hF⟩:=h
 obtain rfl:F3=F:=hF.symm
 exact⟨t3,F3,e,g3.upd x (fun k h=>hn k (by simp[h])),hdj,rfl⟩
theorem aG8(h:JY B w v d F)(hq0:0<=q)(hq1:q+(ME d:Nat)<=4611686018427387904):Calls Tryz.prog 153 #[v,.int .i64 q] w (IX w F (.int .i64 (q+(ME d:Nat))) fun w'=>SH B w' v d F q):=by
 obtain⟨t3,F3,rfl,g3,hdj,hF⟩:=h
 obtain rfl:F3=F:=hF.symm
 unfold ME at hq1 ⊢
 have f3:w.heap.size ∉ F3:=fun h=>by have:=(g3.low _ h).2;omega
 obtain⟨L,hL⟩:∃L:List Value,L=([Value.int .i64 d.Num]++([Value.int .i64 d.Base]++([Value.int .i64 d.Time]++([t3]++[])))):=⟨_,rfl⟩
 rw[<-hL]
 obtain⟨W0,hW0⟩:∃W0,W0=w.alloc (.cells L.toArray 75):=⟨_,rfl⟩
 have E0:Ext w W0:=by rw[hW0];exact(Ext.refl _).alloc _
 have r:W0.rangeAt w.heap.size 0 L:=by rw[hW0];exact(Bk.new _ _ _).ra
 rw[hL] at r
 obtain⟨R0,r⟩:=An (m:=1) r rfl rfl
 have R0:=Az R0
 obtain⟨R1,r⟩:=An (m:=2) r rfl rfl
 have R1:=Az R1
 obtain⟨R2,r⟩:=An (m:=3) r rfl rfl
 have R2:=Az R2
 obtain⟨R3,r⟩:=An (m:=4) r rfl rfl
 have R3:=Az R3
 clear r R0 R1 R2
 have HL:=Lib.hid hL;clear hL
 go_enter Tryz.func153,Tryz.ntmps153
 go_upto_region 1 with(fail)
 rw[<-hW0]
 clear hW0
 have g3:=g3.upd (E0.upd []) (fun _ _ h=>by cases h)
 have U3:Upd w W0 (F3):=E0.upd _
 go_wp2_with fail
 refine(aB2 g3 (q:=q) oM oM).mono ?_
 rintro e w3⟨rfl,x3,m3⟩
 obtain⟨z3,hz3⟩:∃z,z=q+(QI d.Seen:Nat):=⟨_,rfl⟩
 rw[<-hz3]
 have y3:=Int.le_of_eq hz3;have v3:=Int.le_of_eq hz3.symm;have Hz3:=Lib.hid hz3;clear hz3
 have UZ:=U3.trans (x3.more (fun k h=>by simp[h]))
 clear R3
 go_wp2_with fail
 go_ret
 have hL:=HL.out
 subst hL
 have hz3:=Hz3.out
 subst hz3
 exact⟨congrArg (fun z:Int=>Ending.returned (Value.int .i64 z)) oM,UZ,t3,F3,rfl,m3,rfl⟩
end
def TY(d:iY):Nat:=TV d.Entries
def TZ(B:Nat)(w:World)(v:Value)(d:iY)(F:List Nat)(q:Int):Prop:=∃t2:Value,∃F2:List Nat,v=.agg ([Value.int .i64 d.Base]++([Value.int .i64 d.Time]++([t2]++[]))).toArray/\NV B w t2 d.Entries F2 (q)/\F=F2
section
variable {B B':Nat} {w w':World} {v:Value} {d:iY} {F:List Nat} {q:Int}
theorem TZ.ext(h:TZ B w v d F q)(x:Ext w w'):TZ B w' v d F q:=by
 obtain⟨t2,F2,e,m2,hF⟩:=h
 exact⟨t2,F2,e,m2.ext x,hF⟩
theorem TZ.upd(h:TZ B w v d F q){fs:List Nat}(x:Upd w w' fs)(hn:∀k,k ∈ F->k ∈ fs->False):TZ B w' v d F q:=by
 obtain⟨t2,F2,e,m2,hF⟩:=h
 obtain rfl:F2=F:=hF.symm
 exact⟨t2,F2,e,m2.upd x (fun k h=>hn k (by simp[h])),rfl⟩
theorem LH.upd(h:LH B w v d F){fs:List Nat}(x:Upd w w' fs)(hn:∀k,k ∈ F->k ∈ fs->False):LH B w' v d F:=by
 obtain⟨t2,F2,e,g2,hdj,hF⟩:=h
 obtain rfl:F2=F:=hF.symm
 exact⟨t2,F2,e,g2.upd x (fun k h=>hn k (by simp[h])),hdj,rfl⟩
theorem bK9(h:LH B w v d F)(hq0:0<=q)(hq1:q+(TY d:Nat)<=4611686018427387904):Calls Tryz.prog 154 #[v,.int .i64 q] w (IX w F (.int .i64 (q+(TY d:Nat))) fun w'=>TZ B w' v d F q):=by
 obtain⟨t2,F2,rfl,g2,hdj,hF⟩:=h
 obtain rfl:F2=F:=hF.symm
 unfold TY at hq1 ⊢
 have f2:w.heap.size ∉ F2:=fun h=>by have:=(g2.low _ h).2;omega
 obtain⟨L,hL⟩:∃L:List Value,L=([Value.int .i64 d.Base]++([Value.int .i64 d.Time]++([t2]++[]))):=⟨_,rfl⟩
 rw[<-hL]
 obtain⟨W0,hW0⟩:∃W0,W0=w.alloc (.cells L.toArray 78):=⟨_,rfl⟩
 have E0:Ext w W0:=by rw[hW0];exact(Ext.refl _).alloc _
 have r:W0.rangeAt w.heap.size 0 L:=by rw[hW0];exact(Bk.new _ _ _).ra
 rw[hL] at r
 obtain⟨R0,r⟩:=An (m:=1) r rfl rfl
 have R0:=Az R0
 obtain⟨R1,r⟩:=An (m:=2) r rfl rfl
 have R1:=Az R1
 obtain⟨R2,r⟩:=An (m:=3) r rfl rfl
 have R2:=Az R2
 clear r R0 R1
 have HL:=Lib.hid hL;clear hL
 go_enter Tryz.func154,Tryz.ntmps154
 go_upto_region 1 with(fail)
 rw[<-hW0]
 clear hW0
 have g2:=g2.upd (E0.upd []) (fun _ _ h=>by cases h)
 have U2:Upd w W0 (F2):=E0.upd _
 go_wp2_with fail
 refine(aR5 g2 (q:=q) oM oM).mono ?_
 rintro e w2⟨rfl,x2,m2⟩
 obtain⟨z2,hz2⟩:∃z,z=q+(TV d.Entries:Nat):=⟨_,rfl⟩
 rw[<-hz2]
 have y2:=Int.le_of_eq hz2;have v2:=Int.le_of_eq hz2.symm;have Hz2:=Lib.hid hz2;clear hz2
 have UZ:=U2.trans (x2.more (fun k h=>by simp[h]))
 clear R2
 go_wp2_with fail
 go_ret
 have hL:=HL.out
 subst hL
 have hz2:=Hz2.out
 subst hz2
 exact⟨congrArg (fun z:Int=>Ending.returned (Value.int .i64 z)) oM,UZ,t2,F2,rfl,m2,rfl⟩
end
def GV(d:AN):Nat:=UQ d.Todo+aB4 d.Gots
def NA(B:Nat)(w:World)(v:Value)(d:AN)(F:List Nat)(q:Int):Prop:=∃t1:Value,∃t2:Value,∃F1:List Nat,∃F2:List Nat,v=.agg ([Value.int .i64 d.Id]++([t1]++([t2]++([Value.int .i64 d.Last]++[])))).toArray/\QJ B w t1 d.Todo F1 (q)/\TU B w t2 d.Gots F2 (q+(UQ d.Todo:Nat))/\F=F1++F2
section
variable {B B':Nat} {w w':World} {v:Value} {d:AN} {F:List Nat} {q:Int}
theorem NA.ext(h:NA B w v d F q)(x:Ext w w'):NA B w' v d F q:=by
 obtain⟨t1,t2,F1,F2,e,m1,m2,hF⟩:=h
 exact⟨t1,t2,F1,F2,e,m1.ext x,m2.ext x,hF⟩
theorem NA.upd(h:NA B w v d F q){fs:List Nat}(x:Upd w w' fs)(hn:∀k,k ∈ F->k ∈ fs->False):NA B w' v d F q:=by
 obtain⟨t1,t2,F1,F2,e,m1,m2,rfl⟩:=h
 exact⟨t1,t2,F1,F2,e,m1.upd x (fun k h=>hn k (by simp[h])),m2.upd x (fun k h=>hn k (by simp[h])),rfl⟩
theorem FV.upd(h:FV B w v d F){fs:List Nat}(x:Upd w w' fs)(hn:∀k,k ∈ F->k ∈ fs->False):FV B w' v d F:=by
 obtain⟨t1,t2,F1,F2,e,g1,g2,hdj,rfl⟩:=h
 exact⟨t1,t2,F1,F2,e,g1.upd x (fun k h=>hn k (by simp[h])),g2.upd x (fun k h=>hn k (by simp[h])),hdj,rfl⟩
theorem YH(h:FV B w v d F)(hq0:0<=q)(hq1:q+(GV d:Nat)<=4611686018427387904):Calls Tryz.prog 62 #[v,.int .i64 q] w (IX w F (.int .i64 (q+(GV d:Nat))) fun w'=>NA B w' v d F q):=by
 obtain⟨t1,t2,F1,F2,rfl,g1,g2,hdj,rfl⟩:=h
 unfold GV at hq1 ⊢
 have aT1:∀k,k ∈ F1->k ∈ F2->False:=BE hdj 0 1 oM (by simp)
 have f1:w.heap.size ∉ F1:=fun h=>by have:=(g1.low _ h).2;omega
 have f2:w.heap.size ∉ F2:=fun h=>by have:=(g2.low _ h).2;omega
 obtain⟨L,hL⟩:∃L:List Value,L=([Value.int .i64 d.Id]++([t1]++([t2]++([Value.int .i64 d.Last]++[])))):=⟨_,rfl⟩
 rw[<-hL]
 obtain⟨W0,hW0⟩:∃W0,W0=w.alloc (.cells L.toArray 100):=⟨_,rfl⟩
 have E0:Ext w W0:=by rw[hW0];exact(Ext.refl _).alloc _
 have r:W0.rangeAt w.heap.size 0 L:=by rw[hW0];exact(Bk.new _ _ _).ra
 rw[hL] at r
 obtain⟨R0,r⟩:=An (m:=1) r rfl rfl
 have R0:=Az R0
 obtain⟨R1,r⟩:=An (m:=2) r rfl rfl
 have R1:=Az R1
 obtain⟨R2,r⟩:=An (m:=3) r rfl rfl
 have R2:=Az R2
 obtain⟨R3,r⟩:=An (m:=4) r rfl rfl
 have R3:=Az R3
 clear r R0 R3
 have HL:=Lib.hid hL;clear hL
 go_enter Tryz.func62,Tryz.ntmps62
 go_upto_region 1 with(fail)
 rw[<-hW0]
 clear hW0
 have g1:=g1.upd (E0.upd []) (fun _ _ h=>by cases h)
 have g2:=g2.upd (E0.upd []) (fun _ _ h=>by cases h)
 have U1:Upd w W0 (F1++F2):=E0.upd _
 go_wp2_with fail
 refine(aX6 g1 (q:=q) oM oM).mono ?_
 rintro e w1⟨rfl,x1,m1⟩
 obtain⟨z1,hz1⟩:∃z,z=q+(UQ d.Todo:Nat):=⟨_,rfl⟩
 rw[<-hz1]
 have y1:=Int.le_of_eq hz1;have v1:=Int.le_of_eq hz1.symm;have Hz1:=Lib.hid hz1;clear hz1
 have g2:=g2.upd x1 (fun k a b=>aT1 k b a)
 have R2:=wX R2 x1 f1
 have U2:=U1.trans (x1.more (fun k h=>by simp[h]))
 clear R1
 go_wp2_with fail
 refine(bK7 g2 (q:=z1) oM oM).mono ?_
 rintro e w2⟨rfl,x2,m2⟩
 obtain⟨z2,hz2⟩:∃z,z=z1+(aB4 d.Gots:Nat):=⟨_,rfl⟩
 rw[<-hz2]
 have y2:=Int.le_of_eq hz2;have v2:=Int.le_of_eq hz2.symm;have Hz2:=Lib.hid hz2;clear hz2
 have m1:=m1.upd x2 (fun k a b=>aT1 k a b)
 have UZ:=U2.trans (x2.more (fun k h=>by simp[h]))
 clear R2
 go_wp2_with fail
 go_ret
 have hL:=HL.out
 subst hL
 have hz2:=Hz2.out
 subst hz2
 have hz1:=Hz1.out
 subst hz1
 exact⟨congrArg (fun z:Int=>Ending.returned (Value.int .i64 z)) oM,UZ,t1,t2,F1,F2,rfl,m1,m2,rfl⟩
end
def YI(d:KO):Nat:=XL d.Flight+WN d.Cuts
def YJ(B:Nat)(w:World)(v:Value)(d:KO)(F:List Nat)(q:Int):Prop:=∃t0:Value,∃t1:Value,∃F0:List Nat,∃F1:List Nat,v=.agg ([t0]++([t1]++[])).toArray/\TW B w t0 d.Flight F0 (q)/\QK B w t1 d.Cuts F1 (q+(XL d.Flight:Nat))/\F=F0++F1
section
variable {B B':Nat} {w w':World} {v:Value} {d:KO} {F:List Nat} {q:Int}
theorem YJ.ext(h:YJ B w v d F q)(x:Ext w w'):YJ B w' v d F q:=by
 obtain⟨t0,t1,F0,F1,e,m0,m1,hF⟩:=h
 exact⟨t0,t1,F0,F1,e,m0.ext x,m1.ext x,hF⟩
theorem YJ.upd(h:YJ B w v d F q){fs:List Nat}(x:Upd w w' fs)(hn:∀k,k ∈ F->k ∈ fs->False):YJ B w' v d F q:=by
 obtain⟨t0,t1,F0,F1,e,m0,m1,rfl⟩:=h
 exact⟨t0,t1,F0,F1,e,m0.upd x (fun k h=>hn k (by simp[h])),m1.upd x (fun k h=>hn k (by simp[h])),rfl⟩
theorem ON.upd(h:ON B w v d F){fs:List Nat}(x:Upd w w' fs)(hn:∀k,k ∈ F->k ∈ fs->False):ON B w' v d F:=by
 obtain⟨t0,t1,F0,F1,e,g0,g1,hdj,rfl⟩:=h
 exact⟨t0,t1,F0,F1,e,g0.upd x (fun k h=>hn k (by simp[h])),g1.upd x (fun k h=>hn k (by simp[h])),hdj,rfl⟩
theorem bW0(h:ON B w v d F)(hq0:0<=q)(hq1:q+(YI d:Nat)<=4611686018427387904):Calls Tryz.prog 63 #[v,.int .i64 q] w (IX w F (.int .i64 (q+(YI d:Nat))) fun w'=>YJ B w' v d F q):=by
 obtain⟨t0,t1,F0,F1,rfl,g0,g1,hdj,rfl⟩:=h
 unfold YI at hq1 ⊢
 have aD1:∀k,k ∈ F0->k ∈ F1->False:=BE hdj 0 1 oM (by simp)
 have f0:w.heap.size ∉ F0:=fun h=>by have:=(g0.low _ h).2;omega
 have f1:w.heap.size ∉ F1:=fun h=>by have:=(g1.low _ h).2;omega
 obtain⟨L,hL⟩:∃L:List Value,L=([t0]++([t1]++[])):=⟨_,rfl⟩
 rw[<-hL]
 obtain⟨W0,hW0⟩:∃W0,W0=w.alloc (.cells L.toArray 104):=⟨_,rfl⟩
 have E0:Ext w W0:=by rw[hW0];exact(Ext.refl _).alloc _
 have r:W0.rangeAt w.heap.size 0 L:=by rw[hW0];exact(Bk.new _ _ _).ra
 rw[hL] at r
 obtain⟨R0,r⟩:=An (m:=1) r rfl rfl
 have R0:=Az R0
 obtain⟨R1,r⟩:=An (m:=2) r rfl rfl
 have R1:=Az R1
 clear r 
 have HL:=Lib.hid hL;clear hL
 go_enter Tryz.func63,Tryz.ntmps63
 go_upto_region 1 with(fail)
 rw[<-hW0]
 clear hW0
 have g0:=g0.upd (E0.upd []) (fun _ _ h=>by cases h)
 have g1:=g1.upd (E0.upd []) (fun _ _ h=>by cases h)
 have U0:Upd w W0 (F0++F1):=E0.upd _
 go_wp2_with fail
 refine(bK8 g0 (q:=q) oM oM).mono ?_
 rintro e w0⟨rfl,x0,m0⟩
 obtain⟨z0,hz0⟩:∃z,z=q+(XL d.Flight:Nat):=⟨_,rfl⟩
 rw[<-hz0]
 have y0:=Int.le_of_eq hz0;have v0:=Int.le_of_eq hz0.symm;have Hz0:=Lib.hid hz0;clear hz0
 have g1:=g1.upd x0 (fun k a b=>aD1 k b a)
 have R1:=wX R1 x0 f0
 have U1:=U0.trans (x0.more (fun k h=>by simp[h]))
 clear R0
 go_wp2_with fail
 refine(aX7 g1 (q:=z0) oM oM).mono ?_
 rintro e w1⟨rfl,x1,m1⟩
 obtain⟨z1,hz1⟩:∃z,z=z0+(WN d.Cuts:Nat):=⟨_,rfl⟩
 rw[<-hz1]
 have y1:=Int.le_of_eq hz1;have v1:=Int.le_of_eq hz1.symm;have Hz1:=Lib.hid hz1;clear hz1
 have m0:=m0.upd x1 (fun k a b=>aD1 k a b)
 have UZ:=U1.trans (x1.more (fun k h=>by simp[h]))
 clear R1
 go_wp2_with fail
 go_ret
 have hL:=HL.out
 subst hL
 have hz1:=Hz1.out
 subst hz1
 have hz0:=Hz0.out
 subst hz0
 exact⟨congrArg (fun z:Int=>Ending.returned (Value.int .i64 z)) oM,UZ,t0,t1,F0,F1,rfl,m0,m1,rfl⟩
end
def QM(d:Bh):Nat:=TX d.Two+ME d.Head+ME d.Next+TY d.Book+QI d.Seen+aB3 d.Owe
def YK(B:Nat)(w:World)(v:Value)(d:Bh)(F:List Nat)(q:Int):Prop:=∃p0:List Value,∃p1:List Value,∃p2:List Value,∃p4:List Value,∃t5:Value,∃t7:Value,∃F0:List Nat,∃F1:List Nat,∃F2:List Nat,∃F4:List Nat,∃F5:List Nat,∃F7:List Nat,v=.agg (p0++(p1++(p2++([Value.bool d.More]++(p4++([t5]++([Value.int .i64 d.Durable]++([t7]++[])))))))).toArray/\p0.length=4/\p1.length=4/\p2.length=4/\p4.length=3/\YG B w (.agg p0.toArray) d.Two F0 (q)/\SH B w (.agg p1.toArray) d.Head F1 (q+(TX d.Two:Nat))/\SH B w (.agg p2.toArray) d.Next F2 (q+(TX d.Two:Nat)+(ME d.Head:Nat))/\TZ B w (.agg p4.toArray) d.Book F4 (q+(TX d.Two:Nat)+(ME d.Head:Nat)+(ME d.Next:Nat))/\OT B w t5 d.Seen F5 (q+(TX d.Two:Nat)+(ME d.Head:Nat)+(ME d.Next:Nat)+(TY d.Book:Nat))/\TT B w t7 d.Owe F7 (q+(TX d.Two:Nat)+(ME d.Head:Nat)+(ME d.Next:Nat)+(TY d.Book:Nat)+(QI d.Seen:Nat))/\F=F0++F1++F2++F4++F5++F7
section
variable {B B':Nat} {w w':World} {v:Value} {d:Bh} {F:List Nat} {q:Int}
theorem YK.ext(h:YK B w v d F q)(x:Ext w w'):YK B w' v d F q:=by
 obtain⟨p0,p1,p2,p4,t5,t7,F0,F1,F2,F4,F5,F7,e,l0,l1,l2,l4,m0,m1,m2,m4,m5,m7,hF⟩:=h
 exact⟨p0,p1,p2,p4,t5,t7,F0,F1,F2,F4,F5,F7,e,l0,l1,l2,l4,m0.ext x,m1.ext x,m2.ext x,m4.ext x,m5.ext x,m7.ext x,hF⟩
theorem YK.upd(h:YK B w v d F q){fs:List Nat}(x:Upd w w' fs)(hn:∀k,k ∈ F->k ∈ fs->False):YK B w' v d F q:=by
 obtain⟨p0,p1,p2,p4,t5,t7,F0,F1,F2,F4,F5,F7,e,l0,l1,l2,l4,m0,m1,m2,m4,m5,m7,rfl⟩:=h
 exact⟨p0,p1,p2,p4,t5,t7,F0,F1,F2,F4,F5,F7,e,l0,l1,l2,l4,m0.upd x (fun k h=>hn k (by simp[h])),m1.upd x (fun k h=>hn k (by simp[h])),m2.upd x (fun k h=>hn k (by simp[h])),m4.upd x (fun k h=>hn k (by simp[h])),m5.upd x (fun k h=>hn k (by simp[h])),m7.upd x (fun k h=>hn k (by simp[h])),rfl⟩
theorem OO.upd(h:OO B w v d F){fs:List Nat}(x:Upd w w' fs)(hn:∀k,k ∈ F->k ∈ fs->False):OO B w' v d F:=by
 obtain⟨p0,p1,p2,p4,t5,t7,F0,F1,F2,F4,F5,F7,e,l0,l1,l2,l4,g0,g1,g2,g4,g5,g7,hdj,rfl⟩:=h
 exact⟨p0,p1,p2,p4,t5,t7,F0,F1,F2,F4,F5,F7,e,l0,l1,l2,l4,g0.upd x (fun k h=>hn k (by simp[h])),g1.upd x (fun k h=>hn k (by simp[h])),g2.upd x (fun k h=>hn k (by simp[h])),g4.upd x (fun k h=>hn k (by simp[h])),g5.upd x (fun k h=>hn k (by simp[h])),g7.upd x (fun k h=>hn k (by simp[h])),hdj,rfl⟩
theorem bW1(h:OO B w v d F)(hq0:0<=q)(hq1:q+(QM d:Nat)<=4611686018427387904):Calls Tryz.prog 59 #[v,.int .i64 q] w (IX w F (.int .i64 (q+(QM d:Nat))) fun w'=>YK B w' v d F q):=by
 obtain⟨p0,p1,p2,p4,t5,t7,F0,F1,F2,F4,F5,F7,rfl,l0,l1,l2,l4,g0,g1,g2,g4,g5,g7,hdj,rfl⟩:=h
 unfold QM at hq1 ⊢
 have aD1:∀k,k ∈ F0->k ∈ F1->False:=BE hdj 0 1 oM (by simp)
 have cA1:∀k,k ∈ F0->k ∈ F2->False:=BE hdj 0 2 oM (by simp)
 have cA2:∀k,k ∈ F0->k ∈ F4->False:=BE hdj 0 3 oM (by simp)
 have cA3:∀k,k ∈ F0->k ∈ F5->False:=BE hdj 0 4 oM (by simp)
 have cA4:∀k,k ∈ F0->k ∈ F7->False:=BE hdj 0 5 oM (by simp)
 have aT1:∀k,k ∈ F1->k ∈ F2->False:=BE hdj 1 2 oM (by simp)
 have cA5:∀k,k ∈ F1->k ∈ F4->False:=BE hdj 1 3 oM (by simp)
 have cA6:∀k,k ∈ F1->k ∈ F5->False:=BE hdj 1 4 oM (by simp)
 have cA7:∀k,k ∈ F1->k ∈ F7->False:=BE hdj 1 5 oM (by simp)
 have cA8:∀k,k ∈ F2->k ∈ F4->False:=BE hdj 2 3 oM (by simp)
 have cA9:∀k,k ∈ F2->k ∈ F5->False:=BE hdj 2 4 oM (by simp)
 have cB0:∀k,k ∈ F2->k ∈ F7->False:=BE hdj 2 5 oM (by simp)
 have cB1:∀k,k ∈ F4->k ∈ F5->False:=BE hdj 3 4 oM (by simp)
 have cB2:∀k,k ∈ F4->k ∈ F7->False:=BE hdj 3 5 oM (by simp)
 have cB3:∀k,k ∈ F5->k ∈ F7->False:=BE hdj 4 5 oM (by simp)
 have f0:w.heap.size ∉ F0:=fun h=>by have:=(g0.low _ h).2;omega
 have f1:w.heap.size ∉ F1:=fun h=>by have:=(g1.low _ h).2;omega
 have f2:w.heap.size ∉ F2:=fun h=>by have:=(g2.low _ h).2;omega
 have f4:w.heap.size ∉ F4:=fun h=>by have:=(g4.low _ h).2;omega
 have f5:w.heap.size ∉ F5:=fun h=>by have:=(g5.low _ h).2;omega
 have f7:w.heap.size ∉ F7:=fun h=>by have:=(g7.low _ h).2;omega
 obtain⟨L,hL⟩:∃L:List Value,L=(p0++(p1++(p2++([Value.bool d.More]++(p4++([t5]++([Value.int .i64 d.Durable]++([t7]++[])))))))):=⟨_,rfl⟩
 rw[<-hL]
 obtain⟨W0,hW0⟩:∃W0,W0=w.alloc (.cells L.toArray 81):=⟨_,rfl⟩
 have E0:Ext w W0:=by rw[hW0];exact(Ext.refl _).alloc _
 have r:W0.rangeAt w.heap.size 0 L:=by rw[hW0];exact(Bk.new _ _ _).ra
 rw[hL] at r
 obtain⟨R0,r⟩:=An (m:=4) r l0 rfl
 obtain⟨R1,r⟩:=An (m:=8) r l1 rfl
 obtain⟨R2,r⟩:=An (m:=12) r l2 rfl
 obtain⟨R3,r⟩:=An (m:=13) r rfl rfl
 have R3:=Az R3
 obtain⟨R4,r⟩:=An (m:=16) r l4 rfl
 obtain⟨R5,r⟩:=An (m:=17) r rfl rfl
 have R5:=Az R5
 obtain⟨R6,r⟩:=An (m:=18) r rfl rfl
 have R6:=Az R6
 obtain⟨R7,r⟩:=An (m:=19) r rfl rfl
 have R7:=Az R7
 clear r R3 R6
 have HL:=Lib.hid hL;clear hL
 go_enter Tryz.func59,Tryz.ntmps59
 go_upto_region 1 with(fail)
 rw[<-hW0]
 clear hW0
 have g0:=g0.upd (E0.upd []) (fun _ _ h=>by cases h)
 have g1:=g1.upd (E0.upd []) (fun _ _ h=>by cases h)
 have g2:=g2.upd (E0.upd []) (fun _ _ h=>by cases h)
 have g4:=g4.upd (E0.upd []) (fun _ _ h=>by cases h)
 have g5:=g5.upd (E0.upd []) (fun _ _ h=>by cases h)
 have g7:=g7.upd (E0.upd []) (fun _ _ h=>by cases h)
 have U0:Upd w W0 (F0++F1++F2++F4++F5++F7):=E0.upd _
 go_wp2_with (first|(refine wpList_load_mid rfl 72 _ rfl (w.heap.size) 0 (by rfl) p0 _ R0 Tryz.underlying72 rfl (by rw[l0];kernel_rfl) ?_))
 refine(bV9 g0 (q:=q) oM oM).mono ?_
 rintro e w0⟨rfl,x0,m0⟩
 obtain⟨z0,hz0⟩:∃z,z=q+(TX d.Two:Nat):=⟨_,rfl⟩
 rw[<-hz0]
 have y0:=Int.le_of_eq hz0;have v0:=Int.le_of_eq hz0.symm;have Hz0:=Lib.hid hz0;clear hz0
 have g1:=g1.upd x0 (fun k a b=>aD1 k b a)
 have R1:=Xg R1 x0 f0
 have g2:=g2.upd x0 (fun k a b=>cA1 k b a)
 have R2:=Xg R2 x0 f0
 have g4:=g4.upd x0 (fun k a b=>cA2 k b a)
 have R4:=Xg R4 x0 f0
 have g5:=g5.upd x0 (fun k a b=>cA3 k b a)
 have R5:=wX R5 x0 f0
 have g7:=g7.upd x0 (fun k a b=>cA4 k b a)
 have R7:=wX R7 x0 f0
 have U1:=U0.trans (x0.more (fun k h=>by simp[h]))
 clear R0
 go_wp2_with (first|(refine wpList_load_mid rfl 75 _ rfl (w.heap.size) 4 (by rfl) p1 _ R1 Tryz.underlying75 rfl (by rw[l1];kernel_rfl) ?_))
 refine(aG8 g1 (q:=z0) oM oM).mono ?_
 rintro e w1⟨rfl,x1,m1⟩
 obtain⟨z1,hz1⟩:∃z,z=z0+(ME d.Head:Nat):=⟨_,rfl⟩
 rw[<-hz1]
 have y1:=Int.le_of_eq hz1;have v1:=Int.le_of_eq hz1.symm;have Hz1:=Lib.hid hz1;clear hz1
 have m0:=m0.upd x1 (fun k a b=>aD1 k a b)
 have g2:=g2.upd x1 (fun k a b=>aT1 k b a)
 have R2:=Xg R2 x1 f1
 have g4:=g4.upd x1 (fun k a b=>cA5 k b a)
 have R4:=Xg R4 x1 f1
 have g5:=g5.upd x1 (fun k a b=>cA6 k b a)
 have R5:=wX R5 x1 f1
 have g7:=g7.upd x1 (fun k a b=>cA7 k b a)
 have R7:=wX R7 x1 f1
 have U2:=U1.trans (x1.more (fun k h=>by simp[h]))
 clear R1
 go_wp2_with (first|(refine wpList_load_mid rfl 75 _ rfl (w.heap.size) 8 (by rfl) p2 _ R2 Tryz.underlying75 rfl (by rw[l2];kernel_rfl) ?_))
 refine(aG8 g2 (q:=z1) oM oM).mono ?_
 rintro e w2⟨rfl,x2,m2⟩
 obtain⟨z2,hz2⟩:∃z,z=z1+(ME d.Next:Nat):=⟨_,rfl⟩
 rw[<-hz2]
 have y2:=Int.le_of_eq hz2;have v2:=Int.le_of_eq hz2.symm;have Hz2:=Lib.hid hz2;clear hz2
 have m0:=m0.upd x2 (fun k a b=>cA1 k a b)
 have m1:=m1.upd x2 (fun k a b=>aT1 k a b)
 have g4:=g4.upd x2 (fun k a b=>cA8 k b a)
 have R4:=Xg R4 x2 f2
 have g5:=g5.upd x2 (fun k a b=>cA9 k b a)
 have R5:=wX R5 x2 f2
 have g7:=g7.upd x2 (fun k a b=>cB0 k b a)
 have R7:=wX R7 x2 f2
 have U4:=U2.trans (x2.more (fun k h=>by simp[h]))
 clear R2
 go_wp2_with (first|(refine wpList_load_mid rfl 78 _ rfl (w.heap.size) 13 (by rfl) p4 _ R4 Tryz.underlying78 rfl (by rw[l4];kernel_rfl) ?_))
 refine(bK9 g4 (q:=z2) oM oM).mono ?_
 rintro e w4⟨rfl,x4,m4⟩
 obtain⟨z4,hz4⟩:∃z,z=z2+(TY d.Book:Nat):=⟨_,rfl⟩
 rw[<-hz4]
 have y4:=Int.le_of_eq hz4;have v4:=Int.le_of_eq hz4.symm;have Hz4:=Lib.hid hz4;clear hz4
 have m0:=m0.upd x4 (fun k a b=>cA2 k a b)
 have m1:=m1.upd x4 (fun k a b=>cA5 k a b)
 have m2:=m2.upd x4 (fun k a b=>cA8 k a b)
 have g5:=g5.upd x4 (fun k a b=>cB1 k b a)
 have R5:=wX R5 x4 f4
 have g7:=g7.upd x4 (fun k a b=>cB2 k b a)
 have R7:=wX R7 x4 f4
 have U5:=U4.trans (x4.more (fun k h=>by simp[h]))
 clear R4
 go_wp2_with fail
 refine(aB2 g5 (q:=z4) oM oM).mono ?_
 rintro e w5⟨rfl,x5,m5⟩
 obtain⟨z5,hz5⟩:∃z,z=z4+(QI d.Seen:Nat):=⟨_,rfl⟩
 rw[<-hz5]
 have y5:=Int.le_of_eq hz5;have v5:=Int.le_of_eq hz5.symm;have Hz5:=Lib.hid hz5;clear hz5
 have m0:=m0.upd x5 (fun k a b=>cA3 k a b)
 have m1:=m1.upd x5 (fun k a b=>cA6 k a b)
 have m2:=m2.upd x5 (fun k a b=>cA9 k a b)
 have m4:=m4.upd x5 (fun k a b=>cB1 k a b)
 have g7:=g7.upd x5 (fun k a b=>cB3 k b a)
 have R7:=wX R7 x5 f5
 have U7:=U5.trans (x5.more (fun k h=>by simp[h]))
 clear R5
 go_wp2_with fail
 refine(bK6 g7 (q:=z5) oM oM).mono ?_
 rintro e w7⟨rfl,x7,m7⟩
 obtain⟨z7,hz7⟩:∃z,z=z5+(aB3 d.Owe:Nat):=⟨_,rfl⟩
 rw[<-hz7]
 have y7:=Int.le_of_eq hz7;have v7:=Int.le_of_eq hz7.symm;have Hz7:=Lib.hid hz7;clear hz7
 have m0:=m0.upd x7 (fun k a b=>cA4 k a b)
 have m1:=m1.upd x7 (fun k a b=>cA7 k a b)
 have m2:=m2.upd x7 (fun k a b=>cB0 k a b)
 have m4:=m4.upd x7 (fun k a b=>cB2 k a b)
 have m5:=m5.upd x7 (fun k a b=>cB3 k a b)
 have UZ:=U7.trans (x7.more (fun k h=>by simp[h]))
 clear R7
 go_wp2_with fail
 go_ret
 have hL:=HL.out
 subst hL
 have hz7:=Hz7.out
 subst hz7
 have hz5:=Hz5.out
 subst hz5
 have hz4:=Hz4.out
 subst hz4
 have hz2:=Hz2.out
 subst hz2
 have hz1:=Hz1.out
 subst hz1
 have hz0:=Hz0.out
 subst hz0
 exact⟨congrArg (fun z:Int=>Ending.returned (Value.int .i64 z)) oM,UZ,p0,p1,p2,p4,t5,t7,F0,F1,F2,F4,F5,F7,rfl,l0,l1,l2,l4,m0,m1,m2,m4,m5,m7,rfl⟩
end
def UR(d:DU):Nat:=QM d.Log+NI d.Store+EK d.Left+EK d.Right+GV d.Ann+GV d.Bob+YI d.Net+LR d.Clocks+WO d.Up
def SI(B:Nat)(w:World)(v:Value)(d:DU)(F:List Nat)(q:Int):Prop:=∃p0:List Value,∃p1:List Value,∃p2:List Value,∃p3:List Value,∃p4:List Value,∃p5:List Value,∃p6:List Value,∃t7:Value,∃t8:Value,∃F0:List Nat,∃F1:List Nat,∃F2:List Nat,∃F3:List Nat,∃F4:List Nat,∃F5:List Nat,∃F6:List Nat,∃F7:List Nat,∃F8:List Nat,v=.agg (p0++(p1++(p2++(p3++(p4++(p5++(p6++([t7]++([t8]++[]))))))))).toArray/\p0.length=19/\p1.length=12/\p2.length=15/\p3.length=15/\p4.length=4/\p5.length=4/\p6.length=2/\YK B w (.agg p0.toArray) d.Log F0 (q)/\NW B w (.agg p1.toArray) d.Store F1 (q+(QM d.Log:Nat))/\OR B w (.agg p2.toArray) d.Left F2 (q+(QM d.Log:Nat)+(NI d.Store:Nat))/\OR B w (.agg p3.toArray) d.Right F3 (q+(QM d.Log:Nat)+(NI d.Store:Nat)+(EK d.Left:Nat))/\NA B w (.agg p4.toArray) d.Ann F4 (q+(QM d.Log:Nat)+(NI d.Store:Nat)+(EK d.Left:Nat)+(EK d.Right:Nat))/\NA B w (.agg p5.toArray) d.Bob F5 (q+(QM d.Log:Nat)+(NI d.Store:Nat)+(EK d.Left:Nat)+(EK d.Right:Nat)+(GV d.Ann:Nat))/\YJ B w (.agg p6.toArray) d.Net F6 (q+(QM d.Log:Nat)+(NI d.Store:Nat)+(EK d.Left:Nat)+(EK d.Right:Nat)+(GV d.Ann:Nat)+(GV d.Bob:Nat))/\MZ B w t7 d.Clocks F7 (q+(QM d.Log:Nat)+(NI d.Store:Nat)+(EK d.Left:Nat)+(EK d.Right:Nat)+(GV d.Ann:Nat)+(GV d.Bob:Nat)+(YI d.Net:Nat))/\QL B w t8 d.Up F8 (q+(QM d.Log:Nat)+(NI d.Store:Nat)+(EK d.Left:Nat)+(EK d.Right:Nat)+(GV d.Ann:Nat)+(GV d.Bob:Nat)+(YI d.Net:Nat)+(LR d.Clocks:Nat))/\F=F0++F1++F2++F3++F4++F5++F6++F7++F8
section
variable {B B':Nat} {w w':World} {v:Value} {d:DU} {F:List Nat} {q:Int}
theorem SI.ext(h:SI B w v d F q)(x:Ext w w'):SI B w' v d F q:=by
 obtain⟨p0,p1,p2,p3,p4,p5,p6,t7,t8,F0,F1,F2,F3,F4,F5,F6,F7,F8,e,l0,l1,l2,l3,l4,l5,l6,m0,m1,m2,m3,m4,m5,m6,m7,m8,hF⟩:=h
 exact⟨p0,p1,p2,p3,p4,p5,p6,t7,t8,F0,F1,F2,F3,F4,F5,F6,F7,F8,e,l0,l1,l2,l3,l4,l5,l6,m0.ext x,m1.ext x,m2.ext x,m3.ext x,m4.ext x,m5.ext x,m6.ext x,m7.ext x,m8.ext x,hF⟩
theorem SI.upd(h:SI B w v d F q){fs:List Nat}(x:Upd w w' fs)(hn:∀k,k ∈ F->k ∈ fs->False):SI B w' v d F q:=by
 obtain⟨p0,p1,p2,p3,p4,p5,p6,t7,t8,F0,F1,F2,F3,F4,F5,F6,F7,F8,e,l0,l1,l2,l3,l4,l5,l6,m0,m1,m2,m3,m4,m5,m6,m7,m8,rfl⟩:=h
 exact⟨p0,p1,p2,p3,p4,p5,p6,t7,t8,F0,F1,F2,F3,F4,F5,F6,F7,F8,e,l0,l1,l2,l3,l4,l5,l6,m0.upd x (fun k h=>hn k (by simp[h])),m1.upd x (fun k h=>hn k (by simp[h])),m2.upd x (fun k h=>hn k (by simp[h])),m3.upd x (fun k h=>hn k (by simp[h])),m4.upd x (fun k h=>hn k (by simp[h])),m5.upd x (fun k h=>hn k (by simp[h])),m6.upd x (fun k h=>hn k (by simp[h])),m7.upd x (fun k h=>hn k (by simp[h])),m8.upd x (fun k h=>hn k (by simp[h])),rfl⟩
theorem JG.upd(h:JG B w v d F){fs:List Nat}(x:Upd w w' fs)(hn:∀k,k ∈ F->k ∈ fs->False):JG B w' v d F:=by
 obtain⟨p0,p1,p2,p3,p4,p5,p6,t7,t8,F0,F1,F2,F3,F4,F5,F6,F7,F8,e,l0,l1,l2,l3,l4,l5,l6,g0,g1,g2,g3,g4,g5,g6,g7,g8,hdj,rfl⟩:=h
 exact⟨p0,p1,p2,p3,p4,p5,p6,t7,t8,F0,F1,F2,F3,F4,F5,F6,F7,F8,e,l0,l1,l2,l3,l4,l5,l6,g0.upd x (fun k h=>hn k (by simp[h])),g1.upd x (fun k h=>hn k (by simp[h])),g2.upd x (fun k h=>hn k (by simp[h])),g3.upd x (fun k h=>hn k (by simp[h])),g4.upd x (fun k h=>hn k (by simp[h])),g5.upd x (fun k h=>hn k (by simp[h])),g6.upd x (fun k h=>hn k (by simp[h])),g7.upd x (fun k h=>hn k (by simp[h])),g8.upd x (fun k h=>hn k (by simp[h])),hdj,rfl⟩
theorem aX9(h:JG B w v d F)(hq0:0<=q)(hq1:q+(UR d:Nat)<=4611686018427387904):Calls Tryz.prog 18 #[v,.int .i64 q] w (IX w F (.int .i64 (q+(UR d:Nat))) fun w'=>SI B w' v d F q):=by
 obtain⟨p0,p1,p2,p3,p4,p5,p6,t7,t8,F0,F1,F2,F3,F4,F5,F6,F7,F8,rfl,l0,l1,l2,l3,l4,l5,l6,g0,g1,g2,g3,g4,g5,g6,g7,g8,hdj,rfl⟩:=h
 unfold UR at hq1 ⊢
 have aD1:∀k,k ∈ F0->k ∈ F1->False:=BE hdj 0 1 oM (by simp)
 have cA1:∀k,k ∈ F0->k ∈ F2->False:=BE hdj 0 2 oM (by simp)
 have cP6:∀k,k ∈ F0->k ∈ F3->False:=BE hdj 0 3 oM (by simp)
 have cA2:∀k,k ∈ F0->k ∈ F4->False:=BE hdj 0 4 oM (by simp)
 have cA3:∀k,k ∈ F0->k ∈ F5->False:=BE hdj 0 5 oM (by simp)
 have cP7:∀k,k ∈ F0->k ∈ F6->False:=BE hdj 0 6 oM (by simp)
 have cA4:∀k,k ∈ F0->k ∈ F7->False:=BE hdj 0 7 oM (by simp)
 have cP8:∀k,k ∈ F0->k ∈ F8->False:=BE hdj 0 8 oM (by simp)
 have aT1:∀k,k ∈ F1->k ∈ F2->False:=BE hdj 1 2 oM (by simp)
 have cP9:∀k,k ∈ F1->k ∈ F3->False:=BE hdj 1 3 oM (by simp)
 have cA5:∀k,k ∈ F1->k ∈ F4->False:=BE hdj 1 4 oM (by simp)
 have cA6:∀k,k ∈ F1->k ∈ F5->False:=BE hdj 1 5 oM (by simp)
 have cQ0:∀k,k ∈ F1->k ∈ F6->False:=BE hdj 1 6 oM (by simp)
 have cA7:∀k,k ∈ F1->k ∈ F7->False:=BE hdj 1 7 oM (by simp)
 have cQ1:∀k,k ∈ F1->k ∈ F8->False:=BE hdj 1 8 oM (by simp)
 have cQ2:∀k,k ∈ F2->k ∈ F3->False:=BE hdj 2 3 oM (by simp)
 have cA8:∀k,k ∈ F2->k ∈ F4->False:=BE hdj 2 4 oM (by simp)
 have cA9:∀k,k ∈ F2->k ∈ F5->False:=BE hdj 2 5 oM (by simp)
 have cQ3:∀k,k ∈ F2->k ∈ F6->False:=BE hdj 2 6 oM (by simp)
 have cB0:∀k,k ∈ F2->k ∈ F7->False:=BE hdj 2 7 oM (by simp)
 have cQ4:∀k,k ∈ F2->k ∈ F8->False:=BE hdj 2 8 oM (by simp)
 have cQ5:∀k,k ∈ F3->k ∈ F4->False:=BE hdj 3 4 oM (by simp)
 have cQ6:∀k,k ∈ F3->k ∈ F5->False:=BE hdj 3 5 oM (by simp)
 have cQ7:∀k,k ∈ F3->k ∈ F6->False:=BE hdj 3 6 oM (by simp)
 have cQ8:∀k,k ∈ F3->k ∈ F7->False:=BE hdj 3 7 oM (by simp)
 have cQ9:∀k,k ∈ F3->k ∈ F8->False:=BE hdj 3 8 oM (by simp)
 have cB1:∀k,k ∈ F4->k ∈ F5->False:=BE hdj 4 5 oM (by simp)
 have cR0:∀k,k ∈ F4->k ∈ F6->False:=BE hdj 4 6 oM (by simp)
 have cB2:∀k,k ∈ F4->k ∈ F7->False:=BE hdj 4 7 oM (by simp)
 have cR1:∀k,k ∈ F4->k ∈ F8->False:=BE hdj 4 8 oM (by simp)
 have cR2:∀k,k ∈ F5->k ∈ F6->False:=BE hdj 5 6 oM (by simp)
 have cB3:∀k,k ∈ F5->k ∈ F7->False:=BE hdj 5 7 oM (by simp)
 have cR5:∀k,k ∈ F5->k ∈ F8->False:=BE hdj 5 8 oM (by simp)
 have cR6:∀k,k ∈ F6->k ∈ F7->False:=BE hdj 6 7 oM (by simp)
 have cR7:∀k,k ∈ F6->k ∈ F8->False:=BE hdj 6 8 oM (by simp)
 have cR8:∀k,k ∈ F7->k ∈ F8->False:=BE hdj 7 8 oM (by simp)
 have f0:w.heap.size ∉ F0:=fun h=>by have:=(g0.low _ h).2;omega
 have f1:w.heap.size ∉ F1:=fun h=>by have:=(g1.low _ h).2;omega
 have f2:w.heap.size ∉ F2:=fun h=>by have:=(g2.low _ h).2;omega
 have f3:w.heap.size ∉ F3:=fun h=>by have:=(g3.low _ h).2;omega
 have f4:w.heap.size ∉ F4:=fun h=>by have:=(g4.low _ h).2;omega
 have f5:w.heap.size ∉ F5:=fun h=>by have:=(g5.low _ h).2;omega
 have f6:w.heap.size ∉ F6:=fun h=>by have:=(g6.low _ h).2;omega
 have f7:w.heap.size ∉ F7:=fun h=>by have:=(g7.low _ h).2;omega
 have f8:w.heap.size ∉ F8:=fun h=>by have:=(g8.low _ h).2;omega
 obtain⟨L,hL⟩:∃L:List Value,L=(p0++(p1++(p2++(p3++(p4++(p5++(p6++([t7]++([t8]++[]))))))))):=⟨_,rfl⟩
 rw[<-hL]
 obtain⟨W0,hW0⟩:∃W0,W0=w.alloc (.cells L.toArray 106):=⟨_,rfl⟩
 have E0:Ext w W0:=by rw[hW0];exact(Ext.refl _).alloc _
 have r:W0.rangeAt w.heap.size 0 L:=by rw[hW0];exact(Bk.new _ _ _).ra
 rw[hL] at r
 obtain⟨R0,r⟩:=An (m:=19) r l0 rfl
 obtain⟨R1,r⟩:=An (m:=31) r l1 rfl
 obtain⟨R2,r⟩:=An (m:=46) r l2 rfl
 obtain⟨R3,r⟩:=An (m:=61) r l3 rfl
 obtain⟨R4,r⟩:=An (m:=65) r l4 rfl
 obtain⟨R5,r⟩:=An (m:=69) r l5 rfl
 obtain⟨R6,r⟩:=An (m:=71) r l6 rfl
 obtain⟨R7,r⟩:=An (m:=72) r rfl rfl
 have R7:=Az R7
 obtain⟨R8,r⟩:=An (m:=73) r rfl rfl
 have R8:=Az R8
 clear r 
 have HL:=Lib.hid hL;clear hL
 go_enter Tryz.func18,Tryz.ntmps18
 go_upto_region 1 with(fail)
 rw[<-hW0]
 clear hW0
 have g0:=g0.upd (E0.upd []) (fun _ _ h=>by cases h)
 have g1:=g1.upd (E0.upd []) (fun _ _ h=>by cases h)
 have g2:=g2.upd (E0.upd []) (fun _ _ h=>by cases h)
 have g3:=g3.upd (E0.upd []) (fun _ _ h=>by cases h)
 have g4:=g4.upd (E0.upd []) (fun _ _ h=>by cases h)
 have g5:=g5.upd (E0.upd []) (fun _ _ h=>by cases h)
 have g6:=g6.upd (E0.upd []) (fun _ _ h=>by cases h)
 have g7:=g7.upd (E0.upd []) (fun _ _ h=>by cases h)
 have g8:=g8.upd (E0.upd []) (fun _ _ h=>by cases h)
 have U0:Upd w W0 (F0++F1++F2++F3++F4++F5++F6++F7++F8):=E0.upd _
 go_wp2_with (first|(refine wpList_load_mid rfl 81 _ rfl (w.heap.size) 0 (by rfl) p0 _ R0 Tryz.underlying81 rfl (by rw[l0];kernel_rfl) ?_))
 refine(bW1 g0 (q:=q) oM oM).mono ?_
 rintro e w0⟨rfl,x0,m0⟩
 obtain⟨z0,hz0⟩:∃z,z=q+(QM d.Log:Nat):=⟨_,rfl⟩
 rw[<-hz0]
 have y0:=Int.le_of_eq hz0;have v0:=Int.le_of_eq hz0.symm;have Hz0:=Lib.hid hz0;clear hz0
 have g1:=g1.upd x0 (fun k a b=>aD1 k b a)
 have R1:=Xg R1 x0 f0
 have g2:=g2.upd x0 (fun k a b=>cA1 k b a)
 have R2:=Xg R2 x0 f0
 have g3:=g3.upd x0 (fun k a b=>cP6 k b a)
 have R3:=Xg R3 x0 f0
 have g4:=g4.upd x0 (fun k a b=>cA2 k b a)
 have R4:=Xg R4 x0 f0
 have g5:=g5.upd x0 (fun k a b=>cA3 k b a)
 have R5:=Xg R5 x0 f0
 have g6:=g6.upd x0 (fun k a b=>cP7 k b a)
 have R6:=Xg R6 x0 f0
 have g7:=g7.upd x0 (fun k a b=>cA4 k b a)
 have R7:=wX R7 x0 f0
 have g8:=g8.upd x0 (fun k a b=>cP8 k b a)
 have R8:=wX R8 x0 f0
 have U1:=U0.trans (x0.more (fun k h=>by simp[h]))
 clear R0
 go_wp2_with (first|(refine wpList_load_mid rfl 88 _ rfl (w.heap.size) 19 (by rfl) p1 _ R1 Tryz.underlying88 rfl (by rw[l1];kernel_rfl) ?_))
 refine(aR6 g1 (q:=z0) oM oM).mono ?_
 rintro e w1⟨rfl,x1,m1⟩
 obtain⟨z1,hz1⟩:∃z,z=z0+(NI d.Store:Nat):=⟨_,rfl⟩
 rw[<-hz1]
 have y1:=Int.le_of_eq hz1;have v1:=Int.le_of_eq hz1.symm;have Hz1:=Lib.hid hz1;clear hz1
 have m0:=m0.upd x1 (fun k a b=>aD1 k a b)
 have g2:=g2.upd x1 (fun k a b=>aT1 k b a)
 have R2:=Xg R2 x1 f1
 have g3:=g3.upd x1 (fun k a b=>cP9 k b a)
 have R3:=Xg R3 x1 f1
 have g4:=g4.upd x1 (fun k a b=>cA5 k b a)
 have R4:=Xg R4 x1 f1
 have g5:=g5.upd x1 (fun k a b=>cA6 k b a)
 have R5:=Xg R5 x1 f1
 have g6:=g6.upd x1 (fun k a b=>cQ0 k b a)
 have R6:=Xg R6 x1 f1
 have g7:=g7.upd x1 (fun k a b=>cA7 k b a)
 have R7:=wX R7 x1 f1
 have g8:=g8.upd x1 (fun k a b=>cQ1 k b a)
 have R8:=wX R8 x1 f1
 have U2:=U1.trans (x1.more (fun k h=>by simp[h]))
 clear R1
 go_wp2_with (first|(refine wpList_load_mid rfl 96 _ rfl (w.heap.size) 31 (by rfl) p2 _ R2 Tryz.underlying96 rfl (by rw[l2];kernel_rfl) ?_))
 refine(aA1 g2 (q:=z1) oM oM).mono ?_
 rintro e w2⟨rfl,x2,m2⟩
 obtain⟨z2,hz2⟩:∃z,z=z1+(EK d.Left:Nat):=⟨_,rfl⟩
 rw[<-hz2]
 have y2:=Int.le_of_eq hz2;have v2:=Int.le_of_eq hz2.symm;have Hz2:=Lib.hid hz2;clear hz2
 have m0:=m0.upd x2 (fun k a b=>cA1 k a b)
 have m1:=m1.upd x2 (fun k a b=>aT1 k a b)
 have g3:=g3.upd x2 (fun k a b=>cQ2 k b a)
 have R3:=Xg R3 x2 f2
 have g4:=g4.upd x2 (fun k a b=>cA8 k b a)
 have R4:=Xg R4 x2 f2
 have g5:=g5.upd x2 (fun k a b=>cA9 k b a)
 have R5:=Xg R5 x2 f2
 have g6:=g6.upd x2 (fun k a b=>cQ3 k b a)
 have R6:=Xg R6 x2 f2
 have g7:=g7.upd x2 (fun k a b=>cB0 k b a)
 have R7:=wX R7 x2 f2
 have g8:=g8.upd x2 (fun k a b=>cQ4 k b a)
 have R8:=wX R8 x2 f2
 have U3:=U2.trans (x2.more (fun k h=>by simp[h]))
 clear R2
 go_wp2_with (first|(refine wpList_load_mid rfl 96 _ rfl (w.heap.size) 46 (by rfl) p3 _ R3 Tryz.underlying96 rfl (by rw[l3];kernel_rfl) ?_))
 refine(aA1 g3 (q:=z2) oM oM).mono ?_
 rintro e w3⟨rfl,x3,m3⟩
 obtain⟨z3,hz3⟩:∃z,z=z2+(EK d.Right:Nat):=⟨_,rfl⟩
 rw[<-hz3]
 have y3:=Int.le_of_eq hz3;have v3:=Int.le_of_eq hz3.symm;have Hz3:=Lib.hid hz3;clear hz3
 have m0:=m0.upd x3 (fun k a b=>cP6 k a b)
 have m1:=m1.upd x3 (fun k a b=>cP9 k a b)
 have m2:=m2.upd x3 (fun k a b=>cQ2 k a b)
 have g4:=g4.upd x3 (fun k a b=>cQ5 k b a)
 have R4:=Xg R4 x3 f3
 have g5:=g5.upd x3 (fun k a b=>cQ6 k b a)
 have R5:=Xg R5 x3 f3
 have g6:=g6.upd x3 (fun k a b=>cQ7 k b a)
 have R6:=Xg R6 x3 f3
 have g7:=g7.upd x3 (fun k a b=>cQ8 k b a)
 have R7:=wX R7 x3 f3
 have g8:=g8.upd x3 (fun k a b=>cQ9 k b a)
 have R8:=wX R8 x3 f3
 have U4:=U3.trans (x3.more (fun k h=>by simp[h]))
 clear R3
 go_wp2_with (first|(refine wpList_load_mid rfl 100 _ rfl (w.heap.size) 61 (by rfl) p4 _ R4 Tryz.underlying100 rfl (by rw[l4];kernel_rfl) ?_))
 refine(YH g4 (q:=z3) oM oM).mono ?_
 rintro e w4⟨rfl,x4,m4⟩
 obtain⟨z4,hz4⟩:∃z,z=z3+(GV d.Ann:Nat):=⟨_,rfl⟩
 rw[<-hz4]
 have y4:=Int.le_of_eq hz4;have v4:=Int.le_of_eq hz4.symm;have Hz4:=Lib.hid hz4;clear hz4
 have m0:=m0.upd x4 (fun k a b=>cA2 k a b)
 have m1:=m1.upd x4 (fun k a b=>cA5 k a b)
 have m2:=m2.upd x4 (fun k a b=>cA8 k a b)
 have m3:=m3.upd x4 (fun k a b=>cQ5 k a b)
 have g5:=g5.upd x4 (fun k a b=>cB1 k b a)
 have R5:=Xg R5 x4 f4
 have g6:=g6.upd x4 (fun k a b=>cR0 k b a)
 have R6:=Xg R6 x4 f4
 have g7:=g7.upd x4 (fun k a b=>cB2 k b a)
 have R7:=wX R7 x4 f4
 have g8:=g8.upd x4 (fun k a b=>cR1 k b a)
 have R8:=wX R8 x4 f4
 have U5:=U4.trans (x4.more (fun k h=>by simp[h]))
 clear R4
 go_wp2_with (first|(refine wpList_load_mid rfl 100 _ rfl (w.heap.size) 65 (by rfl) p5 _ R5 Tryz.underlying100 rfl (by rw[l5];kernel_rfl) ?_))
 refine(YH g5 (q:=z4) oM oM).mono ?_
 rintro e w5⟨rfl,x5,m5⟩
 obtain⟨z5,hz5⟩:∃z,z=z4+(GV d.Bob:Nat):=⟨_,rfl⟩
 rw[<-hz5]
 have y5:=Int.le_of_eq hz5;have v5:=Int.le_of_eq hz5.symm;have Hz5:=Lib.hid hz5;clear hz5
 have m0:=m0.upd x5 (fun k a b=>cA3 k a b)
 have m1:=m1.upd x5 (fun k a b=>cA6 k a b)
 have m2:=m2.upd x5 (fun k a b=>cA9 k a b)
 have m3:=m3.upd x5 (fun k a b=>cQ6 k a b)
 have m4:=m4.upd x5 (fun k a b=>cB1 k a b)
 have g6:=g6.upd x5 (fun k a b=>cR2 k b a)
 have R6:=Xg R6 x5 f5
 have g7:=g7.upd x5 (fun k a b=>cB3 k b a)
 have R7:=wX R7 x5 f5
 have g8:=g8.upd x5 (fun k a b=>cR5 k b a)
 have R8:=wX R8 x5 f5
 have U6:=U5.trans (x5.more (fun k h=>by simp[h]))
 clear R5
 go_wp2_with (first|(refine wpList_load_mid rfl 104 _ rfl (w.heap.size) 69 (by rfl) p6 _ R6 Tryz.underlying104 rfl (by rw[l6];kernel_rfl) ?_))
 refine(bW0 g6 (q:=z5) oM oM).mono ?_
 rintro e w6⟨rfl,x6,m6⟩
 obtain⟨z6,hz6⟩:∃z,z=z5+(YI d.Net:Nat):=⟨_,rfl⟩
 rw[<-hz6]
 have y6:=Int.le_of_eq hz6;have v6:=Int.le_of_eq hz6.symm;have Hz6:=Lib.hid hz6;clear hz6
 have m0:=m0.upd x6 (fun k a b=>cP7 k a b)
 have m1:=m1.upd x6 (fun k a b=>cQ0 k a b)
 have m2:=m2.upd x6 (fun k a b=>cQ3 k a b)
 have m3:=m3.upd x6 (fun k a b=>cQ7 k a b)
 have m4:=m4.upd x6 (fun k a b=>cR0 k a b)
 have m5:=m5.upd x6 (fun k a b=>cR2 k a b)
 have g7:=g7.upd x6 (fun k a b=>cR6 k b a)
 have R7:=wX R7 x6 f6
 have g8:=g8.upd x6 (fun k a b=>cR7 k b a)
 have R8:=wX R8 x6 f6
 have U7:=U6.trans (x6.more (fun k h=>by simp[h]))
 clear R6
 go_wp2_with fail
 refine(YE g7 (q:=z6) oM oM).mono ?_
 rintro e w7⟨rfl,x7,m7⟩
 obtain⟨z7,hz7⟩:∃z,z=z6+(LR d.Clocks:Nat):=⟨_,rfl⟩
 rw[<-hz7]
 have y7:=Int.le_of_eq hz7;have v7:=Int.le_of_eq hz7.symm;have Hz7:=Lib.hid hz7;clear hz7
 have m0:=m0.upd x7 (fun k a b=>cA4 k a b)
 have m1:=m1.upd x7 (fun k a b=>cA7 k a b)
 have m2:=m2.upd x7 (fun k a b=>cB0 k a b)
 have m3:=m3.upd x7 (fun k a b=>cQ8 k a b)
 have m4:=m4.upd x7 (fun k a b=>cB2 k a b)
 have m5:=m5.upd x7 (fun k a b=>cB3 k a b)
 have m6:=m6.upd x7 (fun k a b=>cR6 k a b)
 have g8:=g8.upd x7 (fun k a b=>cR8 k b a)
 have R8:=wX R8 x7 f7
 have U8:=U7.trans (x7.more (fun k h=>by simp[h]))
 clear R7
 go_wp2_with fail
 refine(aX8 g8 (q:=z7) oM oM).mono ?_
 rintro e w8⟨rfl,x8,m8⟩
 obtain⟨z8,hz8⟩:∃z,z=z7+(WO d.Up:Nat):=⟨_,rfl⟩
 rw[<-hz8]
 have y8:=Int.le_of_eq hz8;have v8:=Int.le_of_eq hz8.symm;have Hz8:=Lib.hid hz8;clear hz8
 have m0:=m0.upd x8 (fun k a b=>cP8 k a b)
 have m1:=m1.upd x8 (fun k a b=>cQ1 k a b)
 have m2:=m2.upd x8 (fun k a b=>cQ4 k a b)
 have m3:=m3.upd x8 (fun k a b=>cQ9 k a b)
 have m4:=m4.upd x8 (fun k a b=>cR1 k a b)
 have m5:=m5.upd x8 (fun k a b=>cR5 k a b)
 have m6:=m6.upd x8 (fun k a b=>cR7 k a b)
 have m7:=m7.upd x8 (fun k a b=>cR8 k a b)
 have UZ:=U8.trans (x8.more (fun k h=>by simp[h]))
 clear R8
 go_wp2_with fail
 go_ret
 have hL:=HL.out
 subst hL
 have hz8:=Hz8.out
 subst hz8
 have hz7:=Hz7.out
 subst hz7
 have hz6:=Hz6.out
 subst hz6
 have hz5:=Hz5.out
 subst hz5
 have hz4:=Hz4.out
 subst hz4
 have hz3:=Hz3.out
 subst hz3
 have hz2:=Hz2.out
 subst hz2
 have hz1:=Hz1.out
 subst hz1
 have hz0:=Hz0.out
 subst hz0
 exact⟨congrArg (fun z:Int=>Ending.returned (Value.int .i64 z)) oM,UZ,p0,p1,p2,p3,p4,p5,p6,t7,t8,F0,F1,F2,F3,F4,F5,F6,F7,F8,rfl,l0,l1,l2,l3,l4,l5,l6,m0,m1,m2,m3,m4,m5,m6,m7,m8,rfl⟩
end
end Go.Proofs.YtkpmbocbbgocbaaGreat
