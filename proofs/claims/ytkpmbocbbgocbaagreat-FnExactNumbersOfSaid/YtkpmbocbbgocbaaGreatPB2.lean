/- KW K2 Kh Kb Kc Kn HelpU. -/
import Derived.Test.YtkpmbocbbgocbaaGreatPB1
import Derived.Test.YtkpmbocbbgocbaaGreatPGl
import Derived.Test.YtkpmbocbbgocbaaGreatPB0
import Derived.Test.YtkpmbocbbgocbaaGreatPGm
set_option linter.unusedSimpArgs false
set_option linter.unusedVariables false
set_option maxHeartbeats 8000000
set_option maxRecDepth 100000
namespace Go.Proofs.YtkpmbocbbgocbaaGreat
open Go.RowKit Go.G8
theorem Ext.ofSet{w W V:World}{b:Nat}{row:Array Value}(e:V=W.setRow b row)(h:Ext w W)(hb:w.heap.size<=b):Ext w V:=e ▸ Ext.setRow h hb row
theorem Bk.ofSet{W V:World}{b c:Nat}{t:TypeId}{L:List Value}{row:Array Value}(e:V=W.setRow c row)(h:Bk W b t L)(hn:b≠c):Bk V b t L:=e ▸ Bk.rowFar h hn row
theorem Chg.ofSet{B:Nat}{w W V:World}{b:Nat}{row:Array Value}(e:V=W.setRow b row)(h:Chg B w W)(hb:b<B\/w.heap.size<=b):Chg B w V:=e ▸ Chg.setRow h hb row
theorem An{w:World}{g o n m:Nat}{p r:List Value}(h:w.rangeAt g o (p++r))(hp:p.length=n)(e:o+n=m):w.rangeAt g o p/\w.rangeAt g m r:=by
 subst hp;subst e
 refine⟨fun j v hv=>h j v (by rw[List.getElem?_append_left (List.getElem?_eq_some_iff.1 hv).1];exact hv),fun j v hv=>?_⟩
 have:=h (p.length+j) v (by rw[List.getElem?_append_right oM,Nat.add_sub_cancel_left];exact hv)
 rwa [<-Nat.add_assoc] at this
theorem Az{w:World}{g o:Nat}{v:Value}(h:w.rangeAt g o [v]):w.cell? ⟨g,o,none⟩=some v:=h 0 v rfl
theorem Bk.ra{w:World}{g:Nat}{t:TypeId}{L:List Value}(h:Bk w g t L):w.rangeAt g 0 L:=Bk.range (A:=[]) (C:=[]) (Bk.cast h (by simp)) rfl
theorem exU{w a b:World}{fs:List Nat}(h:Ext w a)(k:Upd a b fs)(hf:∀x,x ∈ fs->w.heap.size<=x):Ext w b :=
 ⟨k.os.trans h.os,k.tape.trans h.tape,k.output.trans h.output,Nat.le_trans h.size k.size,fun i hi=>(k.block i (Nat.lt_of_lt_of_le hi h.size) (fun hm=>by have:=hf i hm;omega)).trans (h.block i hi)⟩
theorem Upd.chg{B:Nat}{w w':World}{fs:List Nat}(h:Upd w w' fs)(hB:∀x,x ∈ fs->x<B):Chg B w w':=⟨h.size,fun k hk hl=>h.block k hl (fun hm=>by have:=hB k hm;omega)⟩
theorem GU{a b B:Nat}(h1:a<B)(h2:b<B):∀x,x ∈ [a,b]->x<B:=by
 intro x hx
 simp only[List.mem_cons,List.not_mem_nil,or_false] at hx
 rcases hx with rfl|rfl <;> assumption
theorem DK{a b B:Nat}(h1:B<=a)(h2:B<=b):∀x,x ∈ [a,b]->B<=x:=by
 intro x hx
 simp only[List.mem_cons,List.not_mem_nil,or_false] at hx
 rcases hx with rfl|rfl <;> assumption
theorem VL{w V:World}{b:Nat}{row:Array Value}{fs:List Nat}(e:V=w.setRow b row)(hb:b ∈ fs):Upd w V fs:=by
 rw[e]
 exact⟨rfl,rfl,rfl,by rw[wV];exact Nat.le_refl _,fun k _ hn=>EJ w _ (fun e=>hn (e ▸ hb))⟩
theorem Oi{w V:World}{g o:Nat}{v:Value}{a b:Nat}(h:w.cell? ⟨g,o,none⟩=some v)(u:Upd w V [a,b])(hn:g<a/\g<b):V.cell? ⟨g,o,none⟩=some v:=by
 have hl:=World.block_lt_of_cell? w _ h
 have hb:=u.block g hl (by simp only[List.mem_cons,List.not_mem_nil,or_false];omega)
 unfold World.cell? at h ⊢
 rw[hb];exact h
theorem bJ{w V:World}{g o:Nat}{cs:List Value}{a b:Nat}(h:w.rangeAt g o cs)(u:Upd w V [a,b])(hn:g<a/\g<b):V.rangeAt g o cs:=fun j v hv=>Oi (h j v hv) u hn
theorem Cg{P:Program}{ops:Array Oper}{rest:List Oper}{op:Oper}{a:Act}{w:World}{Q:Exit->Act->World->Prop}(hgd:op.guard=none)(ty:TypeId)(x y:Operand)(ho:op.op=.store ty x y)
  (g o:Nat) (v:Value) (new:List Value) (hx:a.eval x=.pointer (some ⟨g,o,none⟩)) (hy:a.eval y=v) (hc:v.cells=new.toArray)
  (t:TypeId) (Z:List Value) (hb:Bk w g t Z) (N n:Nat) (hz:Z.length=N) (hn:new.length=n) (hl:o+n<=N) (hi:(P.info? ty).map (·.size)=some n) (h1:∀v ∈ new,v.oneCell'=true) (fs:List Nat) (hg:g ∈ fs)
  (h:∀wz Z',Upd w wz fs->wz.heap.size=w.heap.size->Bk wz g t Z'->Z'.length=N->Z'.take (o+n)=Z.take o++new->(∀b L T,b≠g->Bk w b T L->Bk wz b T L)->wpList P ops Q rest (a.put op.dst undef) wz):wpList P ops Q (op::rest) a w:=by
 subst hz;subst hn
 have hs:Z=Z.take o++((Z.drop o).take new.length++Z.drop (o+new.length)):=by
  rw[<-List.drop_drop,List.take_append_drop,List.take_append_drop]
 refine BA hgd ty x y ho g o v new hx hy hc t (Z.take o) ((Z.drop o).take new.length) (Z.drop (o+new.length)) (hs ▸ hb) (by rw[List.length_take];omega) (by rw[List.length_take,List.length_drop];omega) hi h1 (fun wz hV hB=>?_)
 refine h wz _ ?_ (by rw[hV];exact wV _ _ _) hB ?_ ?_ (fun b L T hne hk=>Bk.ofSet hV hk hne)
 .
  rw[hV]
  exact⟨rfl,rfl,rfl,by rw[wV];exact Nat.le_refl _,fun k _ hn=>EJ w _ (fun e=>hn (e ▸ hg))⟩
 .
  simp only[List.length_append,List.length_take,List.length_drop];omega
 rw[<-List.append_assoc,List.take_append_of_le_length (by simp only[List.length_append,List.length_take];omega),List.take_of_length_le (by simp only[List.length_append,List.length_take];omega)]
def JV(w:World)(v:Value)(l:List Int):Prop:=Aw 1 w v l
def EV(B:Nat)(w:World)(v:Value)(l:List Int)(F:List Nat):Prop:=Ba B 2 1 w v l/\F=Ep [v]
def QW(l:List Int):Nat:=l.length
section
variable {B B':Nat} {w w':World} {v:Value} {l:List Int} {F:List Nat}
theorem JV.shape(h:JV w v l):∃a n k,v=.slice a n k:=Aw.shape h
theorem JV.ext(h:JV w v l)(x:Ext w w'):JV w' v l:=Aw.ext h x
theorem EV.rd(h:EV B w v l F):JV w v l:=h.1.ints
theorem EV.keep(h:EV B w v l F)(x:Chg B w w'):EV B w' v l F:=⟨h.1.keep x,h.2⟩
theorem EV.mono(h:EV B w v l F)(x:B'<=B):EV B' w v l F:=⟨h.1.mono x,h.2⟩
theorem EV.low(h:EV B w v l F):∀k,k ∈ F->B<=k/\k<w.heap.size:=by obtain⟨h,rfl⟩:=h;exact h.foot
theorem EV.upd(h:EV B w v l F){fs:List Nat}(x:Upd w w' fs)(hn:∀k,k ∈ F->k ∈ fs->False):EV B w' v l F:=by
 obtain⟨h,rfl⟩:=h
 exact⟨Ba.upd' h x hn,rfl⟩
theorem bI8(h:JV w v l)(hs:QW l<=1048576):Calls Tryz.prog 48 #[v] w (Ret w fun v' w'=>∃F,EV w.heap.size w' v' l F):=by
 refine(RH w v _ l.length oM h hs).mono ?_
 rintro e w'⟨u,rfl,hx,g⟩
 exact⟨u,rfl,hx,_,g,rfl⟩
theorem bI9(h:JV w v l){left:Int}(h0:0<=left)(h1:left<=1048576):Calls Tryz.prog 38 #[v,.int .i64 left] w (Ret w fun v' _=>SzR left (QW l) v'):=RI w v _ l.length oM left h h0 h1
theorem bJ0{u:Value}(h:JV w v l)(k:JV w u l):Calls Tryz.prog 17 #[v,u] w (Fz w (.bool true)):=MB w v u _ h k
end
def JE(w:World)(v:Value)(l:List Bz):Prop:=Aw 3 w v (Xh l)
def IG(B:Nat)(w:World)(v:Value)(l:List Bz)(F:List Nat):Prop:=Ba B 290 3 w v (Xh l)/\F=Ep [v]
def PH(l:List Bz):Nat:=l.length
section
variable {B B':Nat} {w w':World} {v:Value} {l:List Bz} {F:List Nat}
theorem JE.shape(h:JE w v l):∃a n k,v=.slice a n k:=Aw.shape h
theorem JE.ext(h:JE w v l)(x:Ext w w'):JE w' v l:=Aw.ext h x
theorem IG.rd(h:IG B w v l F):JE w v l:=h.1.ints
theorem IG.keep(h:IG B w v l F)(x:Chg B w w'):IG B w' v l F:=⟨h.1.keep x,h.2⟩
theorem IG.mono(h:IG B w v l F)(x:B'<=B):IG B' w v l F:=⟨h.1.mono x,h.2⟩
theorem IG.low(h:IG B w v l F):∀k,k ∈ F->B<=k/\k<w.heap.size:=by obtain⟨h,rfl⟩:=h;exact h.foot
theorem IG.upd(h:IG B w v l F){fs:List Nat}(x:Upd w w' fs)(hn:∀k,k ∈ F->k ∈ fs->False):IG B w' v l F:=by
 obtain⟨h,rfl⟩:=h
 exact⟨Ba.upd' h x hn,rfl⟩
theorem aQ1(h:JE w v l)(hs:PH l<=1048576):Calls Tryz.prog 122 #[v] w (Ret w fun v' w'=>∃F,IG w.heap.size w' v' l F):=by
 refine(bH5 w v _ l.length (CY _) h hs).mono ?_
 rintro e w'⟨u,rfl,hx,g⟩
 exact⟨u,rfl,hx,_,g,rfl⟩
theorem aQ2(h:JE w v l){left:Int}(h0:0<=left)(h1:left<=1048576):Calls Tryz.prog 99 #[v,.int .i64 left] w (Ret w fun v' _=>SzR left (PH l) v'):=bH6 w v _ l.length (CY _) left h h0 h1
theorem aQ3{u:Value}(h:JE w v l)(k:JE w u l):Calls Tryz.prog 143 #[v,u] w (Fz w (.bool true)):=bH7 w v u _ h k
end
def PI(w:World)(v:Value)(l:List EN):Prop:=Aw 4 w v (MG l)
def LC(B:Nat)(w:World)(v:Value)(l:List EN)(F:List Nat):Prop:=Ba B 284 4 w v (MG l)/\F=Ep [v]
def WE(l:List EN):Nat:=l.length
section
variable {B B':Nat} {w w':World} {v:Value} {l:List EN} {F:List Nat}
theorem PI.shape(h:PI w v l):∃a n k,v=.slice a n k:=Aw.shape h
theorem PI.ext(h:PI w v l)(x:Ext w w'):PI w' v l:=Aw.ext h x
theorem LC.rd(h:LC B w v l F):PI w v l:=h.1.ints
theorem LC.keep(h:LC B w v l F)(x:Chg B w w'):LC B w' v l F:=⟨h.1.keep x,h.2⟩
theorem LC.mono(h:LC B w v l F)(x:B'<=B):LC B' w v l F:=⟨h.1.mono x,h.2⟩
theorem LC.low(h:LC B w v l F):∀k,k ∈ F->B<=k/\k<w.heap.size:=by obtain⟨h,rfl⟩:=h;exact h.foot
theorem LC.upd(h:LC B w v l F){fs:List Nat}(x:Upd w w' fs)(hn:∀k,k ∈ F->k ∈ fs->False):LC B w' v l F:=by
 obtain⟨h,rfl⟩:=h
 exact⟨Ba.upd' h x hn,rfl⟩
theorem cF1(h:PI w v l)(hs:WE l<=1048576):Calls Tryz.prog 123 #[v] w (Ret w fun v' w'=>∃F,LC w.heap.size w' v' l F):=by
 refine(bS2 w v _ l.length (RE _) h hs).mono ?_
 rintro e w'⟨u,rfl,hx,g⟩
 exact⟨u,rfl,hx,_,g,rfl⟩
theorem cF2(h:PI w v l){left:Int}(h0:0<=left)(h1:left<=1048576):Calls Tryz.prog 100 #[v,.int .i64 left] w (Ret w fun v' _=>SzR left (WE l) v'):=bS3 w v _ l.length (RE _) left h h0 h1
theorem cF3{u:Value}(h:PI w v l)(k:PI w u l):Calls Tryz.prog 144 #[v,u] w (Fz w (.bool true)):=bS4 w v u _ h k
end
def MX(w:World)(v:Value)(l:List wO):Prop:=Aw 7 w v (TB l)
def IN(B:Nat)(w:World)(v:Value)(l:List wO)(F:List Nat):Prop:=Ba B 161 7 w v (TB l)/\F=Ep [v]
def TJ(l:List wO):Nat:=l.length
section
variable {B B':Nat} {w w':World} {v:Value} {l:List wO} {F:List Nat}
theorem MX.shape(h:MX w v l):∃a n k,v=.slice a n k:=Aw.shape h
theorem MX.ext(h:MX w v l)(x:Ext w w'):MX w' v l:=Aw.ext h x
theorem IN.rd(h:IN B w v l F):MX w v l:=h.1.ints
theorem IN.keep(h:IN B w v l F)(x:Chg B w w'):IN B w' v l F:=⟨h.1.keep x,h.2⟩
theorem IN.mono(h:IN B w v l F)(x:B'<=B):IN B' w v l F:=⟨h.1.mono x,h.2⟩
theorem IN.low(h:IN B w v l F):∀k,k ∈ F->B<=k/\k<w.heap.size:=by obtain⟨h,rfl⟩:=h;exact h.foot
theorem IN.upd(h:IN B w v l F){fs:List Nat}(x:Upd w w' fs)(hn:∀k,k ∈ F->k ∈ fs->False):IN B w' v l F:=by
 obtain⟨h,rfl⟩:=h
 exact⟨Ba.upd' h x hn,rfl⟩
theorem bT6(h:MX w v l)(hs:TJ l<=1048576):Calls Tryz.prog 29 #[v] w (Ret w fun v' w'=>∃F,IN w.heap.size w' v' l F):=by
 refine(bH9 w v _ l.length (QO _) h hs).mono ?_
 rintro e w'⟨u,rfl,hx,g⟩
 exact⟨u,rfl,hx,_,g,rfl⟩
theorem bT7(h:MX w v l){left:Int}(h0:0<=left)(h1:left<=1048576):Calls Tryz.prog 28 #[v,.int .i64 left] w (Ret w fun v' _=>SzR left (TJ l) v'):=bI0 w v _ l.length (QO _) left h h0 h1
theorem bT8{u:Value}(h:MX w v l)(k:MX w u l):Calls Tryz.prog 30 #[v,u] w (Fz w (.bool true)):=bI1 w v u _ h k
end
def PK(w:World)(v:Value)(l:List FP):Prop:=Aw 4 w v (ZA l)
def LD(B:Nat)(w:World)(v:Value)(l:List FP)(F:List Nat):Prop:=Ba B 276 4 w v (ZA l)/\F=Ep [v]
def WF(l:List FP):Nat:=l.length
section
variable {B B':Nat} {w w':World} {v:Value} {l:List FP} {F:List Nat}
theorem PK.shape(h:PK w v l):∃a n k,v=.slice a n k:=Aw.shape h
theorem PK.ext(h:PK w v l)(x:Ext w w'):PK w' v l:=Aw.ext h x
theorem LD.rd(h:LD B w v l F):PK w v l:=h.1.ints
theorem LD.keep(h:LD B w v l F)(x:Chg B w w'):LD B w' v l F:=⟨h.1.keep x,h.2⟩
theorem LD.mono(h:LD B w v l F)(x:B'<=B):LD B' w v l F:=⟨h.1.mono x,h.2⟩
theorem LD.low(h:LD B w v l F):∀k,k ∈ F->B<=k/\k<w.heap.size:=by obtain⟨h,rfl⟩:=h;exact h.foot
theorem LD.upd(h:LD B w v l F){fs:List Nat}(x:Upd w w' fs)(hn:∀k,k ∈ F->k ∈ fs->False):LD B w' v l F:=by
 obtain⟨h,rfl⟩:=h
 exact⟨Ba.upd' h x hn,rfl⟩
theorem cF4(h:PK w v l)(hs:WF l<=1048576):Calls Tryz.prog 128 #[v] w (Ret w fun v' w'=>∃F,LD w.heap.size w' v' l F):=by
 refine(bS8 w v _ l.length (RF _) h hs).mono ?_
 rintro e w'⟨u,rfl,hx,g⟩
 exact⟨u,rfl,hx,_,g,rfl⟩
theorem cF5(h:PK w v l){left:Int}(h0:0<=left)(h1:left<=1048576):Calls Tryz.prog 104 #[v,.int .i64 left] w (Ret w fun v' _=>SzR left (WF l) v'):=bS9 w v _ l.length (RF _) left h h0 h1
theorem cF6{u:Value}(h:PK w v l)(k:PK w u l):Calls Tryz.prog 149 #[v,u] w (Fz w (.bool true)):=bT0 w v u _ h k
end
def MY(w:World)(v:Value)(l:List BP):Prop:=Aw 2 w v (WV l)
def IP(B:Nat)(w:World)(v:Value)(l:List BP)(F:List Nat):Prop:=Ba B 258 2 w v (WV l)/\F=Ep [v]
def TK(l:List BP):Nat:=l.length
section
variable {B B':Nat} {w w':World} {v:Value} {l:List BP} {F:List Nat}
theorem MY.shape(h:MY w v l):∃a n k,v=.slice a n k:=Aw.shape h
theorem MY.ext(h:MY w v l)(x:Ext w w'):MY w' v l:=Aw.ext h x
theorem IP.rd(h:IP B w v l F):MY w v l:=h.1.ints
theorem IP.keep(h:IP B w v l F)(x:Chg B w w'):IP B w' v l F:=⟨h.1.keep x,h.2⟩
theorem IP.mono(h:IP B w v l F)(x:B'<=B):IP B' w v l F:=⟨h.1.mono x,h.2⟩
theorem IP.low(h:IP B w v l F):∀k,k ∈ F->B<=k/\k<w.heap.size:=by obtain⟨h,rfl⟩:=h;exact h.foot
theorem IP.upd(h:IP B w v l F){fs:List Nat}(x:Upd w w' fs)(hn:∀k,k ∈ F->k ∈ fs->False):IP B w' v l F:=by
 obtain⟨h,rfl⟩:=h
 exact⟨Ba.upd' h x hn,rfl⟩
theorem bT9(h:MY w v l)(hs:TK l<=1048576):Calls Tryz.prog 130 #[v] w (Ret w fun v' w'=>∃F,IP w.heap.size w' v' l F):=by
 refine(bI3 w v _ l.length (QP _) h hs).mono ?_
 rintro e w'⟨u,rfl,hx,g⟩
 exact⟨u,rfl,hx,_,g,rfl⟩
theorem bU0(h:MY w v l){left:Int}(h0:0<=left)(h1:left<=1048576):Calls Tryz.prog 106 #[v,.int .i64 left] w (Ret w fun v' _=>SzR left (TK l) v'):=bI4 w v _ l.length (QP _) left h h0 h1
theorem bU1{u:Value}(h:MY w v l)(k:MY w u l):Calls Tryz.prog 151 #[v,u] w (Fz w (.bool true)):=bI5 w v u _ h k
end
def JW(w:World)(v:Value)(l:List Bj):Prop:=Aw 9 w v (wM l)
def GF(B:Nat)(w:World)(v:Value)(l:List Bj)(F:List Nat):Prop:=Ba B 281 9 w v (wM l)/\F=Ep [v]
def QX(l:List Bj):Nat:=l.length
section
variable {B B':Nat} {w w':World} {v:Value} {l:List Bj} {F:List Nat}
theorem JW.shape(h:JW w v l):∃a n k,v=.slice a n k:=Aw.shape h
theorem JW.ext(h:JW w v l)(x:Ext w w'):JW w' v l:=Aw.ext h x
theorem GF.rd(h:GF B w v l F):JW w v l:=h.1.ints
theorem GF.keep(h:GF B w v l F)(x:Chg B w w'):GF B w' v l F:=⟨h.1.keep x,h.2⟩
theorem GF.mono(h:GF B w v l F)(x:B'<=B):GF B' w v l F:=⟨h.1.mono x,h.2⟩
theorem GF.low(h:GF B w v l F):∀k,k ∈ F->B<=k/\k<w.heap.size:=by obtain⟨h,rfl⟩:=h;exact h.foot
theorem GF.upd(h:GF B w v l F){fs:List Nat}(x:Upd w w' fs)(hn:∀k,k ∈ F->k ∈ fs->False):GF B w' v l F:=by
 obtain⟨h,rfl⟩:=h
 exact⟨Ba.upd' h x hn,rfl⟩
theorem bJ1(h:JW w v l)(hs:QX l<=1048576):Calls Tryz.prog 225 #[v] w (Ret w fun v' w'=>∃F,GF w.heap.size w' v' l F):=by
 refine(aW3 w v _ l.length (MP _) h hs).mono ?_
 rintro e w'⟨u,rfl,hx,g⟩
 exact⟨u,rfl,hx,_,g,rfl⟩
theorem bJ2(h:JW w v l){left:Int}(h0:0<=left)(h1:left<=1048576):Calls Tryz.prog 200 #[v,.int .i64 left] w (Ret w fun v' _=>SzR left (QX l) v'):=aW4 w v _ l.length (MP _) left h h0 h1
theorem bJ3{u:Value}(h:JW w v l)(k:JW w u l):Calls Tryz.prog 246 #[v,u] w (Fz w (.bool true)):=aW5 w v u _ h k
end
def PL(w:World)(v:Value)(l:List OP):Prop:=NE w v (GK l)
def LF(B:Nat)(w:World)(v:Value)(l:List OP)(F:List Nat):Prop:=EZ B w v (GK l) F
def WG(l:List OP):Nat:=Mj (GK l)
section
variable {B B':Nat} {w w':World} {v:Value} {l:List OP} {F:List Nat}
theorem PL.shape(h:PL w v l):∃a n k,v=.slice a n k:=NE.shape h
theorem PL.ext(h:PL w v l)(x:Ext w w'):PL w' v l:=NE.ext h x
theorem LF.rd(h:LF B w v l F):PL w v l:=EZ.rd h
theorem LF.keep(h:LF B w v l F)(x:Chg B w w'):LF B w' v l F:=EZ.keep h x
theorem LF.mono(h:LF B w v l F)(x:B'<=B):LF B' w v l F:=EZ.mono h x
theorem LF.low(h:LF B w v l F):∀k,k ∈ F->B<=k/\k<w.heap.size:=EZ.low h
theorem LF.upd(h:LF B w v l F){fs:List Nat}(x:Upd w w' fs)(hn:∀k,k ∈ F->k ∈ fs->False):LF B w' v l F:=EZ.upd h x hn
theorem cF7(h:PL w v l)(hs:WG l<=1048576):Calls Tryz.prog 129 #[v] w (Ret w fun v' w'=>∃F,LF w.heap.size w' v' l F):=cD7 h hs
theorem cF8(h:PL w v l){left:Int}(h0:0<=left)(h1:left<=1048576):Calls Tryz.prog 105 #[v,.int .i64 left] w (Ret w fun v' _=>SzR left (WG l) v'):=cD8 h h0 h1
theorem cF9{u:Value}(h:PL w v l)(k:PL w u l):Calls Tryz.prog 150 #[v,u] w (Fz w (.bool true)):=cD9 h k
end
theorem FT.cells{w:World}{v:Value}{d:EI}(h:FT w v d):∃L:List Value,v=.agg L.toArray/\L.length=2/\∀x,x ∈ L->x.oneCell'=true:=by
 obtain⟨a0,n0,k0,a1,n1,k1,rfl⟩:=h.shape
 exact⟨_,rfl,rfl,by intro x hx;simp only[List.mem_cons,List.not_mem_nil,or_false] at hx;rcases hx with rfl|rfl <;> rfl⟩
def IQ(d:EI):Nat:=Mj (Bd d.Kept)+Mj (Dq d.Wait)
theorem EL.keepK{B:Nat}{w w':World}{v:Value}{d:EI}{F:List Nat}(h:EL B w v d F)(x:Chg B w w'):EL B w' v d F:=by
 obtain⟨t0,t1,s0,s1,e,h0,h1,hd,hF⟩:=h
 exact⟨t0,t1,s0,s1,e,h0.keep x,h1.keep x,hd,hF⟩
theorem EL.monoK{B B':Nat}{w:World}{v:Value}{d:EI}{F:List Nat}(h:EL B w v d F)(x:B'<=B):EL B' w v d F:=by
 obtain⟨t0,t1,s0,s1,e,h0,h1,hd,hF⟩:=h
 exact⟨t0,t1,s0,s1,e,h0.mono x,h1.mono x,hd,hF⟩
theorem aQ4{w:World}{v:Value}{d:EI}(h:FT w v d){left:Int}(h0:0<=left)(h1:left<=1048576):Calls Tryz.prog 101 #[v,.int .i64 left] w (Ret w fun v' _=>SzR left (IQ d) v'):=cE3 h h0 h1
theorem aQ5{w:World}{v:Value}{d:EI}(h:FT w v d)(hs:IQ d<=1048576):Calls Tryz.prog 124 #[v] w (Ret w fun v' w'=>∃F,EL w.heap.size w' v' d F):=cE4 h (by unfold IQ at hs;omega) (by unfold IQ at hs;omega)
theorem DF.cells{w:World}{v:Value}{d:EW}(h:DF w v d):∃L:List Value,v=.agg L.toArray/\L.length=12/\∀x,x ∈ L->x.oneCell'=true:=by
 obtain⟨a0,n0,k0,a1,n1,k1,a4,n4,k4,a5,n5,k5,rfl⟩:=h.shape
 exact⟨_,rfl,rfl,by intro x hx;simp only[List.mem_cons,List.not_mem_nil,or_false] at hx;rcases hx with rfl|rfl|rfl|rfl|rfl|rfl|rfl|rfl|rfl|rfl|rfl|rfl <;> rfl⟩
def JX(s:EW):Nat:=Mj (Bd s.Disk.Kept)+Mj (Dq s.Disk.Wait)+s.State.Pairs.length+s.State.Jobs.length
theorem bJ4{w:World}{v:Value}{d:EW}(h:DF w v d){left:Int}(h0:0<=left)(h1:left<=1048576):Calls Tryz.prog 34 #[v,.int .i64 left] w (Ret w fun v' _=>SzR left (JX d) v'):=bR6 h h0 h1
theorem bJ5{w:World}{v:Value}{d:EW}(h:DF w v d)(hs:JX d<=1048576):Calls Tryz.prog 44 #[v] w (Ret w fun v' w'=>∃F,DG w.heap.size w' v' d F):=bR8 h (by unfold JX at hs;omega) (by unfold JX at hs;omega) (by unfold JX at hs;omega) (by unfold JX at hs;omega)
theorem CN.cells{w:World}{v:Value}{d:aQ}(h:CN w v d):∃L:List Value,v=.agg L.toArray/\L.length=15/\∀x,x ∈ L->x.oneCell'=true:=by
 obtain⟨a7,n7,k7,rfl⟩:=h.shape
 exact⟨_,rfl,rfl,by intro x hx;simp only[List.mem_cons,List.not_mem_nil,or_false] at hx;rcases hx with rfl|rfl|rfl|rfl|rfl|rfl|rfl|rfl|rfl|rfl|rfl|rfl|rfl|rfl|rfl <;> rfl⟩
def LP(s:aQ):Nat:=s.View.Jobs.Open.length
theorem aG3{w:World}{v:Value}{d:aQ}(h:CN w v d){left:Int}(h0:0<=left)(h1:left<=1048576):Calls Tryz.prog 35 #[v,.int .i64 left] w (Ret w fun v' _=>SzR left (LP d) v'):=bR2 h h0 h1
theorem aG4{w:World}{v:Value}{d:aQ}(h:CN w v d)(hs:LP d<=1048576):Calls Tryz.prog 45 #[v] w (Ret w fun v' w'=>∃F,EB w.heap.size w' v' d F):=bR1 h hs
def SQ(w:World)(v:Value)(d:MV):Prop:=∃p0:List Value,∃p1:List Value,v=.agg (p0++(p1++[])).toArray/\p0.length=2/\p1.length=2/\FT w (.agg p0.toArray) d.A/\FT w (.agg p1.toArray) d.B
def OM(B:Nat)(w:World)(v:Value)(d:MV)(F:List Nat):Prop:=∃p0:List Value,∃p1:List Value,∃F0:List Nat,∃F1:List Nat,v=.agg (p0++(p1++[])).toArray/\p0.length=2/\p1.length=2/\EL B w (.agg p0.toArray) d.A F0/\EL B w (.agg p1.toArray) d.B F1/\[F0,F1].Pairwise (fun a b=>∀k,k ∈ a->k ∈ b->False)/\F=F0++F1
def SC(d:MV):Nat:=IQ d.A+IQ d.B
section
variable {B B':Nat} {w w':World} {v:Value} {d:MV} {F:List Nat}
theorem SQ.ext(h:SQ w v d)(x:Ext w w'):SQ w' v d:=by
 obtain⟨p0,p1,e,l0,l1,g0,g1⟩:=h
 exact⟨p0,p1,e,l0,l1,g0.ext x,g1.ext x⟩
theorem OM.rd(h:OM B w v d F):SQ w v d:=by
 obtain⟨p0,p1,F0,F1,e,l0,l1,g0,g1,hdj,hF⟩:=h
 exact⟨p0,p1,e,l0,l1,g0.rd,g1.rd⟩
theorem OM.keep(h:OM B w v d F)(x:Chg B w w'):OM B w' v d F:=by
 obtain⟨p0,p1,F0,F1,e,l0,l1,g0,g1,hdj,hF⟩:=h
 exact⟨p0,p1,F0,F1,e,l0,l1,g0.keepK x,g1.keepK x,hdj,hF⟩
theorem OM.mono(h:OM B w v d F)(x:B'<=B):OM B' w v d F:=by
 obtain⟨p0,p1,F0,F1,e,l0,l1,g0,g1,hdj,hF⟩:=h
 exact⟨p0,p1,F0,F1,e,l0,l1,g0.monoK x,g1.monoK x,hdj,hF⟩
theorem OM.low(h:OM B w v d F):∀k,k ∈ F->B<=k/\k<w.heap.size:=by
 obtain⟨p0,p1,F0,F1,e,l0,l1,g0,g1,hdj,rfl⟩:=h
 intro k hk
 simp only[List.mem_append] at hk
 rcases hk with hk|hk
 .
  exact g0.low k hk
 exact g1.low k hk
theorem SQ.cells(h:SQ w v d):∃L:List Value,v=.agg L.toArray/\L.length=4/\∀x,x ∈ L->x.oneCell'=true:=by
 obtain⟨p0,p1,rfl,l0,l1,g0,g1⟩:=h
 refine⟨_,rfl,by simp[l0,l1],?_⟩
 intro x hx
 simp only[List.mem_append,List.mem_cons,List.not_mem_nil,or_false] at hx
 rcases hx with hx|hx
 .
  obtain⟨L,e,-,h1⟩:=g0.cells;rw[wQ e] at hx;exact h1 x hx
 obtain⟨L,e,-,h1⟩:=g1.cells;rw[wQ e] at hx;exact h1 x hx
theorem cK0(h:SQ w v d){left:Int}(h0:0<=left)(h1:left<=1048576):Calls Tryz.prog 96 #[v,.int .i64 left] w (Ret w fun v' _=>SzR left (SC d) v'):=by
 obtain⟨p0,p1,rfl,l0,l1,g0,g1⟩:=h
 unfold SC
 obtain⟨L,hL⟩:∃L:List Value,L=(p0++(p1++[])):=⟨_,rfl⟩
 rw[<-hL]
 obtain⟨W0,hW0⟩:∃W0,W0=w.alloc (.cells L.toArray 27):=⟨_,rfl⟩
 have E0:Ext w W0:=by rw[hW0];exact(Ext.refl _).alloc _
 have r:W0.rangeAt w.heap.size 0 L:=by rw[hW0];exact(Bk.new _ _ _).ra
 rw[hL] at r;clear hL
 obtain⟨R0,r⟩:=An (m:=2) r l0 rfl
 obtain⟨R1,r⟩:=An (m:=4) r l1 rfl
 clear r
 go_enter Tryz.func96,Tryz.ntmps96
 go_upto_region 1 with(fail)
 rw[<-hW0]
 clear hW0
 have X0:Ext W0 W0:=Ext.refl _
 go_wp2_with (first|(refine wpList_load_mid rfl 25 _ rfl (w.heap.size) 0 (by rfl) p0 _ (As R0 Ag) Tryz.underlying25 rfl (by rw[l0];kernel_rfl) ?_))
 refine(aQ4 (g0.ext (E0.trans X0)) (left:=left) oM oM).mono ?_
 rintro e w1⟨v1,rfl,x1,hv⟩
 have X1:=X0.trans x1
 rcases hv with⟨rfl,hq1⟩|⟨rfl,hq1⟩
 .
  go_wp2_with fail
  go_ret
  exact⟨_,rfl,E0.trans X1,.inl ⟨rfl,by omega⟩⟩
 obtain⟨z1,hz1⟩:∃z,z=left - (IQ d.A:Nat):=⟨_,rfl⟩
 rw[<-hz1]
 have hy1:=Int.le_of_eq hz1;have hw1:=Int.le_of_eq hz1.symm;clear hz1
 have hd1:decide (z1<0)=false:=by simp;omega
 go_wp2_with (first|(refine wpList_load_mid rfl 25 _ rfl (w.heap.size) 2 (by rfl) p1 _ (As R1 Ag) Tryz.underlying25 rfl (by rw[l1];kernel_rfl) ?_))
 refine(aQ4 (g1.ext (E0.trans X1)) (left:=z1) oM oM).mono ?_
 rintro e w2⟨v2,rfl,x2,hv⟩
 have X2:=X1.trans x2
 rcases hv with⟨rfl,hq2⟩|⟨rfl,hq2⟩
 .
  go_wp2_with fail
  go_ret
  exact⟨_,rfl,E0.trans X2,.inl ⟨rfl,by omega⟩⟩
 obtain⟨z2,hz2⟩:∃z,z=z1 - (IQ d.B:Nat):=⟨_,rfl⟩
 rw[<-hz2]
 have hy2:=Int.le_of_eq hz2;have hw2:=Int.le_of_eq hz2.symm;clear hz2
 have hd2:decide (z2<0)=false:=by simp;omega
 go_wp2_with fail
 go_ret
 exact⟨_,rfl,E0.trans X2,.inr ⟨congrArg (Value.int .i64) oM,by omega⟩⟩
theorem cK1{u:Value}(h:SQ w v d)(k:SQ w u d):Calls Tryz.prog 140 #[v,u] w (Fz w (.bool true)):=by
 obtain⟨p0,p1,rfl,l0,l1,g0,g1⟩:=h
 obtain⟨r0,r1,rfl,m0,m1,f0,f1⟩:=k
 obtain⟨L,hL⟩:∃L:List Value,L=(p0++(p1++[])):=⟨_,rfl⟩
 obtain⟨M,hM⟩:∃L:List Value,L=(r0++(r1++[])):=⟨_,rfl⟩
 rw[<-hL,<-hM]
 obtain⟨W0,hW0⟩:∃W0,W0=(w.alloc (.cells L.toArray 72)).alloc (.cells M.toArray 72):=⟨_,rfl⟩
 have E0:Ext w W0:=by rw[hW0];exact((Ext.refl _).alloc _).alloc _
 have r:W0.rangeAt w.heap.size 0 L:=by rw[hW0];exact Bk.ra (Bk.alloc (Bk.new _ _ _) _)
 rw[hL] at r;clear hL
 obtain⟨R0,r⟩:=An (m:=2) r l0 rfl
 obtain⟨R1,r⟩:=An (m:=4) r l1 rfl
 clear r
 have r:W0.rangeAt (w.heap.size+1) 0 M:=by rw[hW0];exact Bk.ra (Blk.new2 _ _ _ _)
 rw[hM] at r;clear hM
 obtain⟨S0,r⟩:=An (m:=2) r m0 rfl
 obtain⟨S1,r⟩:=An (m:=4) r m1 rfl
 clear r
 go_enter Tryz.func140,Tryz.ntmps140
 go_upto_region 1 with(fail)
 rw[<-hW0]
 clear hW0
 have X0:Ext W0 W0:=Ext.refl _
 go_wp2_with (first|(refine wpList_load_mid rfl 70 _ rfl (w.heap.size) 0 (by rfl) p0 _ (As R0 Ag) Tryz.underlying70 rfl (by rw[l0];kernel_rfl) ?_)|(refine wpList_load_mid rfl 70 _ rfl (w.heap.size+1) 0 (by rfl) r0 _ (As S0 Ag) Tryz.underlying70 rfl (by rw[m0];kernel_rfl) ?_))
 refine(bB1 (g0.ext (E0.trans X0)) (f0.ext (E0.trans X0))).mono ?_
 rintro e w1⟨rfl,x1⟩
 have X1:=X0.trans x1
 go_wp2_with (first|(refine wpList_load_mid rfl 70 _ rfl (w.heap.size) 2 (by rfl) p1 _ (As R1 Ag) Tryz.underlying70 rfl (by rw[l1];kernel_rfl) ?_)|(refine wpList_load_mid rfl 70 _ rfl (w.heap.size+1) 2 (by rfl) r1 _ (As S1 Ag) Tryz.underlying70 rfl (by rw[m1];kernel_rfl) ?_))
 refine(bB1 (g1.ext (E0.trans X1)) (f1.ext (E0.trans X1))).mono ?_
 rintro e w2⟨rfl,x2⟩
 have X2:=X1.trans x2
 go_wp2_with fail
 go_ret
 exact⟨rfl,E0.trans X2⟩
theorem cK2(h:SQ w v d)(hs:SC d<=1048576):Calls Tryz.prog 119 #[v] w (Ret w fun v' w'=>∃F,OM w.heap.size w' v' d F):=by
 obtain⟨p0,p1,rfl,l0,l1,g0,g1⟩:=h
 unfold SC at hs
 have hzero:=(zero_of_info (P:=Tryz.prog) (t:=72) (v:=.agg #[.slice none 0 0,.slice none 0 0,.slice none 0 0,.slice none 0 0]) (n:=4) (by kernel_rfl)).1
 obtain⟨Z0,hZ⟩:∃Z:List Value,Z=[Value.slice none 0 0,Value.slice none 0 0,Value.slice none 0 0,Value.slice none 0 0]:=⟨_,rfl⟩
 have n0:Z0.length=4:=by rw[hZ];rfl
 obtain⟨L,hL⟩:∃L:List Value,L=(p0++(p1++[])):=⟨_,rfl⟩
 rw[<-hL]
 obtain⟨W0,hW0⟩:∃W0,W0=((w.alloc (.cells L.toArray 27)).alloc (.cells #[.slice none 0 0,.slice none 0 0,.slice none 0 0,.slice none 0 0] 72)).alloc (.cells #[.slice none 0 0,.slice none 0 0,.slice none 0 0,.slice none 0 0] 72):=⟨_,rfl⟩
 have X0:Ext w W0:=by rw[hW0];exact(((Ext.refl _).alloc _).alloc _).alloc _
 have r:W0.rangeAt w.heap.size 0 L:=by rw[hW0];exact Bk.ra (Bk.alloc (Bk.alloc (Bk.new _ _ _) _) _)
 rw[hL] at r;clear hL
 obtain⟨R0,r⟩:=An (m:=2) r l0 rfl
 obtain⟨R1,r⟩:=An (m:=4) r l1 rfl
 clear r
 have BR:Bk W0 (w.heap.size+1) 72 Z0:=by rw[hW0,hZ];exact Bk.alloc (Blk.new2 _ _ _ _) _
 have BO:Bk W0 (w.heap.size+1+1) 72 Z0:=by rw[hW0,hZ];exact Blk.new3 _ _ _ _ _
 have zW:W0.heap.size=w.heap.size+1+1+1:=by rw[hW0];simp
 clear hZ
 have A0:Z0.take 0=[]:=rfl
 go_enter Tryz.func119,Tryz.ntmps119
 go_upto_region 2 with(fail)
 rw[<-hW0]
 clear hW0 hzero
 go_wp2_with (first|(refine wpList_load_mid rfl 25 _ rfl (w.heap.size) 0 (by rfl) p0 _ R0 Tryz.underlying25 rfl (by rw[l0];kernel_rfl) ?_))
 refine(aQ5 (g0.ext X0) oM).mono ?_
 rintro e w1⟨_,rfl,x1,F0,o0⟩
 obtain⟨q0,rfl,lq0,cq0⟩:=o0.rd.cells
 have BR:=BR.ext x1;have BO:=BO.ext x1;have Y1:=X0.trans x1;have d0l:=o0.low;have zy1:=x1.size;have a1:=Ext.upd x1 [w.heap.size+1,w.heap.size+1+1]
 have R1:=As R1 x1
 go_wp2_with (first|(refine Cg rfl 70 _ _ rfl (w.heap.size+1+1) 0 (.agg q0.toArray) (q0) (by rfl) (by rfl) rfl 72 Z0 BO 4 2 n0 lq0 oM (by kernel_rfl) cq0 [w.heap.size+1,w.heap.size+1+1] (by simp) ?_;intro V1 Z1 b1 zv1 BO n1 A1 hB;have X1:=exU Y1 b1 (DK oM oM);have BR:=hB _ _ _ oM BR;rw[A0] at A1;clear hB A0;have R1:=bJ R1 b1 oM)|(refine wpList_load_mid rfl 25 _ rfl (w.heap.size) 2 (by rfl) p1 _ R1 Tryz.underlying25 rfl (by rw[l1];kernel_rfl) ?_))
 refine(aQ5 (g1.ext X1) oM).mono ?_
 rintro e w2⟨_,rfl,x2,F1,o1⟩
 obtain⟨q1,rfl,lq1,cq1⟩:=o1.rd.cells
 have BR:=BR.ext x2;have BO:=BO.ext x2;have Y2:=X1.trans x2;have d1l:=o1.low;have zy2:=x2.size;have a2:=Ext.upd x2 [w.heap.size+1,w.heap.size+1+1]
 go_upto_region 4 with(first|(refine Cg rfl 70 _ _ rfl (w.heap.size+1+1) 2 (.agg q1.toArray) (q1) (by rfl) (by rfl) rfl 72 Z1 BO 4 2 n1 lq1 oM (by kernel_rfl) cq1 [w.heap.size+1,w.heap.size+1+1] (by simp) ?_;intro V2 Z2 b2 zv2 BO n2 A2 hB;have X2:=exU Y2 b2 (DK oM oM);have BR:=hB _ _ _ oM BR;rw[A1] at A2;clear hB A1))
 have eZ:Z2=(q0++(q1++[])):=by
  rw[List.take_of_length_le oM] at A2
  rw[A2]
  simp only[List.append_assoc,List.nil_append,List.append_nil]
 have hone:∀x,x ∈ Z2->x.oneCell'=true:=by
  rw[eZ]
  intro x hx
  simp only[List.mem_append,List.mem_cons,List.not_mem_nil,or_false] at hx
  rcases hx with hx|hx
  .
   exact cq0 x hx
  exact cq1 x hx
 have eZ:=Lib.hid eZ
 clear A2
 go_wp2_with (first|(refine wpList_load_mid rfl 72 _ rfl (w.heap.size+1+1) 0 (by rfl) Z2 _ BO.ra Tryz.underlying72 rfl (by rw[n2];kernel_rfl) ?_)|(refine BA rfl 72 _ _ rfl (w.heap.size+1) 0 (.agg Z2.toArray) Z2 (by rfl) (by rfl) rfl 72 [] Z0 [] (Bk.cast BR (by simp)) rfl (by rw[n0,n2]) (by rw[n2];kernel_rfl) hone ?_;intro VZ hV BZ))
 have XZ:Ext w VZ:=Ext.ofSet hV X2 oM
 have BZ:=Bk.cast (C:=Z2) BZ (by simp)
 have zvz:VZ.heap.size=V2.heap.size:=(congrArg (fun W=>W.heap.size) hV).trans (wV _ _ _)
 have u2:Upd V2 VZ [w.heap.size+1,w.heap.size+1+1]:=VL hV (by simp)
 have s1:=b2.trans u2;have o1:=o1.keepK (Upd.chg s1 (GU oM oM));have u1:=a2.trans s1
 have s0:=b1.trans u1;have o0:=o0.keepK (Upd.chg s0 (GU oM oM))
 refine bodyPost_ret (v:=.agg Z2.toArray) (by first|exact results_cell_row rfl _ _ (w.heap.size+1) _ _ _ _ (by rfl) BZ Tryz.underlying72 rfl (by rw[List.size_toArray,n2];kernel_rfl)) rfl ?_
 refine⟨_,rfl,XZ,_,q0,q1,F0,F1,by rw[eZ.out],lq0,lq1,o0.monoK oM,o1.monoK oM,?_,rfl⟩
 repeat' (first|exact List.Pairwise.nil|(refine List.Pairwise.cons ?_ ?_))
 .
  intro b hb k hk hk2
  have hA:=d0l k hk
  simp only[List.mem_cons,List.not_mem_nil,or_false] at hb
  rcases hb with rfl
  have hB:=d1l k hk2;omega
 intro b hb;cases hb
end
def IM(w:World)(v:Value)(d:wG):Prop:=∃t3:Value,v=.agg ([Value.int .i64 d.Num]++([Value.int .i64 d.Base]++([Value.int .i64 d.Time]++([t3]++[])))).toArray/\JE w t3 d.Seen
def JY(B:Nat)(w:World)(v:Value)(d:wG)(F:List Nat):Prop:=∃t3:Value,∃F3:List Nat,v=.agg ([Value.int .i64 d.Num]++([Value.int .i64 d.Base]++([Value.int .i64 d.Time]++([t3]++[])))).toArray/\IG B w t3 d.Seen F3/\[F3].Pairwise (fun a b=>∀k,k ∈ a->k ∈ b->False)/\F=F3
def KP(d:wG):Nat:=PH d.Seen
section
variable {B B':Nat} {w w':World} {v:Value} {d:wG} {F:List Nat}
theorem IM.ext(h:IM w v d)(x:Ext w w'):IM w' v d:=by
 obtain⟨t3,e,g3⟩:=h
 exact⟨t3,e,g3.ext x⟩
theorem JY.rd(h:JY B w v d F):IM w v d:=by
 obtain⟨t3,F3,e,g3,hdj,hF⟩:=h
 exact⟨t3,e,g3.rd⟩
theorem JY.keep(h:JY B w v d F)(x:Chg B w w'):JY B w' v d F:=by
 obtain⟨t3,F3,e,g3,hdj,hF⟩:=h
 exact⟨t3,F3,e,g3.keep x,hdj,hF⟩
theorem JY.mono(h:JY B w v d F)(x:B'<=B):JY B' w v d F:=by
 obtain⟨t3,F3,e,g3,hdj,hF⟩:=h
 exact⟨t3,F3,e,g3.mono x,hdj,hF⟩
theorem JY.low(h:JY B w v d F):∀k,k ∈ F->B<=k/\k<w.heap.size:=by
 obtain⟨t3,F3,e,g3,hdj,rfl⟩:=h
 intro k hk
 exact g3.low k hk
theorem IM.cells(h:IM w v d):∃L:List Value,v=.agg L.toArray/\L.length=4/\∀x,x ∈ L->x.oneCell'=true:=by
 obtain⟨t3,rfl,g3⟩:=h
 refine⟨_,rfl,by simp[],?_⟩
 intro x hx
 simp only[List.mem_append,List.mem_cons,List.not_mem_nil,or_false] at hx
 rcases hx with rfl|rfl|rfl|rfl
 .
  rfl
 .
  rfl
 .
  rfl
 obtain⟨a,n,k,rfl⟩:=g3.shape;rfl
theorem bB4(h:IM w v d){left:Int}(h0:0<=left)(h1:left<=1048576):Calls Tryz.prog 97 #[v,.int .i64 left] w (Ret w fun v' _=>SzR left (KP d) v'):=by
 obtain⟨t3,rfl,g3⟩:=h
 unfold KP
 obtain⟨L,hL⟩:∃L:List Value,L=([Value.int .i64 d.Num]++([Value.int .i64 d.Base]++([Value.int .i64 d.Time]++([t3]++[])))):=⟨_,rfl⟩
 rw[<-hL]
 obtain⟨W0,hW0⟩:∃W0,W0=w.alloc (.cells L.toArray 30):=⟨_,rfl⟩
 have E0:Ext w W0:=by rw[hW0];exact(Ext.refl _).alloc _
 have r:W0.rangeAt w.heap.size 0 L:=by rw[hW0];exact(Bk.new _ _ _).ra
 rw[hL] at r;clear hL
 obtain⟨R0,r⟩:=An (m:=1) r rfl rfl
 have R0:=Az R0
 obtain⟨R1,r⟩:=An (m:=2) r rfl rfl
 have R1:=Az R1
 obtain⟨R2,r⟩:=An (m:=3) r rfl rfl
 have R2:=Az R2
 obtain⟨R3,r⟩:=An (m:=4) r rfl rfl
 have R3:=Az R3
 clear r
 go_enter Tryz.func97,Tryz.ntmps97
 go_upto_region 1 with(fail)
 rw[<-hW0]
 clear hW0
 have X0:Ext W0 W0:=Ext.refl _
 have cq3:=X0.cell R3
 go_wp2_with fail
 clear cq3
 refine(aQ2 (g3.ext (E0.trans X0)) (left:=left) oM oM).mono ?_
 rintro e w1⟨v1,rfl,x1,hv⟩
 have X1:=X0.trans x1
 rcases hv with⟨rfl,hq1⟩|⟨rfl,hq1⟩
 .
  go_wp2_with fail
  go_ret
  exact⟨_,rfl,E0.trans X1,.inl ⟨rfl,by omega⟩⟩
 obtain⟨z1,hz1⟩:∃z,z=left - (PH d.Seen:Nat):=⟨_,rfl⟩
 rw[<-hz1]
 have hy1:=Int.le_of_eq hz1;have hw1:=Int.le_of_eq hz1.symm;clear hz1
 have hd1:decide (z1<0)=false:=by simp;omega
 go_wp2_with fail
 go_ret
 exact⟨_,rfl,E0.trans X1,.inr ⟨congrArg (Value.int .i64) oM,by omega⟩⟩
theorem bB5{u:Value}(h:IM w v d)(k:IM w u d):Calls Tryz.prog 141 #[v,u] w (Fz w (.bool true)):=by
 obtain⟨t3,rfl,g3⟩:=h
 obtain⟨s3,rfl,f3⟩:=k
 obtain⟨L,hL⟩:∃L:List Value,L=([Value.int .i64 d.Num]++([Value.int .i64 d.Base]++([Value.int .i64 d.Time]++([t3]++[])))):=⟨_,rfl⟩
 obtain⟨M,hM⟩:∃L:List Value,L=([Value.int .i64 d.Num]++([Value.int .i64 d.Base]++([Value.int .i64 d.Time]++([s3]++[])))):=⟨_,rfl⟩
 rw[<-hL,<-hM]
 obtain⟨W0,hW0⟩:∃W0,W0=(w.alloc (.cells L.toArray 75)).alloc (.cells M.toArray 75):=⟨_,rfl⟩
 have E0:Ext w W0:=by rw[hW0];exact((Ext.refl _).alloc _).alloc _
 have r:W0.rangeAt w.heap.size 0 L:=by rw[hW0];exact Bk.ra (Bk.alloc (Bk.new _ _ _) _)
 rw[hL] at r;clear hL
 obtain⟨R0,r⟩:=An (m:=1) r rfl rfl
 have R0:=Az R0
 obtain⟨R1,r⟩:=An (m:=2) r rfl rfl
 have R1:=Az R1
 obtain⟨R2,r⟩:=An (m:=3) r rfl rfl
 have R2:=Az R2
 obtain⟨R3,r⟩:=An (m:=4) r rfl rfl
 have R3:=Az R3
 clear r
 have r:W0.rangeAt (w.heap.size+1) 0 M:=by rw[hW0];exact Bk.ra (Blk.new2 _ _ _ _)
 rw[hM] at r;clear hM
 obtain⟨S0,r⟩:=An (m:=1) r rfl rfl
 have S0:=Az S0
 obtain⟨S1,r⟩:=An (m:=2) r rfl rfl
 have S1:=Az S1
 obtain⟨S2,r⟩:=An (m:=3) r rfl rfl
 have S2:=Az S2
 obtain⟨S3,r⟩:=An (m:=4) r rfl rfl
 have S3:=Az S3
 clear r
 go_enter Tryz.func141,Tryz.ntmps141
 go_upto_region 1 with(fail)
 rw[<-hW0]
 clear hW0
 have X0:Ext W0 W0:=Ext.refl _
 have ca0:=X0.cell R0;have cb0:=X0.cell S0
 have ca1:=X0.cell R1;have cb1:=X0.cell S1
 have ca2:=X0.cell R2;have cb2:=X0.cell S2
 have ca3:=X0.cell R3;have cb3:=X0.cell S3
 go_wp2_with fail
 refine(aQ3 (g3.ext (E0.trans X0)) (f3.ext (E0.trans X0))).mono ?_
 rintro e w1⟨rfl,x1⟩
 have X1:=X0.trans x1
 clear ca0 cb0 ca1 cb1 ca2 cb2 ca3 cb3
 go_wp2_with fail
 go_ret
 exact⟨rfl,E0.trans X1⟩
theorem bB6(h:IM w v d)(hs:KP d<=1048576):Calls Tryz.prog 120 #[v] w (Ret w fun v' w'=>∃F,JY w.heap.size w' v' d F):=by
 obtain⟨t3,rfl,g3⟩:=h
 unfold KP at hs
 have hzero:=(zero_of_info (P:=Tryz.prog) (t:=75) (v:=.agg #[.int .i64 0,.int .i64 0,.int .i64 0,.slice none 0 0]) (n:=4) (by kernel_rfl)).1
 obtain⟨Z0,hZ⟩:∃Z:List Value,Z=[Value.int .i64 0,Value.int .i64 0,Value.int .i64 0,Value.slice none 0 0]:=⟨_,rfl⟩
 have n0:Z0.length=4:=by rw[hZ];rfl
 obtain⟨L,hL⟩:∃L:List Value,L=([Value.int .i64 d.Num]++([Value.int .i64 d.Base]++([Value.int .i64 d.Time]++([t3]++[])))):=⟨_,rfl⟩
 rw[<-hL]
 obtain⟨W0,hW0⟩:∃W0,W0=((w.alloc (.cells L.toArray 30)).alloc (.cells #[.int .i64 0,.int .i64 0,.int .i64 0,.slice none 0 0] 75)).alloc (.cells #[.int .i64 0,.int .i64 0,.int .i64 0,.slice none 0 0] 75):=⟨_,rfl⟩
 have X0:Ext w W0:=by rw[hW0];exact(((Ext.refl _).alloc _).alloc _).alloc _
 have r:W0.rangeAt w.heap.size 0 L:=by rw[hW0];exact Bk.ra (Bk.alloc (Bk.alloc (Bk.new _ _ _) _) _)
 rw[hL] at r;clear hL
 obtain⟨R0,r⟩:=An (m:=1) r rfl rfl
 have R0:=Az R0
 obtain⟨R1,r⟩:=An (m:=2) r rfl rfl
 have R1:=Az R1
 obtain⟨R2,r⟩:=An (m:=3) r rfl rfl
 have R2:=Az R2
 obtain⟨R3,r⟩:=An (m:=4) r rfl rfl
 have R3:=Az R3
 clear r
 have BR:Bk W0 (w.heap.size+1) 75 Z0:=by rw[hW0,hZ];exact Bk.alloc (Blk.new2 _ _ _ _) _
 have BO:Bk W0 (w.heap.size+1+1) 75 Z0:=by rw[hW0,hZ];exact Blk.new3 _ _ _ _ _
 have zW:W0.heap.size=w.heap.size+1+1+1:=by rw[hW0];simp
 clear hZ
 have A0:Z0.take 0=[]:=rfl
 go_enter Tryz.func120,Tryz.ntmps120
 go_upto_region 2 with(fail)
 rw[<-hW0]
 clear hW0 hzero
 go_wp2_with (first|(refine Cg rfl 2 _ _ rfl (w.heap.size+1+1) 0 (Value.int .i64 d.Num) ([Value.int .i64 d.Num]) (by rfl) (by rfl) rfl 75 Z0 BO 4 1 n0 rfl oM (by kernel_rfl) (by intro x hx;simp only[List.mem_cons,List.not_mem_nil,or_false] at hx;subst hx;rfl) [w.heap.size+1,w.heap.size+1+1] (by simp) ?_;intro V1 Z1 b1 zv1 BO n1 A1 hB;have X1:=exU X0 b1 (DK oM oM);have BR:=hB _ _ _ oM BR;rw[A0] at A1;clear hB A0;have R1:=Oi R1 b1 oM;have R2:=Oi R2 b1 oM;have R3:=Oi R3 b1 oM)|(refine Cg rfl 2 _ _ rfl (w.heap.size+1+1) 1 (Value.int .i64 d.Base) ([Value.int .i64 d.Base]) (by rfl) (by rfl) rfl 75 Z1 BO 4 1 n1 rfl oM (by kernel_rfl) (by intro x hx;simp only[List.mem_cons,List.not_mem_nil,or_false] at hx;subst hx;rfl) [w.heap.size+1,w.heap.size+1+1] (by simp) ?_;intro V2 Z2 b2 zv2 BO n2 A2 hB;have X2:=exU X1 b2 (DK oM oM);have BR:=hB _ _ _ oM BR;rw[A1] at A2;clear hB A1;have R2:=Oi R2 b2 oM;have R3:=Oi R3 b2 oM)|(refine Cg rfl 2 _ _ rfl (w.heap.size+1+1) 2 (Value.int .i64 d.Time) ([Value.int .i64 d.Time]) (by rfl) (by rfl) rfl 75 Z2 BO 4 1 n2 rfl oM (by kernel_rfl) (by intro x hx;simp only[List.mem_cons,List.not_mem_nil,or_false] at hx;subst hx;rfl) [w.heap.size+1,w.heap.size+1+1] (by simp) ?_;intro V3 Z3 b3 zv3 BO n3 A3 hB;have X3:=exU X2 b3 (DK oM oM);have BR:=hB _ _ _ oM BR;rw[A2] at A3;clear hB A2;have R3:=Oi R3 b3 oM))
 refine(aQ1 (g3.ext X3) oM).mono ?_
 rintro e w4⟨_,rfl,x4,F3,o3⟩
 obtain⟨ua3,un3,uc3,rfl⟩:=o3.rd.shape
 have BR:=BR.ext x4;have BO:=BO.ext x4;have Y4:=X3.trans x4;have d3l:=o3.low;have zy4:=x4.size;have a4:=Ext.upd x4 [w.heap.size+1,w.heap.size+1+1]
 go_upto_region 6 with(first|(refine Cg rfl 73 _ _ rfl (w.heap.size+1+1) 3 (Value.slice ua3 un3 uc3) ([(Value.slice ua3 un3 uc3)]) (by rfl) (by rfl) rfl 75 Z3 BO 4 1 n3 rfl oM (by kernel_rfl) (by intro x hx;simp only[List.mem_cons,List.not_mem_nil,or_false] at hx;subst hx;rfl) [w.heap.size+1,w.heap.size+1+1] (by simp) ?_;intro V4 Z4 b4 zv4 BO n4 A4 hB;have X4:=exU Y4 b4 (DK oM oM);have BR:=hB _ _ _ oM BR;rw[A3] at A4;clear hB A3))
 have eZ:Z4=([Value.int .i64 d.Num]++([Value.int .i64 d.Base]++([Value.int .i64 d.Time]++([(Value.slice ua3 un3 uc3)]++[])))):=by
  rw[List.take_of_length_le oM] at A4
  rw[A4]
  simp only[List.append_assoc,List.nil_append,List.append_nil]
 have hone:∀x,x ∈ Z4->x.oneCell'=true:=by
  rw[eZ]
  intro x hx
  simp only[List.mem_append,List.mem_cons,List.not_mem_nil,or_false] at hx
  rcases hx with rfl|rfl|rfl|rfl
  .
   rfl
  .
   rfl
  .
   rfl
  rfl
 have eZ:=Lib.hid eZ
 clear A4
 go_wp2_with (first|(refine wpList_load_mid rfl 75 _ rfl (w.heap.size+1+1) 0 (by rfl) Z4 _ BO.ra Tryz.underlying75 rfl (by rw[n4];kernel_rfl) ?_)|(refine BA rfl 75 _ _ rfl (w.heap.size+1) 0 (.agg Z4.toArray) Z4 (by rfl) (by rfl) rfl 75 [] Z0 [] (Bk.cast BR (by simp)) rfl (by rw[n0,n4]) (by rw[n4];kernel_rfl) hone ?_;intro VZ hV BZ))
 have XZ:Ext w VZ:=Ext.ofSet hV X4 oM
 have BZ:=Bk.cast (C:=Z4) BZ (by simp)
 have zvz:VZ.heap.size=V4.heap.size:=(congrArg (fun W=>W.heap.size) hV).trans (wV _ _ _)
 have u4:Upd V4 VZ [w.heap.size+1,w.heap.size+1+1]:=VL hV (by simp)
 have s3:=b4.trans u4;have o3:=o3.keep (Upd.chg s3 (GU oM oM));have u3:=a4.trans s3
 have u2:=b3.trans u3
 have u1:=b2.trans u2
 refine bodyPost_ret (v:=.agg Z4.toArray) (by first|exact results_cell_row rfl _ _ (w.heap.size+1) _ _ _ _ (by rfl) BZ Tryz.underlying75 rfl (by rw[List.size_toArray,n4];kernel_rfl)) rfl ?_
 refine⟨_,rfl,XZ,_,_,F3,by rw[eZ.out],o3.mono oM,?_,rfl⟩
 repeat' (first|exact List.Pairwise.nil|(refine List.Pairwise.cons ?_ ?_))
 intro b hb;cases hb
end
def OK(w:World)(v:Value)(d:iY):Prop:=∃t2:Value,v=.agg ([Value.int .i64 d.Base]++([Value.int .i64 d.Time]++([t2]++[]))).toArray/\JW w t2 d.Entries
def LH(B:Nat)(w:World)(v:Value)(d:iY)(F:List Nat):Prop:=∃t2:Value,∃F2:List Nat,v=.agg ([Value.int .i64 d.Base]++([Value.int .i64 d.Time]++([t2]++[]))).toArray/\GF B w t2 d.Entries F2/\[F2].Pairwise (fun a b=>∀k,k ∈ a->k ∈ b->False)/\F=F2
def OS(d:iY):Nat:=QX d.Entries
section
variable {B B':Nat} {w w':World} {v:Value} {d:iY} {F:List Nat}
theorem OK.ext(h:OK w v d)(x:Ext w w'):OK w' v d:=by
 obtain⟨t2,e,g2⟩:=h
 exact⟨t2,e,g2.ext x⟩
theorem LH.rd(h:LH B w v d F):OK w v d:=by
 obtain⟨t2,F2,e,g2,hdj,hF⟩:=h
 exact⟨t2,e,g2.rd⟩
theorem LH.keep(h:LH B w v d F)(x:Chg B w w'):LH B w' v d F:=by
 obtain⟨t2,F2,e,g2,hdj,hF⟩:=h
 exact⟨t2,F2,e,g2.keep x,hdj,hF⟩
theorem LH.mono(h:LH B w v d F)(x:B'<=B):LH B' w v d F:=by
 obtain⟨t2,F2,e,g2,hdj,hF⟩:=h
 exact⟨t2,F2,e,g2.mono x,hdj,hF⟩
theorem LH.low(h:LH B w v d F):∀k,k ∈ F->B<=k/\k<w.heap.size:=by
 obtain⟨t2,F2,e,g2,hdj,rfl⟩:=h
 intro k hk
 exact g2.low k hk
theorem OK.cells(h:OK w v d):∃L:List Value,v=.agg L.toArray/\L.length=3/\∀x,x ∈ L->x.oneCell'=true:=by
 obtain⟨t2,rfl,g2⟩:=h
 refine⟨_,rfl,by simp[],?_⟩
 intro x hx
 simp only[List.mem_append,List.mem_cons,List.not_mem_nil,or_false] at hx
 rcases hx with rfl|rfl|rfl
 .
  rfl
 .
  rfl
 obtain⟨a,n,k,rfl⟩:=g2.shape;rfl
theorem cG0(h:OK w v d){left:Int}(h0:0<=left)(h1:left<=1048576):Calls Tryz.prog 98 #[v,.int .i64 left] w (Ret w fun v' _=>SzR left (OS d) v'):=by
 obtain⟨t2,rfl,g2⟩:=h
 unfold OS
 obtain⟨L,hL⟩:∃L:List Value,L=([Value.int .i64 d.Base]++([Value.int .i64 d.Time]++([t2]++[]))):=⟨_,rfl⟩
 rw[<-hL]
 obtain⟨W0,hW0⟩:∃W0,W0=w.alloc (.cells L.toArray 33):=⟨_,rfl⟩
 have E0:Ext w W0:=by rw[hW0];exact(Ext.refl _).alloc _
 have r:W0.rangeAt w.heap.size 0 L:=by rw[hW0];exact(Bk.new _ _ _).ra
 rw[hL] at r;clear hL
 obtain⟨R0,r⟩:=An (m:=1) r rfl rfl
 have R0:=Az R0
 obtain⟨R1,r⟩:=An (m:=2) r rfl rfl
 have R1:=Az R1
 obtain⟨R2,r⟩:=An (m:=3) r rfl rfl
 have R2:=Az R2
 clear r
 go_enter Tryz.func98,Tryz.ntmps98
 go_upto_region 1 with(fail)
 rw[<-hW0]
 clear hW0
 have X0:Ext W0 W0:=Ext.refl _
 have cq2:=X0.cell R2
 go_wp2_with fail
 clear cq2
 refine(bJ2 (g2.ext (E0.trans X0)) (left:=left) oM oM).mono ?_
 rintro e w1⟨v1,rfl,x1,hv⟩
 have X1:=X0.trans x1
 rcases hv with⟨rfl,hq1⟩|⟨rfl,hq1⟩
 .
  go_wp2_with fail
  go_ret
  exact⟨_,rfl,E0.trans X1,.inl ⟨rfl,by omega⟩⟩
 obtain⟨z1,hz1⟩:∃z,z=left - (QX d.Entries:Nat):=⟨_,rfl⟩
 rw[<-hz1]
 have hy1:=Int.le_of_eq hz1;have hw1:=Int.le_of_eq hz1.symm;clear hz1
 have hd1:decide (z1<0)=false:=by simp;omega
 go_wp2_with fail
 go_ret
 exact⟨_,rfl,E0.trans X1,.inr ⟨congrArg (Value.int .i64) oM,by omega⟩⟩
theorem cG1{u:Value}(h:OK w v d)(k:OK w u d):Calls Tryz.prog 142 #[v,u] w (Fz w (.bool true)):=by
 obtain⟨t2,rfl,g2⟩:=h
 obtain⟨s2,rfl,f2⟩:=k
 obtain⟨L,hL⟩:∃L:List Value,L=([Value.int .i64 d.Base]++([Value.int .i64 d.Time]++([t2]++[]))):=⟨_,rfl⟩
 obtain⟨M,hM⟩:∃L:List Value,L=([Value.int .i64 d.Base]++([Value.int .i64 d.Time]++([s2]++[]))):=⟨_,rfl⟩
 rw[<-hL,<-hM]
 obtain⟨W0,hW0⟩:∃W0,W0=(w.alloc (.cells L.toArray 78)).alloc (.cells M.toArray 78):=⟨_,rfl⟩
 have E0:Ext w W0:=by rw[hW0];exact((Ext.refl _).alloc _).alloc _
 have r:W0.rangeAt w.heap.size 0 L:=by rw[hW0];exact Bk.ra (Bk.alloc (Bk.new _ _ _) _)
 rw[hL] at r;clear hL
 obtain⟨R0,r⟩:=An (m:=1) r rfl rfl
 have R0:=Az R0
 obtain⟨R1,r⟩:=An (m:=2) r rfl rfl
 have R1:=Az R1
 obtain⟨R2,r⟩:=An (m:=3) r rfl rfl
 have R2:=Az R2
 clear r
 have r:W0.rangeAt (w.heap.size+1) 0 M:=by rw[hW0];exact Bk.ra (Blk.new2 _ _ _ _)
 rw[hM] at r;clear hM
 obtain⟨S0,r⟩:=An (m:=1) r rfl rfl
 have S0:=Az S0
 obtain⟨S1,r⟩:=An (m:=2) r rfl rfl
 have S1:=Az S1
 obtain⟨S2,r⟩:=An (m:=3) r rfl rfl
 have S2:=Az S2
 clear r
 go_enter Tryz.func142,Tryz.ntmps142
 go_upto_region 1 with(fail)
 rw[<-hW0]
 clear hW0
 have X0:Ext W0 W0:=Ext.refl _
 have ca0:=X0.cell R0;have cb0:=X0.cell S0
 have ca1:=X0.cell R1;have cb1:=X0.cell S1
 have ca2:=X0.cell R2;have cb2:=X0.cell S2
 go_wp2_with fail
 refine(bJ3 (g2.ext (E0.trans X0)) (f2.ext (E0.trans X0))).mono ?_
 rintro e w1⟨rfl,x1⟩
 have X1:=X0.trans x1
 clear ca0 cb0 ca1 cb1 ca2 cb2
 go_wp2_with fail
 go_ret
 exact⟨rfl,E0.trans X1⟩
theorem cG2(h:OK w v d)(hs:OS d<=1048576):Calls Tryz.prog 121 #[v] w (Ret w fun v' w'=>∃F,LH w.heap.size w' v' d F):=by
 obtain⟨t2,rfl,g2⟩:=h
 unfold OS at hs
 have hzero:=(zero_of_info (P:=Tryz.prog) (t:=78) (v:=.agg #[.int .i64 0,.int .i64 0,.slice none 0 0]) (n:=3) (by kernel_rfl)).1
 obtain⟨Z0,hZ⟩:∃Z:List Value,Z=[Value.int .i64 0,Value.int .i64 0,Value.slice none 0 0]:=⟨_,rfl⟩
 have n0:Z0.length=3:=by rw[hZ];rfl
 obtain⟨L,hL⟩:∃L:List Value,L=([Value.int .i64 d.Base]++([Value.int .i64 d.Time]++([t2]++[]))):=⟨_,rfl⟩
 rw[<-hL]
 obtain⟨W0,hW0⟩:∃W0,W0=((w.alloc (.cells L.toArray 33)).alloc (.cells #[.int .i64 0,.int .i64 0,.slice none 0 0] 78)).alloc (.cells #[.int .i64 0,.int .i64 0,.slice none 0 0] 78):=⟨_,rfl⟩
 have X0:Ext w W0:=by rw[hW0];exact(((Ext.refl _).alloc _).alloc _).alloc _
 have r:W0.rangeAt w.heap.size 0 L:=by rw[hW0];exact Bk.ra (Bk.alloc (Bk.alloc (Bk.new _ _ _) _) _)
 rw[hL] at r;clear hL
 obtain⟨R0,r⟩:=An (m:=1) r rfl rfl
 have R0:=Az R0
 obtain⟨R1,r⟩:=An (m:=2) r rfl rfl
 have R1:=Az R1
 obtain⟨R2,r⟩:=An (m:=3) r rfl rfl
 have R2:=Az R2
 clear r
 have BR:Bk W0 (w.heap.size+1) 78 Z0:=by rw[hW0,hZ];exact Bk.alloc (Blk.new2 _ _ _ _) _
 have BO:Bk W0 (w.heap.size+1+1) 78 Z0:=by rw[hW0,hZ];exact Blk.new3 _ _ _ _ _
 have zW:W0.heap.size=w.heap.size+1+1+1:=by rw[hW0];simp
 clear hZ
 have A0:Z0.take 0=[]:=rfl
 go_enter Tryz.func121,Tryz.ntmps121
 go_upto_region 2 with(fail)
 rw[<-hW0]
 clear hW0 hzero
 go_wp2_with (first|(refine Cg rfl 2 _ _ rfl (w.heap.size+1+1) 0 (Value.int .i64 d.Base) ([Value.int .i64 d.Base]) (by rfl) (by rfl) rfl 78 Z0 BO 3 1 n0 rfl oM (by kernel_rfl) (by intro x hx;simp only[List.mem_cons,List.not_mem_nil,or_false] at hx;subst hx;rfl) [w.heap.size+1,w.heap.size+1+1] (by simp) ?_;intro V1 Z1 b1 zv1 BO n1 A1 hB;have X1:=exU X0 b1 (DK oM oM);have BR:=hB _ _ _ oM BR;rw[A0] at A1;clear hB A0;have R1:=Oi R1 b1 oM;have R2:=Oi R2 b1 oM)|(refine Cg rfl 2 _ _ rfl (w.heap.size+1+1) 1 (Value.int .i64 d.Time) ([Value.int .i64 d.Time]) (by rfl) (by rfl) rfl 78 Z1 BO 3 1 n1 rfl oM (by kernel_rfl) (by intro x hx;simp only[List.mem_cons,List.not_mem_nil,or_false] at hx;subst hx;rfl) [w.heap.size+1,w.heap.size+1+1] (by simp) ?_;intro V2 Z2 b2 zv2 BO n2 A2 hB;have X2:=exU X1 b2 (DK oM oM);have BR:=hB _ _ _ oM BR;rw[A1] at A2;clear hB A1;have R2:=Oi R2 b2 oM))
 refine(bJ1 (g2.ext X2) oM).mono ?_
 rintro e w3⟨_,rfl,x3,F2,o2⟩
 obtain⟨ua2,un2,uc2,rfl⟩:=o2.rd.shape
 have BR:=BR.ext x3;have BO:=BO.ext x3;have Y3:=X2.trans x3;have d2l:=o2.low;have zy3:=x3.size;have a3:=Ext.upd x3 [w.heap.size+1,w.heap.size+1+1]
 go_upto_region 5 with(first|(refine Cg rfl 76 _ _ rfl (w.heap.size+1+1) 2 (Value.slice ua2 un2 uc2) ([(Value.slice ua2 un2 uc2)]) (by rfl) (by rfl) rfl 78 Z2 BO 3 1 n2 rfl oM (by kernel_rfl) (by intro x hx;simp only[List.mem_cons,List.not_mem_nil,or_false] at hx;subst hx;rfl) [w.heap.size+1,w.heap.size+1+1] (by simp) ?_;intro V3 Z3 b3 zv3 BO n3 A3 hB;have X3:=exU Y3 b3 (DK oM oM);have BR:=hB _ _ _ oM BR;rw[A2] at A3;clear hB A2))
 have eZ:Z3=([Value.int .i64 d.Base]++([Value.int .i64 d.Time]++([(Value.slice ua2 un2 uc2)]++[]))):=by
  rw[List.take_of_length_le oM] at A3
  rw[A3]
  simp only[List.append_assoc,List.nil_append,List.append_nil]
 have hone:∀x,x ∈ Z3->x.oneCell'=true:=by
  rw[eZ]
  intro x hx
  simp only[List.mem_append,List.mem_cons,List.not_mem_nil,or_false] at hx
  rcases hx with rfl|rfl|rfl
  .
   rfl
  .
   rfl
  rfl
 have eZ:=Lib.hid eZ
 clear A3
 go_wp2_with (first|(refine wpList_load_mid rfl 78 _ rfl (w.heap.size+1+1) 0 (by rfl) Z3 _ BO.ra Tryz.underlying78 rfl (by rw[n3];kernel_rfl) ?_)|(refine BA rfl 78 _ _ rfl (w.heap.size+1) 0 (.agg Z3.toArray) Z3 (by rfl) (by rfl) rfl 78 [] Z0 [] (Bk.cast BR (by simp)) rfl (by rw[n0,n3]) (by rw[n3];kernel_rfl) hone ?_;intro VZ hV BZ))
 have XZ:Ext w VZ:=Ext.ofSet hV X3 oM
 have BZ:=Bk.cast (C:=Z3) BZ (by simp)
 have zvz:VZ.heap.size=V3.heap.size:=(congrArg (fun W=>W.heap.size) hV).trans (wV _ _ _)
 have u3:Upd V3 VZ [w.heap.size+1,w.heap.size+1+1]:=VL hV (by simp)
 have s2:=b3.trans u3;have o2:=o2.keep (Upd.chg s2 (GU oM oM));have u2:=a3.trans s2
 have u1:=b2.trans u2
 refine bodyPost_ret (v:=.agg Z3.toArray) (by first|exact results_cell_row rfl _ _ (w.heap.size+1) _ _ _ _ (by rfl) BZ Tryz.underlying78 rfl (by rw[List.size_toArray,n3];kernel_rfl)) rfl ?_
 refine⟨_,rfl,XZ,_,_,F2,by rw[eZ.out],o2.mono oM,?_,rfl⟩
 repeat' (first|exact List.Pairwise.nil|(refine List.Pairwise.cons ?_ ?_))
 intro b hb;cases hb
end
def CU(w:World)(v:Value)(d:AN):Prop:=∃t1:Value,∃t2:Value,v=.agg ([Value.int .i64 d.Id]++([t1]++([t2]++([Value.int .i64 d.Last]++[])))).toArray/\MX w t1 d.Todo/\PK w t2 d.Gots
def FV(B:Nat)(w:World)(v:Value)(d:AN)(F:List Nat):Prop:=∃t1:Value,∃t2:Value,∃F1:List Nat,∃F2:List Nat,v=.agg ([Value.int .i64 d.Id]++([t1]++([t2]++([Value.int .i64 d.Last]++[])))).toArray/\IN B w t1 d.Todo F1/\LD B w t2 d.Gots F2/\[F1,F2].Pairwise (fun a b=>∀k,k ∈ a->k ∈ b->False)/\F=F1++F2
def ID(d:AN):Nat:=TJ d.Todo+WF d.Gots
section
variable {B B':Nat} {w w':World} {v:Value} {d:AN} {F:List Nat}
theorem CU.ext(h:CU w v d)(x:Ext w w'):CU w' v d:=by
 obtain⟨t1,t2,e,g1,g2⟩:=h
 exact⟨t1,t2,e,g1.ext x,g2.ext x⟩
theorem FV.rd(h:FV B w v d F):CU w v d:=by
 obtain⟨t1,t2,F1,F2,e,g1,g2,hdj,hF⟩:=h
 exact⟨t1,t2,e,g1.rd,g2.rd⟩
theorem FV.keep(h:FV B w v d F)(x:Chg B w w'):FV B w' v d F:=by
 obtain⟨t1,t2,F1,F2,e,g1,g2,hdj,hF⟩:=h
 exact⟨t1,t2,F1,F2,e,g1.keep x,g2.keep x,hdj,hF⟩
theorem FV.mono(h:FV B w v d F)(x:B'<=B):FV B' w v d F:=by
 obtain⟨t1,t2,F1,F2,e,g1,g2,hdj,hF⟩:=h
 exact⟨t1,t2,F1,F2,e,g1.mono x,g2.mono x,hdj,hF⟩
theorem FV.low(h:FV B w v d F):∀k,k ∈ F->B<=k/\k<w.heap.size:=by
 obtain⟨t1,t2,F1,F2,e,g1,g2,hdj,rfl⟩:=h
 intro k hk
 simp only[List.mem_append] at hk
 rcases hk with hk|hk
 .
  exact g1.low k hk
 exact g2.low k hk
theorem CU.cells(h:CU w v d):∃L:List Value,v=.agg L.toArray/\L.length=4/\∀x,x ∈ L->x.oneCell'=true:=by
 obtain⟨t1,t2,rfl,g1,g2⟩:=h
 refine⟨_,rfl,by simp[],?_⟩
 intro x hx
 simp only[List.mem_append,List.mem_cons,List.not_mem_nil,or_false] at hx
 rcases hx with rfl|rfl|rfl|rfl
 .
  rfl
 .
  obtain⟨a,n,k,rfl⟩:=g1.shape;rfl
 .
  obtain⟨a,n,k,rfl⟩:=g2.shape;rfl
 rfl
theorem aG5(h:CU w v d){left:Int}(h0:0<=left)(h1:left<=1048576):Calls Tryz.prog 36 #[v,.int .i64 left] w (Ret w fun v' _=>SzR left (ID d) v'):=by
 obtain⟨t1,t2,rfl,g1,g2⟩:=h
 unfold ID
 obtain⟨L,hL⟩:∃L:List Value,L=([Value.int .i64 d.Id]++([t1]++([t2]++([Value.int .i64 d.Last]++[])))):=⟨_,rfl⟩
 rw[<-hL]
 obtain⟨W0,hW0⟩:∃W0,W0=w.alloc (.cells L.toArray 57):=⟨_,rfl⟩
 have E0:Ext w W0:=by rw[hW0];exact(Ext.refl _).alloc _
 have r:W0.rangeAt w.heap.size 0 L:=by rw[hW0];exact(Bk.new _ _ _).ra
 rw[hL] at r;clear hL
 obtain⟨R0,r⟩:=An (m:=1) r rfl rfl
 have R0:=Az R0
 obtain⟨R1,r⟩:=An (m:=2) r rfl rfl
 have R1:=Az R1
 obtain⟨R2,r⟩:=An (m:=3) r rfl rfl
 have R2:=Az R2
 obtain⟨R3,r⟩:=An (m:=4) r rfl rfl
 have R3:=Az R3
 clear r
 go_enter Tryz.func36,Tryz.ntmps36
 go_upto_region 1 with(fail)
 rw[<-hW0]
 clear hW0
 have X0:Ext W0 W0:=Ext.refl _
 have cq1:=X0.cell R1
 go_wp2_with fail
 clear cq1
 refine(bT7 (g1.ext (E0.trans X0)) (left:=left) oM oM).mono ?_
 rintro e w1⟨v1,rfl,x1,hv⟩
 have X1:=X0.trans x1
 rcases hv with⟨rfl,hq1⟩|⟨rfl,hq1⟩
 .
  go_wp2_with fail
  go_ret
  exact⟨_,rfl,E0.trans X1,.inl ⟨rfl,by omega⟩⟩
 obtain⟨z1,hz1⟩:∃z,z=left - (TJ d.Todo:Nat):=⟨_,rfl⟩
 rw[<-hz1]
 have hy1:=Int.le_of_eq hz1;have hw1:=Int.le_of_eq hz1.symm;clear hz1
 have hd1:decide (z1<0)=false:=by simp;omega
 have cq2:=X1.cell R2
 go_wp2_with fail
 clear cq2
 refine(cF5 (g2.ext (E0.trans X1)) (left:=z1) oM oM).mono ?_
 rintro e w2⟨v2,rfl,x2,hv⟩
 have X2:=X1.trans x2
 rcases hv with⟨rfl,hq2⟩|⟨rfl,hq2⟩
 .
  go_wp2_with fail
  go_ret
  exact⟨_,rfl,E0.trans X2,.inl ⟨rfl,by omega⟩⟩
 obtain⟨z2,hz2⟩:∃z,z=z1 - (WF d.Gots:Nat):=⟨_,rfl⟩
 rw[<-hz2]
 have hy2:=Int.le_of_eq hz2;have hw2:=Int.le_of_eq hz2.symm;clear hz2
 have hd2:decide (z2<0)=false:=by simp;omega
 go_wp2_with fail
 go_ret
 exact⟨_,rfl,E0.trans X2,.inr ⟨congrArg (Value.int .i64) oM,by omega⟩⟩
theorem aG6{u:Value}(h:CU w v d)(k:CU w u d):Calls Tryz.prog 55 #[v,u] w (Fz w (.bool true)):=by
 obtain⟨t1,t2,rfl,g1,g2⟩:=h
 obtain⟨s1,s2,rfl,f1,f2⟩:=k
 obtain⟨L,hL⟩:∃L:List Value,L=([Value.int .i64 d.Id]++([t1]++([t2]++([Value.int .i64 d.Last]++[])))):=⟨_,rfl⟩
 obtain⟨M,hM⟩:∃L:List Value,L=([Value.int .i64 d.Id]++([s1]++([s2]++([Value.int .i64 d.Last]++[])))):=⟨_,rfl⟩
 rw[<-hL,<-hM]
 obtain⟨W0,hW0⟩:∃W0,W0=(w.alloc (.cells L.toArray 100)).alloc (.cells M.toArray 100):=⟨_,rfl⟩
 have E0:Ext w W0:=by rw[hW0];exact((Ext.refl _).alloc _).alloc _
 have r:W0.rangeAt w.heap.size 0 L:=by rw[hW0];exact Bk.ra (Bk.alloc (Bk.new _ _ _) _)
 rw[hL] at r;clear hL
 obtain⟨R0,r⟩:=An (m:=1) r rfl rfl
 have R0:=Az R0
 obtain⟨R1,r⟩:=An (m:=2) r rfl rfl
 have R1:=Az R1
 obtain⟨R2,r⟩:=An (m:=3) r rfl rfl
 have R2:=Az R2
 obtain⟨R3,r⟩:=An (m:=4) r rfl rfl
 have R3:=Az R3
 clear r
 have r:W0.rangeAt (w.heap.size+1) 0 M:=by rw[hW0];exact Bk.ra (Blk.new2 _ _ _ _)
 rw[hM] at r;clear hM
 obtain⟨S0,r⟩:=An (m:=1) r rfl rfl
 have S0:=Az S0
 obtain⟨S1,r⟩:=An (m:=2) r rfl rfl
 have S1:=Az S1
 obtain⟨S2,r⟩:=An (m:=3) r rfl rfl
 have S2:=Az S2
 obtain⟨S3,r⟩:=An (m:=4) r rfl rfl
 have S3:=Az S3
 clear r
 go_enter Tryz.func55,Tryz.ntmps55
 go_upto_region 1 with(fail)
 rw[<-hW0]
 clear hW0
 have X0:Ext W0 W0:=Ext.refl _
 have ca0:=X0.cell R0;have cb0:=X0.cell S0
 have ca1:=X0.cell R1;have cb1:=X0.cell S1
 go_wp2_with fail
 refine(bT8 (g1.ext (E0.trans X0)) (f1.ext (E0.trans X0))).mono ?_
 rintro e w1⟨rfl,x1⟩
 have X1:=X0.trans x1
 clear ca0 cb0 ca1 cb1
 have ca2:=X1.cell R2;have cb2:=X1.cell S2
 go_wp2_with fail
 refine(cF6 (g2.ext (E0.trans X1)) (f2.ext (E0.trans X1))).mono ?_
 rintro e w2⟨rfl,x2⟩
 have X2:=X1.trans x2
 clear ca2 cb2
 have ca3:=X2.cell R3;have cb3:=X2.cell S3
 go_wp2_with fail
 go_ret
 exact⟨rfl,E0.trans X2⟩
theorem aG7(h:CU w v d)(hs:ID d<=1048576):Calls Tryz.prog 46 #[v] w (Ret w fun v' w'=>∃F,FV w.heap.size w' v' d F):=by
 obtain⟨t1,t2,rfl,g1,g2⟩:=h
 unfold ID at hs
 have hzero:=(zero_of_info (P:=Tryz.prog) (t:=100) (v:=.agg #[.int .i64 0,.slice none 0 0,.slice none 0 0,.int .i64 0]) (n:=4) (by kernel_rfl)).1
 obtain⟨Z0,hZ⟩:∃Z:List Value,Z=[Value.int .i64 0,Value.slice none 0 0,Value.slice none 0 0,Value.int .i64 0]:=⟨_,rfl⟩
 have n0:Z0.length=4:=by rw[hZ];rfl
 obtain⟨L,hL⟩:∃L:List Value,L=([Value.int .i64 d.Id]++([t1]++([t2]++([Value.int .i64 d.Last]++[])))):=⟨_,rfl⟩
 rw[<-hL]
 obtain⟨W0,hW0⟩:∃W0,W0=((w.alloc (.cells L.toArray 57)).alloc (.cells #[.int .i64 0,.slice none 0 0,.slice none 0 0,.int .i64 0] 100)).alloc (.cells #[.int .i64 0,.slice none 0 0,.slice none 0 0,.int .i64 0] 100):=⟨_,rfl⟩
 have X0:Ext w W0:=by rw[hW0];exact(((Ext.refl _).alloc _).alloc _).alloc _
 have r:W0.rangeAt w.heap.size 0 L:=by rw[hW0];exact Bk.ra (Bk.alloc (Bk.alloc (Bk.new _ _ _) _) _)
 rw[hL] at r;clear hL
 obtain⟨R0,r⟩:=An (m:=1) r rfl rfl
 have R0:=Az R0
 obtain⟨R1,r⟩:=An (m:=2) r rfl rfl
 have R1:=Az R1
 obtain⟨R2,r⟩:=An (m:=3) r rfl rfl
 have R2:=Az R2
 obtain⟨R3,r⟩:=An (m:=4) r rfl rfl
 have R3:=Az R3
 clear r
 have BR:Bk W0 (w.heap.size+1) 100 Z0:=by rw[hW0,hZ];exact Bk.alloc (Blk.new2 _ _ _ _) _
 have BO:Bk W0 (w.heap.size+1+1) 100 Z0:=by rw[hW0,hZ];exact Blk.new3 _ _ _ _ _
 have zW:W0.heap.size=w.heap.size+1+1+1:=by rw[hW0];simp
 clear hZ
 have A0:Z0.take 0=[]:=rfl
 go_enter Tryz.func46,Tryz.ntmps46
 go_upto_region 2 with(fail)
 rw[<-hW0]
 clear hW0 hzero
 go_wp2_with (first|(refine Cg rfl 2 _ _ rfl (w.heap.size+1+1) 0 (Value.int .i64 d.Id) ([Value.int .i64 d.Id]) (by rfl) (by rfl) rfl 100 Z0 BO 4 1 n0 rfl oM (by kernel_rfl) (by intro x hx;simp only[List.mem_cons,List.not_mem_nil,or_false] at hx;subst hx;rfl) [w.heap.size+1,w.heap.size+1+1] (by simp) ?_;intro V1 Z1 b1 zv1 BO n1 A1 hB;have X1:=exU X0 b1 (DK oM oM);have BR:=hB _ _ _ oM BR;rw[A0] at A1;clear hB A0;have R1:=Oi R1 b1 oM;have R2:=Oi R2 b1 oM;have R3:=Oi R3 b1 oM))
 refine(bT6 (g1.ext X1) oM).mono ?_
 rintro e w2⟨_,rfl,x2,F1,o1⟩
 obtain⟨ua1,un1,uc1,rfl⟩:=o1.rd.shape
 have BR:=BR.ext x2;have BO:=BO.ext x2;have Y2:=X1.trans x2;have d1l:=o1.low;have zy2:=x2.size;have a2:=Ext.upd x2 [w.heap.size+1,w.heap.size+1+1]
 have R2:=x2.cell R2
 have R3:=x2.cell R3
 go_wp2_with (first|(refine Cg rfl 97 _ _ rfl (w.heap.size+1+1) 1 (Value.slice ua1 un1 uc1) ([(Value.slice ua1 un1 uc1)]) (by rfl) (by rfl) rfl 100 Z1 BO 4 1 n1 rfl oM (by kernel_rfl) (by intro x hx;simp only[List.mem_cons,List.not_mem_nil,or_false] at hx;subst hx;rfl) [w.heap.size+1,w.heap.size+1+1] (by simp) ?_;intro V2 Z2 b2 zv2 BO n2 A2 hB;have X2:=exU Y2 b2 (DK oM oM);have BR:=hB _ _ _ oM BR;rw[A1] at A2;clear hB A1;have R2:=Oi R2 b2 oM;have R3:=Oi R3 b2 oM))
 refine(cF4 (g2.ext X2) oM).mono ?_
 rintro e w3⟨_,rfl,x3,F2,o2⟩
 obtain⟨ua2,un2,uc2,rfl⟩:=o2.rd.shape
 have BR:=BR.ext x3;have BO:=BO.ext x3;have Y3:=X2.trans x3;have d2l:=o2.low;have zy3:=x3.size;have a3:=Ext.upd x3 [w.heap.size+1,w.heap.size+1+1]
 have R3:=x3.cell R3
 go_upto_region 6 with(first|(refine Cg rfl 98 _ _ rfl (w.heap.size+1+1) 2 (Value.slice ua2 un2 uc2) ([(Value.slice ua2 un2 uc2)]) (by rfl) (by rfl) rfl 100 Z2 BO 4 1 n2 rfl oM (by kernel_rfl) (by intro x hx;simp only[List.mem_cons,List.not_mem_nil,or_false] at hx;subst hx;rfl) [w.heap.size+1,w.heap.size+1+1] (by simp) ?_;intro V3 Z3 b3 zv3 BO n3 A3 hB;have X3:=exU Y3 b3 (DK oM oM);have BR:=hB _ _ _ oM BR;rw[A2] at A3;clear hB A2;have R3:=Oi R3 b3 oM)|(refine Cg rfl 2 _ _ rfl (w.heap.size+1+1) 3 (Value.int .i64 d.Last) ([Value.int .i64 d.Last]) (by rfl) (by rfl) rfl 100 Z3 BO 4 1 n3 rfl oM (by kernel_rfl) (by intro x hx;simp only[List.mem_cons,List.not_mem_nil,or_false] at hx;subst hx;rfl) [w.heap.size+1,w.heap.size+1+1] (by simp) ?_;intro V4 Z4 b4 zv4 BO n4 A4 hB;have X4:=exU X3 b4 (DK oM oM);have BR:=hB _ _ _ oM BR;rw[A3] at A4;clear hB A3))
 have eZ:Z4=([Value.int .i64 d.Id]++([(Value.slice ua1 un1 uc1)]++([(Value.slice ua2 un2 uc2)]++([Value.int .i64 d.Last]++[])))):=by
  rw[List.take_of_length_le oM] at A4
  rw[A4]
  simp only[List.append_assoc,List.nil_append,List.append_nil]
 have hone:∀x,x ∈ Z4->x.oneCell'=true:=by
  rw[eZ]
  intro x hx
  simp only[List.mem_append,List.mem_cons,List.not_mem_nil,or_false] at hx
  rcases hx with rfl|rfl|rfl|rfl
  .
   rfl
  .
   rfl
  .
   rfl
  rfl
 have eZ:=Lib.hid eZ
 clear A4
 go_wp2_with (first|(refine wpList_load_mid rfl 100 _ rfl (w.heap.size+1+1) 0 (by rfl) Z4 _ BO.ra Tryz.underlying100 rfl (by rw[n4];kernel_rfl) ?_)|(refine BA rfl 100 _ _ rfl (w.heap.size+1) 0 (.agg Z4.toArray) Z4 (by rfl) (by rfl) rfl 100 [] Z0 [] (Bk.cast BR (by simp)) rfl (by rw[n0,n4]) (by rw[n4];kernel_rfl) hone ?_;intro VZ hV BZ))
 have XZ:Ext w VZ:=Ext.ofSet hV X4 oM
 have BZ:=Bk.cast (C:=Z4) BZ (by simp)
 have zvz:VZ.heap.size=V4.heap.size:=(congrArg (fun W=>W.heap.size) hV).trans (wV _ _ _)
 have u4:Upd V4 VZ [w.heap.size+1,w.heap.size+1+1]:=VL hV (by simp)
 have u3:=b4.trans u4
 have s2:=b3.trans u3;have o2:=o2.keep (Upd.chg s2 (GU oM oM));have u2:=a3.trans s2
 have s1:=b2.trans u2;have o1:=o1.keep (Upd.chg s1 (GU oM oM));have u1:=a2.trans s1
 refine bodyPost_ret (v:=.agg Z4.toArray) (by first|exact results_cell_row rfl _ _ (w.heap.size+1) _ _ _ _ (by rfl) BZ Tryz.underlying100 rfl (by rw[List.size_toArray,n4];kernel_rfl)) rfl ?_
 refine⟨_,rfl,XZ,_,_,_,F1,F2,by rw[eZ.out],o1.mono oM,o2.mono oM,?_,rfl⟩
 repeat' (first|exact List.Pairwise.nil|(refine List.Pairwise.cons ?_ ?_))
 .
  intro b hb k hk hk2
  have hA:=d1l k hk
  simp only[List.mem_cons,List.not_mem_nil,or_false] at hb
  rcases hb with rfl
  have hB:=d2l k hk2;omega
 intro b hb;cases hb
end
def ND(w:World)(v:Value)(d:KO):Prop:=∃t0:Value,∃t1:Value,v=.agg ([t0]++([t1]++[])).toArray/\PL w t0 d.Flight/\MY w t1 d.Cuts
def ON(B:Nat)(w:World)(v:Value)(d:KO)(F:List Nat):Prop:=∃t0:Value,∃t1:Value,∃F0:List Nat,∃F1:List Nat,v=.agg ([t0]++([t1]++[])).toArray/\LF B w t0 d.Flight F0/\IP B w t1 d.Cuts F1/\[F0,F1].Pairwise (fun a b=>∀k,k ∈ a->k ∈ b->False)/\F=F0++F1
def SD(d:KO):Nat:=WG d.Flight+TK d.Cuts
section
variable {B B':Nat} {w w':World} {v:Value} {d:KO} {F:List Nat}
theorem ND.ext(h:ND w v d)(x:Ext w w'):ND w' v d:=by
 obtain⟨t0,t1,e,g0,g1⟩:=h
 exact⟨t0,t1,e,g0.ext x,g1.ext x⟩
theorem ON.rd(h:ON B w v d F):ND w v d:=by
 obtain⟨t0,t1,F0,F1,e,g0,g1,hdj,hF⟩:=h
 exact⟨t0,t1,e,g0.rd,g1.rd⟩
theorem ON.keep(h:ON B w v d F)(x:Chg B w w'):ON B w' v d F:=by
 obtain⟨t0,t1,F0,F1,e,g0,g1,hdj,hF⟩:=h
 exact⟨t0,t1,F0,F1,e,g0.keep x,g1.keep x,hdj,hF⟩
theorem ON.mono(h:ON B w v d F)(x:B'<=B):ON B' w v d F:=by
 obtain⟨t0,t1,F0,F1,e,g0,g1,hdj,hF⟩:=h
 exact⟨t0,t1,F0,F1,e,g0.mono x,g1.mono x,hdj,hF⟩
theorem ON.low(h:ON B w v d F):∀k,k ∈ F->B<=k/\k<w.heap.size:=by
 obtain⟨t0,t1,F0,F1,e,g0,g1,hdj,rfl⟩:=h
 intro k hk
 simp only[List.mem_append] at hk
 rcases hk with hk|hk
 .
  exact g0.low k hk
 exact g1.low k hk
theorem ND.cells(h:ND w v d):∃L:List Value,v=.agg L.toArray/\L.length=2/\∀x,x ∈ L->x.oneCell'=true:=by
 obtain⟨t0,t1,rfl,g0,g1⟩:=h
 refine⟨_,rfl,by simp[],?_⟩
 intro x hx
 simp only[List.mem_append,List.mem_cons,List.not_mem_nil,or_false] at hx
 rcases hx with rfl|rfl
 .
  obtain⟨a,n,k,rfl⟩:=g0.shape;rfl
 obtain⟨a,n,k,rfl⟩:=g1.shape;rfl
theorem cK3(h:ND w v d){left:Int}(h0:0<=left)(h1:left<=1048576):Calls Tryz.prog 37 #[v,.int .i64 left] w (Ret w fun v' _=>SzR left (SD d) v'):=by
 obtain⟨t0,t1,rfl,g0,g1⟩:=h
 unfold SD
 obtain⟨L,hL⟩:∃L:List Value,L=([t0]++([t1]++[])):=⟨_,rfl⟩
 rw[<-hL]
 obtain⟨W0,hW0⟩:∃W0,W0=w.alloc (.cells L.toArray 61):=⟨_,rfl⟩
 have E0:Ext w W0:=by rw[hW0];exact(Ext.refl _).alloc _
 have r:W0.rangeAt w.heap.size 0 L:=by rw[hW0];exact(Bk.new _ _ _).ra
 rw[hL] at r;clear hL
 obtain⟨R0,r⟩:=An (m:=1) r rfl rfl
 have R0:=Az R0
 obtain⟨R1,r⟩:=An (m:=2) r rfl rfl
 have R1:=Az R1
 clear r
 go_enter Tryz.func37,Tryz.ntmps37
 go_upto_region 1 with(fail)
 rw[<-hW0]
 clear hW0
 have X0:Ext W0 W0:=Ext.refl _
 have cq0:=X0.cell R0
 go_wp2_with fail
 clear cq0
 refine(cF8 (g0.ext (E0.trans X0)) (left:=left) oM oM).mono ?_
 rintro e w1⟨v1,rfl,x1,hv⟩
 have X1:=X0.trans x1
 rcases hv with⟨rfl,hq1⟩|⟨rfl,hq1⟩
 .
  go_wp2_with fail
  go_ret
  exact⟨_,rfl,E0.trans X1,.inl ⟨rfl,by omega⟩⟩
 obtain⟨z1,hz1⟩:∃z,z=left - (WG d.Flight:Nat):=⟨_,rfl⟩
 rw[<-hz1]
 have hy1:=Int.le_of_eq hz1;have hw1:=Int.le_of_eq hz1.symm;clear hz1
 have hd1:decide (z1<0)=false:=by simp;omega
 have cq1:=X1.cell R1
 go_wp2_with fail
 clear cq1
 refine(bU0 (g1.ext (E0.trans X1)) (left:=z1) oM oM).mono ?_
 rintro e w2⟨v2,rfl,x2,hv⟩
 have X2:=X1.trans x2
 rcases hv with⟨rfl,hq2⟩|⟨rfl,hq2⟩
 .
  go_wp2_with fail
  go_ret
  exact⟨_,rfl,E0.trans X2,.inl ⟨rfl,by omega⟩⟩
 obtain⟨z2,hz2⟩:∃z,z=z1 - (TK d.Cuts:Nat):=⟨_,rfl⟩
 rw[<-hz2]
 have hy2:=Int.le_of_eq hz2;have hw2:=Int.le_of_eq hz2.symm;clear hz2
 have hd2:decide (z2<0)=false:=by simp;omega
 go_wp2_with fail
 go_ret
 exact⟨_,rfl,E0.trans X2,.inr ⟨congrArg (Value.int .i64) oM,by omega⟩⟩
theorem cK4{u:Value}(h:ND w v d)(k:ND w u d):Calls Tryz.prog 56 #[v,u] w (Fz w (.bool true)):=by
 obtain⟨t0,t1,rfl,g0,g1⟩:=h
 obtain⟨s0,s1,rfl,f0,f1⟩:=k
 obtain⟨L,hL⟩:∃L:List Value,L=([t0]++([t1]++[])):=⟨_,rfl⟩
 obtain⟨M,hM⟩:∃L:List Value,L=([s0]++([s1]++[])):=⟨_,rfl⟩
 rw[<-hL,<-hM]
 obtain⟨W0,hW0⟩:∃W0,W0=(w.alloc (.cells L.toArray 104)).alloc (.cells M.toArray 104):=⟨_,rfl⟩
 have E0:Ext w W0:=by rw[hW0];exact((Ext.refl _).alloc _).alloc _
 have r:W0.rangeAt w.heap.size 0 L:=by rw[hW0];exact Bk.ra (Bk.alloc (Bk.new _ _ _) _)
 rw[hL] at r;clear hL
 obtain⟨R0,r⟩:=An (m:=1) r rfl rfl
 have R0:=Az R0
 obtain⟨R1,r⟩:=An (m:=2) r rfl rfl
 have R1:=Az R1
 clear r
 have r:W0.rangeAt (w.heap.size+1) 0 M:=by rw[hW0];exact Bk.ra (Blk.new2 _ _ _ _)
 rw[hM] at r;clear hM
 obtain⟨S0,r⟩:=An (m:=1) r rfl rfl
 have S0:=Az S0
 obtain⟨S1,r⟩:=An (m:=2) r rfl rfl
 have S1:=Az S1
 clear r
 go_enter Tryz.func56,Tryz.ntmps56
 go_upto_region 1 with(fail)
 rw[<-hW0]
 clear hW0
 have X0:Ext W0 W0:=Ext.refl _
 have ca0:=X0.cell R0;have cb0:=X0.cell S0
 go_wp2_with fail
 refine(cF9 (g0.ext (E0.trans X0)) (f0.ext (E0.trans X0))).mono ?_
 rintro e w1⟨rfl,x1⟩
 have X1:=X0.trans x1
 clear ca0 cb0
 have ca1:=X1.cell R1;have cb1:=X1.cell S1
 go_wp2_with fail
 refine(bU1 (g1.ext (E0.trans X1)) (f1.ext (E0.trans X1))).mono ?_
 rintro e w2⟨rfl,x2⟩
 have X2:=X1.trans x2
 clear ca1 cb1
 go_wp2_with fail
 go_ret
 exact⟨rfl,E0.trans X2⟩
theorem cK5(h:ND w v d)(hs:SD d<=1048576):Calls Tryz.prog 47 #[v] w (Ret w fun v' w'=>∃F,ON w.heap.size w' v' d F):=by
 obtain⟨t0,t1,rfl,g0,g1⟩:=h
 unfold SD at hs
 have hzero:=(zero_of_info (P:=Tryz.prog) (t:=104) (v:=.agg #[.slice none 0 0,.slice none 0 0]) (n:=2) (by kernel_rfl)).1
 obtain⟨Z0,hZ⟩:∃Z:List Value,Z=[Value.slice none 0 0,Value.slice none 0 0]:=⟨_,rfl⟩
 have n0:Z0.length=2:=by rw[hZ];rfl
 obtain⟨L,hL⟩:∃L:List Value,L=([t0]++([t1]++[])):=⟨_,rfl⟩
 rw[<-hL]
 obtain⟨W0,hW0⟩:∃W0,W0=((w.alloc (.cells L.toArray 61)).alloc (.cells #[.slice none 0 0,.slice none 0 0] 104)).alloc (.cells #[.slice none 0 0,.slice none 0 0] 104):=⟨_,rfl⟩
 have X0:Ext w W0:=by rw[hW0];exact(((Ext.refl _).alloc _).alloc _).alloc _
 have r:W0.rangeAt w.heap.size 0 L:=by rw[hW0];exact Bk.ra (Bk.alloc (Bk.alloc (Bk.new _ _ _) _) _)
 rw[hL] at r;clear hL
 obtain⟨R0,r⟩:=An (m:=1) r rfl rfl
 have R0:=Az R0
 obtain⟨R1,r⟩:=An (m:=2) r rfl rfl
 have R1:=Az R1
 clear r
 have BR:Bk W0 (w.heap.size+1) 104 Z0:=by rw[hW0,hZ];exact Bk.alloc (Blk.new2 _ _ _ _) _
 have BO:Bk W0 (w.heap.size+1+1) 104 Z0:=by rw[hW0,hZ];exact Blk.new3 _ _ _ _ _
 have zW:W0.heap.size=w.heap.size+1+1+1:=by rw[hW0];simp
 clear hZ
 have A0:Z0.take 0=[]:=rfl
 go_enter Tryz.func47,Tryz.ntmps47
 go_upto_region 2 with(fail)
 rw[<-hW0]
 clear hW0 hzero
 go_wp2_with fail
 refine(cF7 (g0.ext X0) oM).mono ?_
 rintro e w1⟨_,rfl,x1,F0,o0⟩
 obtain⟨ua0,un0,uc0,rfl⟩:=o0.rd.shape
 have BR:=BR.ext x1;have BO:=BO.ext x1;have Y1:=X0.trans x1;have d0l:=o0.low;have zy1:=x1.size;have a1:=Ext.upd x1 [w.heap.size+1,w.heap.size+1+1]
 have R1:=x1.cell R1
 go_wp2_with (first|(refine Cg rfl 101 _ _ rfl (w.heap.size+1+1) 0 (Value.slice ua0 un0 uc0) ([(Value.slice ua0 un0 uc0)]) (by rfl) (by rfl) rfl 104 Z0 BO 2 1 n0 rfl oM (by kernel_rfl) (by intro x hx;simp only[List.mem_cons,List.not_mem_nil,or_false] at hx;subst hx;rfl) [w.heap.size+1,w.heap.size+1+1] (by simp) ?_;intro V1 Z1 b1 zv1 BO n1 A1 hB;have X1:=exU Y1 b1 (DK oM oM);have BR:=hB _ _ _ oM BR;rw[A0] at A1;clear hB A0;have R1:=Oi R1 b1 oM))
 refine(bT9 (g1.ext X1) oM).mono ?_
 rintro e w2⟨_,rfl,x2,F1,o1⟩
 obtain⟨ua1,un1,uc1,rfl⟩:=o1.rd.shape
 have BR:=BR.ext x2;have BO:=BO.ext x2;have Y2:=X1.trans x2;have d1l:=o1.low;have zy2:=x2.size;have a2:=Ext.upd x2 [w.heap.size+1,w.heap.size+1+1]
 go_upto_region 4 with(first|(refine Cg rfl 102 _ _ rfl (w.heap.size+1+1) 1 (Value.slice ua1 un1 uc1) ([(Value.slice ua1 un1 uc1)]) (by rfl) (by rfl) rfl 104 Z1 BO 2 1 n1 rfl oM (by kernel_rfl) (by intro x hx;simp only[List.mem_cons,List.not_mem_nil,or_false] at hx;subst hx;rfl) [w.heap.size+1,w.heap.size+1+1] (by simp) ?_;intro V2 Z2 b2 zv2 BO n2 A2 hB;have X2:=exU Y2 b2 (DK oM oM);have BR:=hB _ _ _ oM BR;rw[A1] at A2;clear hB A1))
 have eZ:Z2=([(Value.slice ua0 un0 uc0)]++([(Value.slice ua1 un1 uc1)]++[])):=by
  rw[List.take_of_length_le oM] at A2
  rw[A2]
  simp only[List.append_assoc,List.nil_append,List.append_nil]
 have hone:∀x,x ∈ Z2->x.oneCell'=true:=by
  rw[eZ]
  intro x hx
  simp only[List.mem_append,List.mem_cons,List.not_mem_nil,or_false] at hx
  rcases hx with rfl|rfl
  .
   rfl
  rfl
 have eZ:=Lib.hid eZ
 clear A2
 go_wp2_with (first|(refine wpList_load_mid rfl 104 _ rfl (w.heap.size+1+1) 0 (by rfl) Z2 _ BO.ra Tryz.underlying104 rfl (by rw[n2];kernel_rfl) ?_)|(refine BA rfl 104 _ _ rfl (w.heap.size+1) 0 (.agg Z2.toArray) Z2 (by rfl) (by rfl) rfl 104 [] Z0 [] (Bk.cast BR (by simp)) rfl (by rw[n0,n2]) (by rw[n2];kernel_rfl) hone ?_;intro VZ hV BZ))
 have XZ:Ext w VZ:=Ext.ofSet hV X2 oM
 have BZ:=Bk.cast (C:=Z2) BZ (by simp)
 have zvz:VZ.heap.size=V2.heap.size:=(congrArg (fun W=>W.heap.size) hV).trans (wV _ _ _)
 have u2:Upd V2 VZ [w.heap.size+1,w.heap.size+1+1]:=VL hV (by simp)
 have s1:=b2.trans u2;have o1:=o1.keep (Upd.chg s1 (GU oM oM));have u1:=a2.trans s1
 have s0:=b1.trans u1;have o0:=o0.keep (Upd.chg s0 (GU oM oM))
 refine bodyPost_ret (v:=.agg Z2.toArray) (by first|exact results_cell_row rfl _ _ (w.heap.size+1) _ _ _ _ (by rfl) BZ Tryz.underlying104 rfl (by rw[List.size_toArray,n2];kernel_rfl)) rfl ?_
 refine⟨_,rfl,XZ,_,_,_,F0,F1,by rw[eZ.out],o0.mono oM,o1.mono oM,?_,rfl⟩
 repeat' (first|exact List.Pairwise.nil|(refine List.Pairwise.cons ?_ ?_))
 .
  intro b hb k hk hk2
  have hA:=d0l k hk
  simp only[List.mem_cons,List.not_mem_nil,or_false] at hb
  rcases hb with rfl
  have hB:=d1l k hk2;omega
 intro b hb;cases hb
end
theorem Sl.bools{w:World}{v:Value}{l:List Bool}(h:Sl 1 w v (l.map .bool)):∃a cap,v=.slice a l.length cap/\l.length<=cap/\cap<=maxLen /\
  ∀i,i<l.length->∃x b off,l[i]?=some x/\a=some ⟨b,off,none⟩/\b<w.heap.size/\w.cell? ⟨b,off+i,none⟩=some (.bool x):=by
 obtain⟨a,len,cap,rfl,hl,hc,hm,hn,ha⟩:=h
 simp only[List.length_map,Nat.mul_one] at hl
 subst hl
 refine⟨a,cap,rfl,hc,hm,fun i hi=>?_⟩
 cases a with
 | none=>have:=hn rfl;omega
 | some p =>
  obtain⟨b,off,sp⟩:=p
  obtain⟨rfl,hb,hcell⟩:=ha b off sp rfl oM
  have hx:l[i]?=some l[i]:=List.getElem?_eq_getElem hi
  exact⟨l[i],b,off,hx,rfl,hb,hcell i _ (by rw[List.getElem?_map,hx];rfl)⟩
theorem Sl.shapeB{w:World}{v:Value}{l:List Bool}(h:Sl 1 w v (l.map .bool)):∃a n k,v=.slice a n k:=by obtain⟨a,n,k,h,_⟩:=h;exact⟨a,n,k,h⟩
theorem bJ6:(Tryz.prog.info? 4).map (fun i=>(i.zero,i.size,i.bytes))=some (some (.bool false),1,1):=by kernel_rfl
theorem bJ7(w:World)(v:Value)(l:List Bool)(h:Sl 1 w v (l.map .bool))(hs:l.length<=1048576):Calls Tryz.prog 49 #[v] w (Ret w fun v' w'=>Own w.heap.size 4 1 w' v' (l.map .bool)):=by
 obtain⟨a,ca,rfl,hca,hm,ha⟩:=h.bools
 have HA:=Lib.hid ha
 clear ha
 unfold maxLen at hm
 obtain⟨L,hL⟩:∃L,L=l.length:=⟨_,rfl⟩
 rw[<-hL] at HA hca hs ⊢
 have HL:=Lib.hid hL
 clear hL h
 obtain⟨i0,hi,hz0,hz1,hz2⟩:=info_parts bJ6
 go_enter Tryz.func49,Tryz.ntmps49
 have hmk:=fun W=>run_make (P:=Tryz.prog) W 63 4 i0 _ Tryz.underlying63 hi hz0 .i64 .i64 L L oM oM (by rw[hz2];omega) oM
 simp only[Int.toNat_natCast,hz1] at hmk
 go_wp2
 clear hmk
 go_loopw [4] (fun i wr=>∃k:Nat,k<=L/\i=.int .i64 k/\Ext w wr/\∃cur,Blk wr w.heap.size 4 cur/\cur.size=L*1/\Pre cur (k) (l.map .bool)) (fun i _=>L - (intOf i).toNat)
 case atStart=>exact⟨0,Nat.zero_le _,rfl,(Ext.refl _).alloc _,_,Blk.new _ _ _,by simp[size_madeCells],by simpa using Pre.zero _ _⟩
 case round =>
  obtain⟨k,hk,rfl,he,cur,hblk,hsz,hpre⟩:=hrel
  by_cases hlt:k<L
  .
   obtain⟨x0,b1,o1,hx0,rfl,_,c10⟩:=HA.out k hlt
   have d0:=he.cell c10
   clear c10
   have HX0:=Lib.hid hx0
   have HS:=Lib.hid hsz
   clear hx0 hsz
   obtain⟨z0,g0⟩:∃z,wr.cell? ⟨w.heap.size,k,none⟩=some z:=⟨_,by rw[hblk.cell];exact Array.getElem?_eq_getElem (by have:=HS.out;omega)⟩;have f0:=hblk.frozen (k)
   go_wp2
   go_roundw
   case rel=>exact⟨k+1,by omega,by go_num,(he.setCell (Nat.le_refl _) _),_,(hblk.set_ _ _),by simpa using HS.out,(hpre.set (by rw[List.getElem?_map,HX0.out];rfl) (by have:=HS.out;omega))⟩
   case measure=>simp[intOf];omega
  obtain rfl:k=L:=by omega
  go_wp2
  go_ret
  exact⟨_,rfl,he,Own.of_blk hblk (Nat.le_refl _) hsz (by simp;exact HL.out.symm) (Nat.le_refl _) (by unfold maxLen;omega) (hpre.cast oM)⟩
theorem bJ8(w:World)(v:Value)(l:List Bool)(left:Int)(h:Sl 1 w v (l.map .bool))(h0:0<=left)(h1:left<=1048576):Calls Tryz.prog 39 #[v,.int .i64 left] w (Ret w fun v' _=>SzR left l.length v'):=by
 obtain⟨a,ca,rfl,hca,hm,-⟩:=h.bools
 clear h
 unfold maxLen at hm
 by_cases hlt:left<l.length
 .
  have ht:decide (left - (l.length:Int)<0)=true:=by simp;omega
  go_enter Tryz.func39,Tryz.ntmps39
  go_wp2
  go_ret
  exact⟨_,rfl,Ext.refl _,.inl ⟨rfl,hlt⟩⟩
 have ht:decide (left - (l.length:Int)<0)=false:=by simp;omega
 go_enter Tryz.func39,Tryz.ntmps39
 go_wp2
 go_ret
 exact⟨_,rfl,Ext.refl _,.inr ⟨rfl,by omega⟩⟩
theorem bJ9(w:World)(va vb:Value)(l:List Bool)(ha:Sl 1 w va (l.map .bool))(hb:Sl 1 w vb (l.map .bool)):Calls Tryz.prog 57 #[va,vb] w (Fz w (.bool true)):=by
 obtain⟨a,ca,rfl,hca,hm,ha'⟩:=ha.bools
 obtain⟨b,cb,rfl,_,_,hb'⟩:=hb.bools
 have HA:=Lib.hid ha';have HB:=Lib.hid hb'
 clear ha' hb' ha hb
 unfold maxLen at hm
 go_enter Tryz.func57,Tryz.ntmps57
 go_wp2
 go_loopw [5] (fun i wr=>∃k:Nat,k<=l.length/\i=.int .i64 k/\Ext w wr) (fun i _=>l.length - (intOf i).toNat)
 case atStart=>exact⟨0,Nat.zero_le _,rfl,Ext.refl _⟩
 case round =>
  obtain⟨k,hk,rfl,he⟩:=hrel
  by_cases hlt:k<l.length
  .
   obtain⟨x0,b1,o1,hx0,rfl,_,c10⟩:=HA.out k hlt
   obtain⟨y0,b2,o2,hy0,rfl,_,c20⟩:=HB.out k hlt
   obtain rfl:x0=y0:=by rw[hx0] at hy0;exact Option.some.inj hy0
   have d0:=he.cell c10;have e0:=he.cell c20
   clear c10 c20 hx0 hy0
   cases x0
   all_goals
    go_wp2
    go_quiet (fail)
    go_wp2
    go_roundw
    case rel=>exact⟨k+1,by omega,by go_num,he.drewN _⟩
    case measure=>simp[intOf];omega
  go_wp2
  go_ret
  exact⟨rfl,he⟩
def KU(w:World)(v:Value)(l:List Bool):Prop:=Sl 1 w v (l.map .bool)
def IR(B:Nat)(w:World)(v:Value)(l:List Bool)(F:List Nat):Prop:=Own B 4 1 w v (l.map .bool)/\F=Ep [v]
def TL(l:List Bool):Nat:=l.length
section
variable {B B':Nat} {w w':World} {v:Value} {l:List Bool} {F:List Nat}
theorem KU.shape(h:KU w v l):∃a n k,v=.slice a n k:=Sl.shapeB h
theorem KU.ext(h:KU w v l)(x:Ext w w'):KU w' v l:=Sl.ext h x
theorem IR.rd(h:IR B w v l F):KU w v l:=Own.sl h.1
theorem IR.keep(h:IR B w v l F)(x:Chg B w w'):IR B w' v l F:=⟨Own.keep h.1 x,h.2⟩
theorem IR.mono(h:IR B w v l F)(x:B'<=B):IR B' w v l F:=⟨Own.mono h.1 x,h.2⟩
theorem IR.low(h:IR B w v l F):∀k,k ∈ F->B<=k/\k<w.heap.size:=by obtain⟨h,rfl⟩:=h;exact Own.foot h
theorem bU2(h:KU w v l)(hs:TL l<=1048576):Calls Tryz.prog 49 #[v] w (Ret w fun v' w'=>∃F,IR w.heap.size w' v' l F):=by
 refine(bJ7 w v l h hs).mono ?_
 rintro e w'⟨u,rfl,hx,g⟩
 exact⟨u,rfl,hx,_,g,rfl⟩
theorem bU3(h:KU w v l){left:Int}(h0:0<=left)(h1:left<=1048576):Calls Tryz.prog 39 #[v,.int .i64 left] w (Ret w fun v' _=>SzR left (TL l) v'):=bJ8 w v l left h h0 h1
theorem bU4{u:Value}(h:KU w v l)(k:KU w u l):Calls Tryz.prog 57 #[v,u] w (Fz w (.bool true)):=bJ9 w v u l h k
end
end Go.Proofs.YtkpmbocbbgocbaaGreat
