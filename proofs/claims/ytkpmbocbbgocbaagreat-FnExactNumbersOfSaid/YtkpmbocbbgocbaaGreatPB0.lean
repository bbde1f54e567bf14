/- PB HelpK HelpL DatW. -/
import Derived.Test.YtkpmbocbbgocbaaGreatPGo
import Derived.Deep.MidRow
import Derived.Deep.WholeRow
import Derived.Deep.DeepCutAuto
set_option linter.unusedSimpArgs false
set_option linter.unusedVariables false
set_option maxHeartbeats 8000000
set_option maxRecDepth 100000
namespace Go.Proofs.YtkpmbocbbgocbaaGreat
open Go.RowKit Go.G8
def Bk(w:World)(g:Nat)(t:TypeId)(L:List Value):Prop:=Blk w g t L.toArray
section
variable {w w':World} {g:Nat} {t:TypeId} {L A cs C:List Value} {o:Nat} {v:Value}
theorem As{b:Nat}(h:w.rangeAt b o cs)(x:Ext w w'):w'.rangeAt b o cs:=fun j v hv=>x.cell (h j v hv)
theorem Bk.range(h:Bk w g t (A++(cs++C)))(ho:A.length=o):w.rangeAt g o cs:=by
 subst ho
 intro j v hv
 have hj:=(List.getElem?_eq_some_iff.1 hv).1
 rw[Blk.cell h]
 simp only[List.getElem?_toArray]
 rw[List.getElem?_append_right oM,Nat.add_sub_cancel_left,List.getElem?_append_left hj,hv]
theorem Bk.cast(h:Bk w g t L)(e:L=C):Bk w g t C:=e ▸ h
theorem Bk.c(h:Bk w g t L)(e:L=C:=by simp only[List.append_assoc,List.nil_append,List.cons_append,List.append_nil]):Bk w g t C:=e ▸ h
theorem Bk.cellAt(h:Bk w g t (A++(v::C)))(ho:A.length=o):w.cell? ⟨g,o,none⟩=some v:=by
 have:=Bk.range (cs:=[v]) h ho 0 v rfl
 simpa using this
theorem Bk.ext(h:Bk w g t L)(x:Ext w w'):Bk w' g t L:=Blk.ext h x
theorem Bk.lt(h:Bk w g t L):g<w.heap.size:=Blk.lt h
theorem Bk.new(w:World)(t:TypeId)(L:List Value):Bk (w.alloc (.cells L.toArray t)) w.heap.size t L:=Blk.new _ _ _
theorem Bk.alloc(h:Bk w g t L)(o:Obj):Bk (w.alloc o) g t L:=Blk.alloc h o
theorem Bk.there(h:Bk w g t L){n:Nat}(hl:o+n<=L.length):w.there g o n:=fun j hj=>by
 rw[Blk.cell h,List.getElem?_toArray,List.getElem?_eq_getElem oM]
 exact⟨rfl,Blk.frozen h _⟩
theorem Bk.rowFar{b:Nat}(h:Bk w b t L)(hn:b≠g)(cells:Array Value):Bk (w.setRow g cells) b t L:=Blk.rowFar h hn cells
theorem WC:∀(new A old C:List Value) (w:World),Blk w g t (A++(old++C)).toArray->old.length=new.length->w.setCells g A.length new=w.setRow g (A++(new++C)).toArray
 | [],A,old,C,w,h,hl=>by
  have:old=[]:=List.eq_nil_of_length_eq_zero (by simpa using hl)
  subst this
  rw[World.setCells]
  simp only[List.nil_append] at h ⊢
  have h2:w.heap[g]?=some (.cells (A++C).toArray t (0,0)):=h
  unfold World.setRow
  have hg:g<w.heap.size:=Blk.lt h
  cases w with
  | mk heap rest1 rest2 rest3 =>
   congr 1
   apply Array.ext_getElem?
   intro i
   rw[Array.getElem?_modify]
   split
   .
    rename_i hi;subst hi
    have h3:heap[g]?=some (.cells (A++C).toArray t (0,0)):=h2
    rw[h3];rfl
   rfl
 | v::new,A,old,C,w,h,hl=>by
  cases old with
  | nil=>simp at hl
  | cons u old =>
   have hset:w.setCell ⟨g,A.length,none⟩ v=w.setRow g (A++(v::(old++C))).toArray:=by
    rw[setCell_eq_setRow w g A.length _ t (0,0) v h]
    congr 1
    simp only[List.setIfInBounds_toArray]
    congr 1
    rw[List.set_append_right _ _ (Nat.le_refl _)]
    simp
   have h1:Blk (w.setRow g (A++(v::(old++C))).toArray) g t ((A++[v])++(old++C)).toArray:=by
    have:=Blk.row h (A++(v::(old++C))).toArray
    simpa using this
   have ih:=WC new (A++[v]) old C _ h1 (by simpa using hl)
   rw[World.setCells,hset]
   simp only[Vj,Nat.zero_add] at ih
   rw[ih,setRow_setRow]
   congr 2
   simp
end
section
variable {P:Program}
theorem XI(w:World)(b o:Nat)(ty:TypeId)(v:Value)(cells:Array Value)(hc:v.cells=cells)(ht:w.there b o cells.size)(hi:(P.info? ty).map (·.size)=some cells.size)(h1:cells.all (·.oneCell')=true):(storeVar ty ⟨b,o,none⟩ v).run P w=.ok () (w.setCells b o cells.toList):=by
 have:=run_storeCells_cells (P:=P) b o cells.toList 0 w (fun j hj=>by simpa using(ht j (by simpa using hj)).1) (fun j hj=>by simpa using(ht j (by simpa using hj)).2)
  (fun v hv=>(Array.all_eq_true_iff_forall_mem.1 h1) v (by simpa using hv))
 cases hq:P.info? ty with
 | none=>simp[hq] at hi
 | some i =>
  have hs:cells.size=i.size:=by simp[hq] at hi;omega
  simp only[Nat.add_zero] at this
  simp[storeVar,sizeOf,typeInfo,hq,hc,hs,this]
theorem aD5{op:Oper}{a:Act}{w:World}{K:Act->World->Prop}{Q:Exit->Act->World->Prop}(ty:TypeId)(x y:Operand)(ho:op.op=.store ty x y)
  (g o:Nat) (v:Value) (new:List Value) (hx:a.eval x=.pointer (some ⟨g,o,none⟩)) (hy:a.eval y=v) (hc:v.cells=new.toArray)
  (t:TypeId) (A old C:List Value) (hb:Bk w g t (A++(old++C))) (hA:A.length=o) (hl:old.length=new.length) (hi:(P.info? ty).map (·.size)=some new.length) (h1:∀v ∈ new,v.oneCell'=true)
  (h:∀wz,wz=w.setRow g (A++(new++C)).toArray->Bk wz g t (A++(new++C))->K (a.put op.dst undef) wz):op.wp P a w K Q:=by
 subst hA
 have hrow:=WC new A old C w hb hl
 have hr:=XI (P:=P) w g A.length ty v new.toArray hc (by have:=Bk.there hb (o:=A.length) (n:=new.length) (by simp;omega);simpa using this) (by simpa using hi) (all_oneCell_toArray h1)
 have hnew:Bk (w.setRow g (A++(new++C)).toArray) g t (A++(new++C)):=Blk.row hb _
 unfold Oper.wp execOp
 simp only[ho,hx,hy,Instr.storeAt,Instr.sureAddr,Sem.run_bind,Sem.run_pure,Result.andThen_ok,hr,List.toList_toArray,hrow]
 exact h _ rfl hnew
theorem BA{ops:Array Oper}{rest:List Oper}{op:Oper}{a:Act}{w:World}{Q:Exit->Act->World->Prop}(hgd:op.guard=none)(ty:TypeId)(x y:Operand)(ho:op.op=.store ty x y)
  (g o:Nat) (v:Value) (new:List Value) (hx:a.eval x=.pointer (some ⟨g,o,none⟩)) (hy:a.eval y=v) (hc:v.cells=new.toArray)
  (t:TypeId) (A old C:List Value) (hb:Bk w g t (A++(old++C))) (hA:A.length=o) (hl:old.length=new.length) (hi:(P.info? ty).map (·.size)=some new.length) (h1:∀v ∈ new,v.oneCell'=true)
  (h:∀wz,wz=w.setRow g (A++(new++C)).toArray->Bk wz g t (A++(new++C))->wpList P ops Q rest (a.put op.dst undef) wz):wpList P ops Q (op::rest) a w :=
 wpList_plain hgd fun _ hK=>aD5 ty x y ho g o v new hx hy hc t A old C hb hA hl hi h1 fun wz h2 h3=>hK _ _ (h wz h2 h3)
end
theorem wQ{L M:List Value}(h:Value.agg L.toArray=.agg M.toArray):L=M:=by
 injection h with h
 exact congrArg Array.toList h
theorem bH4:(Tryz.prog.info? 290).map (fun i=>(i.zero,i.size,i.bytes))=some (some (.agg #[.int .i64 0,.int .i64 0,.int .i64 0]),3,24):=by kernel_rfl
theorem bR9(w:World)(x0 x1 x2:Int):Calls Tryz.prog 226 #[.agg #[.int .i64 x0,.int .i64 x1,.int .i64 x2]] w (Fz w (.agg #[.int .i64 x0,.int .i64 x1,.int .i64 x2])):=by
 go_enter Tryz.func226,Tryz.ntmps226
 go_wp2
 refine bodyPost_ret (v:=.agg #[.int .i64 x0,.int .i64 x1,.int .i64 x2]) (by simp[results,Tryz.results226,go_sem]) rfl ⟨rfl,?_⟩
 exact xT
theorem bH5(w:World)(v:Value)(xs:List Int)(L:Nat)(hL:xs.length=L*3)(h:Aw 3 w v xs)(hs:L<=1048576):Calls Tryz.prog 122 #[v] w (Ret w fun v' w'=>Ba w.heap.size 290 3 w' v' xs):=by
 obtain⟨a,len,ca,rfl,hl,hca,hm,ha⟩:=h.open_
 obtain rfl:L=len:=by omega
 have HA:=Lib.hid ha;have HL:=Lib.hid hl
 clear ha hl hL
 unfold maxLen at hm
 obtain⟨i0,hi,hz0,hz1,hz2⟩:=info_parts bH4
 go_enter Tryz.func122,Tryz.ntmps122
 have hmk:=fun W=>run_make (P:=Tryz.prog) W 73 290 i0 _ Tryz.underlying73 hi hz0 .i64 .i64 L L oM oM (by rw[hz2];omega) oM
 simp only[Int.toNat_natCast,hz1] at hmk
 go_wp2
 clear hmk
 go_loopw [4] (fun i wr=>∃k:Nat,k<=L/\i=.int .i64 k/\Ext w wr/\∃cur,Blk wr w.heap.size 290 cur/\cur.size=L*3/\Pre cur (k*3) (xs.map (.int .i64))) (fun i _=>L - (intOf i).toNat)
 case atStart=>exact⟨0,Nat.zero_le _,rfl,(Ext.refl _).alloc _,_,Blk.new _ _ _,by simp[size_madeCells],by simpa using Pre.zero _ _⟩
 case round =>
  obtain⟨k,hk,rfl,he,cur,hblk,hsz,hpre⟩:=hrel
  by_cases hlt:k<L
  .
   obtain⟨b1,o1,rfl,_,c1⟩:=HA.out k hlt
   obtain⟨x0,hx0,c10⟩:=c1 0 oM
   obtain⟨x1,hx1,c11⟩:=c1 1 oM
   obtain⟨x2,hx2,c12⟩:=c1 2 oM
   have d0:=he.cell c10;have d1:=he.cell c11;have d2:=he.cell c12
   simp only[Nat.add_zero] at d0
   clear c1 c10 c11 c12
   have HX0:=Lib.hid hx0;have HX1:=Lib.hid hx1;have HX2:=Lib.hid hx2
   have HS:=Lib.hid hsz
   clear hx0 hx1 hx2 hsz
   go_wp2_with (first|(go_at_call 226;refine(bR9 _ _ _ _).mono ?_;rintro e w1 ⟨rfl,hx⟩;have hb1:=hblk.ext hx;obtain⟨z0,g0⟩:∃z,w1.cell? ⟨w.heap.size,k*3,none⟩=some z:=⟨_,by rw[hb1.cell];exact Array.getElem?_eq_getElem (by have:=HS.out;omega)⟩;obtain⟨z1,g1⟩:∃z,w1.cell? ⟨w.heap.size,k*3+1,none⟩=some z:=⟨_,by rw[hb1.cell];exact Array.getElem?_eq_getElem (by have:=HS.out;omega)⟩;obtain⟨z2,g2⟩:∃z,w1.cell? ⟨w.heap.size,k*3+2,none⟩=some z:=⟨_,by rw[hb1.cell];exact Array.getElem?_eq_getElem (by have:=HS.out;omega)⟩;have f0:=hb1.frozen (k*3);have f1:=hb1.frozen (k*3+1);have f2:=hb1.frozen (k*3+2)))
   go_roundw
   case rel=>exact⟨k+1,by omega,by go_num,((((he.trans hx).setCell (Nat.le_refl _) _).setCell (Nat.le_refl _) _).setCell (Nat.le_refl _) _),_,(((hb1.set_ _ _).set_ _ _).set_ _ _),by simp;exact HS.out,(((hpre.set (by simpa using HX0.out) (by have:=HS.out;omega)).set (by simpa using HX1.out) (by have:=HS.out;simp;omega)).set (by simpa using HX2.out) (by have:=HS.out;simp;omega)).cast oM⟩
   case measure=>simp[intOf];omega
  obtain rfl:k=L:=by omega
  go_wp2
  go_ret
  exact⟨_,rfl,he,Own.of_blk hblk (Nat.le_refl _) hsz (by simpa using HL.out) (Nat.le_refl _) (by unfold maxLen;omega) hpre⟩
theorem bH6(w:World)(v:Value)(xs:List Int)(L:Nat)(hL:xs.length=L*3)(left:Int)(h:Aw 3 w v xs)(h0:0<=left)(h1:left<=1048576):Calls Tryz.prog 99 #[v,.int .i64 left] w (Ret w fun v' _=>SzR left L v'):=by
 obtain⟨a,len,ca,rfl,hl,hca,hm,-⟩:=h.open_
 obtain rfl:L=len:=by omega
 clear h hl hL
 unfold maxLen at hm
 by_cases hlt:left<L
 .
  have ht:decide (left - (L:Int)<0)=true:=by simp;omega
  go_enter Tryz.func99,Tryz.ntmps99
  go_wp2
  go_ret
  exact⟨_,rfl,Ext.refl _,.inl ⟨rfl,hlt⟩⟩
 have ht:decide (left - (L:Int)<0)=false:=by simp;omega
 go_enter Tryz.func99,Tryz.ntmps99
 go_wp2
 go_ret
 exact⟨_,rfl,Ext.refl _,.inr ⟨rfl,by omega⟩⟩
theorem bS0(w:World)(x0 x1 x2:Int):Calls Tryz.prog 247 #[.agg #[.int .i64 x0,.int .i64 x1,.int .i64 x2],.agg #[.int .i64 x0,.int .i64 x1,.int .i64 x2]] w (Fz w (.bool true)):=by
 go_enter Tryz.func247,Tryz.ntmps247
 go_wp2
 repeat (go_quiet (fail);go_wp2)
 go_ret
 exact⟨rfl,xT⟩
theorem bH7(w:World)(va vb:Value)(xs:List Int)(ha:Aw 3 w va xs)(hb:Aw 3 w vb xs):Calls Tryz.prog 143 #[va,vb] w (Fz w (.bool true)):=by
 obtain⟨a,len,ca,rfl,hl,hca,hm,ha'⟩:=ha.open_
 obtain⟨b,len',cb,rfl,hl',_,_,hb'⟩:=hb.open_
 obtain rfl:len=len':=by omega
 have HA:=Lib.hid ha';have HB:=Lib.hid hb'
 clear ha' hb' hl hl' ha hb
 unfold maxLen at hm
 go_enter Tryz.func143,Tryz.ntmps143
 go_wp2
 go_loopw [5] (fun i wr=>∃k:Nat,k<=len/\i=.int .i64 k/\Ext w wr) (fun i _=>len - (intOf i).toNat)
 case atStart=>exact⟨0,Nat.zero_le _,rfl,Ext.refl _⟩
 case round =>
  obtain⟨k,hk,rfl,he⟩:=hrel
  by_cases hlt:k<len
  .
   obtain⟨b1,o1,rfl,_,c1⟩:=HA.out k hlt
   obtain⟨b2,o2,rfl,_,c2⟩:=HB.out k hlt
   obtain⟨x0,hx0,c10⟩:=c1 0 oM
   obtain⟨x1,hx1,c11⟩:=c1 1 oM
   obtain⟨x2,hx2,c12⟩:=c1 2 oM
   obtain⟨y0,hy0,c20⟩:=c2 0 oM
   obtain⟨y1,hy1,c21⟩:=c2 1 oM
   obtain⟨y2,hy2,c22⟩:=c2 2 oM
   obtain rfl:x0=y0:=by rw[hx0] at hy0;exact Option.some.inj hy0
   obtain rfl:x1=y1:=by rw[hx1] at hy1;exact Option.some.inj hy1
   obtain rfl:x2=y2:=by rw[hx2] at hy2;exact Option.some.inj hy2
   have d0:=he.cell c10;have e0:=he.cell c20
   have d1:=he.cell c11;have e1:=he.cell c21
   have d2:=he.cell c12;have e2:=he.cell c22
   simp only[Nat.add_zero] at d0 e0
   clear c1 c2 c10 c20 hx0 hy0 c11 c21 hx1 hy1 c12 c22 hx2 hy2
   go_wp2
   go_region_held3 (fun w'=>Ext wr w'/\w'.cell? ⟨b1,o1+k*3,none⟩=some (.int .i64 x0)/\w'.cell? ⟨b1,o1+k*3+1,none⟩=some (.int .i64 x1)/\w'.cell? ⟨b1,o1+k*3+2,none⟩=some (.int .i64 x2)/\w'.cell? ⟨b2,o2+k*3,none⟩=some (.int .i64 x0)/\w'.cell? ⟨b2,o2+k*3+1,none⟩=some (.int .i64 x1)/\w'.cell? ⟨b2,o2+k*3+2,none⟩=some (.int .i64 x2)) (first|exact⟨Ext.drew (Ext.refl _),d0,d1,d2,e0,e1,e2⟩|exact LV (S:=fun w'=>Ext wr w'/\w'.cell? ⟨b1,o1+k*3,none⟩=some (.int .i64 x0)/\w'.cell? ⟨b1,o1+k*3+1,none⟩=some (.int .i64 x1)/\w'.cell? ⟨b1,o1+k*3+2,none⟩=some (.int .i64 x2)/\w'.cell? ⟨b2,o2+k*3,none⟩=some (.int .i64 x0)/\w'.cell? ⟨b2,o2+k*3+1,none⟩=some (.int .i64 x1)/\w'.cell? ⟨b2,o2+k*3+2,none⟩=some (.int .i64 x2)) (by assumption) hx (fun a b h x=>⟨h.1.trans x,(h.1.trans x).cell d0,(h.1.trans x).cell d1,(h.1.trans x).cell d2,(h.1.trans x).cell e0,(h.1.trans x).cell e1,(h.1.trans x).cell e2⟩)) ((go_at_call 247;refine(bS0 _ _ _ _).mono ?_;rintro e w' ⟨rfl,hx⟩))
   go_wp2
   go_roundw
   case rel=>exact⟨k+1,by omega,by go_num,he.trans (And.left ‹_›)⟩
   case measure=>simp[intOf];omega
  go_wp2
  go_ret
  exact⟨rfl,he⟩
theorem aP1(w:World)(B:Nat)(v:Value)(xs:List Int)(L:Nat)(hL:xs.length=L*3)(q:Int)(h:Ba B 290 3 w v xs)(h0:0<=q)(h1:q+(L*3:Nat)<=4611686018427387904):Calls Tryz.prog 155 #[v,.int .i64 q] w (IX w (Ep [v]) (.int .i64 (q+(L*3:Nat))) fun w'=>Ba B 290 3 w' v (run q (L*3))):=by
 obtain⟨a,len,ca,rfl,hl,hca,hm,hop⟩:=Own.open_ h
 rw[List.length_map] at hl
 obtain rfl:L=len:=by omega
 unfold maxLen at hm
 rcases hop with h00|⟨g,cur0,rfl,hB,hb0,hs0,-⟩
 .
  subst h00
  have hfin:Ba B 290 3 w (.slice a 0 ca) (run q (0*3)):=by
   refine Own.empty h ?_ _ ?_
   .
    exact List.eq_nil_of_length_eq_zero (by simpa using hL)
   simp[run]
  have HF:=Lib.hid hfin
  clear hfin h hL hl
  have hq:q+((0*3:Nat):Int)=q:=by simp
  rw[hq]
  clear hq
  go_enter Tryz.func155,Tryz.ntmps155
  go_wp2
  go_loopw [1,5] (fun kk i wr=>kk=.int .i64 q/\i=.int .i64 0/\wr=w) (fun _ _ _=>0)
  case atStart=>exact⟨rfl,rfl,rfl⟩
  case round =>
   obtain⟨rfl,rfl,rfl⟩:=hrel
   go_wp2
   go_ret
   exact⟨rfl,Upd.refl _ _,HF.out⟩
 have HS:=Lib.hid hs0
 have HC:=Lib.hid (show L*3<=ca*3 by have:=Nat.mul_le_mul_right 3 hca;omega)
 clear hs0 hL hl h
 go_enter Tryz.func155,Tryz.ntmps155
 go_wp2
 go_loopw [1,5] (fun kk i wr=>∃k:Nat,k<=L/\i=.int .i64 k/\(∃q':Int,q'=q+(k*3:Nat)/\kk=.int .i64 q')/\Upd w wr [g]/\∃cur,Blk wr g 290 cur/\cur.size=ca*3/\Pre cur (k*3) ((run q (L*3)).map (.int .i64))) (fun _ i _=>L - (intOf i).toNat)
 case atStart=>exact⟨0,Nat.zero_le _,rfl,⟨q,by simp,rfl⟩,Upd.refl _ _,cur0,hb0,HS.out,by simpa using Pre.zero _ _⟩
 case round =>
  obtain⟨k,hk,rfl,⟨q',hq',rfl⟩,he,cur,hblk,hsz,hpre⟩:=hrel
  clear HS
  have HS:=Lib.hid hsz
  have HQ:=Lib.hid hq'
  by_cases hlt:k<L
  .
   have hq1:0<=q'/\q'+3<=4611686018427387904:=by have:=Av hlt 3;omega
   obtain⟨hq1,hq2⟩:=hq1
   clear hsz hq'
   obtain⟨z0,g0⟩:∃z,wr.cell? ⟨g,k*3,none⟩=some z:=⟨_,by rw[hblk.cell];exact Array.getElem?_eq_getElem (by have:=HS.out;have:=HC.out;have:=Av hlt 3;omega)⟩
   have f0:=hblk.frozen (k*3)
   obtain⟨z1,g1⟩:∃z,wr.cell? ⟨g,k*3+1,none⟩=some z:=⟨_,by rw[hblk.cell];exact Array.getElem?_eq_getElem (by have:=HS.out;have:=HC.out;have:=Av hlt 3;omega)⟩
   have f1:=hblk.frozen (k*3+1)
   obtain⟨z2,g2⟩:∃z,wr.cell? ⟨g,k*3+2,none⟩=some z:=⟨_,by rw[hblk.cell];exact Array.getElem?_eq_getElem (by have:=HS.out;have:=HC.out;have:=Av hlt 3;omega)⟩
   have f2:=hblk.frozen (k*3+2)
   go_wp2
   go_roundw
   case rel=>exact⟨k+1,by omega,by go_num,⟨_,by have:=HQ.out;omega,rfl⟩,(((he.setCell (by simp) _).setCell (by simp) _).setCell (by simp) _),_,(((hblk.set_ _ _).set_ _ _).set_ _ _),by simp;exact HS.out,((((hpre.set (aP (by have:=Av hlt 3;omega) (by have:=HQ.out;omega)) (by have:=HS.out;have:=Av hlt 3;have:=HC.out;omega)).set (aP (by have:=Av hlt 3;omega) (by have:=HQ.out;omega)) (by have:=HS.out;have:=Av hlt 3;have:=HC.out;simp;omega)).set (aP (by have:=Av hlt 3;omega) (by have:=HQ.out;omega)) (by have:=HS.out;have:=Av hlt 3;have:=HC.out;simp;omega))).cast oM⟩
   case measure=>simp[intOf];omega
  obtain rfl:k=L:=by omega
  clear hsz hq'
  go_wp2
  go_ret
  refine⟨congrArg (fun z=>Ending.returned (.int .i64 z)) HQ.out,he,Own.of_blk hblk hB HS.out (by simp[GR]) hca (by unfold maxLen;omega) hpre⟩
theorem bS1:(Tryz.prog.info? 284).map (fun i=>(i.zero,i.size,i.bytes))=some (some (.agg #[.int .i64 0,.int .i64 0,.int .i64 0,.int .i64 0]),4,32):=by kernel_rfl
theorem bS2(w:World)(v:Value)(xs:List Int)(L:Nat)(hL:xs.length=L*4)(h:Aw 4 w v xs)(hs:L<=1048576):Calls Tryz.prog 123 #[v] w (Ret w fun v' w'=>Ba w.heap.size 284 4 w' v' xs):=by
 obtain⟨a,len,ca,rfl,hl,hca,hm,ha⟩:=h.open_
 obtain rfl:L=len:=by omega
 have HA:=Lib.hid ha;have HL:=Lib.hid hl
 clear ha hl hL
 unfold maxLen at hm
 obtain⟨i0,hi,hz0,hz1,hz2⟩:=info_parts bS1
 go_enter Tryz.func123,Tryz.ntmps123
 have hmk:=fun W=>run_make (P:=Tryz.prog) W 79 284 i0 _ Tryz.underlying79 hi hz0 .i64 .i64 L L oM oM (by rw[hz2];omega) oM
 simp only[Int.toNat_natCast,hz1] at hmk
 go_wp2
 clear hmk
 go_loopw [4] (fun i wr=>∃k:Nat,k<=L/\i=.int .i64 k/\Ext w wr/\∃cur,Blk wr w.heap.size 284 cur/\cur.size=L*4/\Pre cur (k*4) (xs.map (.int .i64))) (fun i _=>L - (intOf i).toNat)
 case atStart=>exact⟨0,Nat.zero_le _,rfl,(Ext.refl _).alloc _,_,Blk.new _ _ _,by simp[size_madeCells],by simpa using Pre.zero _ _⟩
 case round =>
  obtain⟨k,hk,rfl,he,cur,hblk,hsz,hpre⟩:=hrel
  by_cases hlt:k<L
  .
   obtain⟨b1,o1,rfl,_,c1⟩:=HA.out k hlt
   obtain⟨x0,hx0,c10⟩:=c1 0 oM
   obtain⟨x1,hx1,c11⟩:=c1 1 oM
   obtain⟨x2,hx2,c12⟩:=c1 2 oM
   obtain⟨x3,hx3,c13⟩:=c1 3 oM
   have d0:=he.cell c10;have d1:=he.cell c11;have d2:=he.cell c12;have d3:=he.cell c13
   simp only[Nat.add_zero] at d0
   clear c1 c10 c11 c12 c13
   have HX0:=Lib.hid hx0;have HX1:=Lib.hid hx1;have HX2:=Lib.hid hx2;have HX3:=Lib.hid hx3
   have HS:=Lib.hid hsz
   clear hx0 hx1 hx2 hx3 hsz
   go_wp2_with (first|(go_at_call 227;refine(cB8 _ _ _ _ _).mono ?_;rintro e w1 ⟨rfl,hx⟩;have hb1:=hblk.ext hx;obtain⟨z0,g0⟩:∃z,w1.cell? ⟨w.heap.size,k*4,none⟩=some z:=⟨_,by rw[hb1.cell];exact Array.getElem?_eq_getElem (by have:=HS.out;omega)⟩;obtain⟨z1,g1⟩:∃z,w1.cell? ⟨w.heap.size,k*4+1,none⟩=some z:=⟨_,by rw[hb1.cell];exact Array.getElem?_eq_getElem (by have:=HS.out;omega)⟩;obtain⟨z2,g2⟩:∃z,w1.cell? ⟨w.heap.size,k*4+2,none⟩=some z:=⟨_,by rw[hb1.cell];exact Array.getElem?_eq_getElem (by have:=HS.out;omega)⟩;obtain⟨z3,g3⟩:∃z,w1.cell? ⟨w.heap.size,k*4+3,none⟩=some z:=⟨_,by rw[hb1.cell];exact Array.getElem?_eq_getElem (by have:=HS.out;omega)⟩;have f0:=hb1.frozen (k*4);have f1:=hb1.frozen (k*4+1);have f2:=hb1.frozen (k*4+2);have f3:=hb1.frozen (k*4+3)))
   go_roundw
   case rel=>exact⟨k+1,by omega,by go_num,(((((he.trans hx).setCell (Nat.le_refl _) _).setCell (Nat.le_refl _) _).setCell (Nat.le_refl _) _).setCell (Nat.le_refl _) _),_,((((hb1.set_ _ _).set_ _ _).set_ _ _).set_ _ _),by simp;exact HS.out,((((hpre.set (by simpa using HX0.out) (by have:=HS.out;omega)).set (by simpa using HX1.out) (by have:=HS.out;simp;omega)).set (by simpa using HX2.out) (by have:=HS.out;simp;omega)).set (by simpa using HX3.out) (by have:=HS.out;simp;omega)).cast oM⟩
   case measure=>simp[intOf];omega
  obtain rfl:k=L:=by omega
  go_wp2
  go_ret
  exact⟨_,rfl,he,Own.of_blk hblk (Nat.le_refl _) hsz (by simpa using HL.out) (Nat.le_refl _) (by unfold maxLen;omega) hpre⟩
theorem bS3(w:World)(v:Value)(xs:List Int)(L:Nat)(hL:xs.length=L*4)(left:Int)(h:Aw 4 w v xs)(h0:0<=left)(h1:left<=1048576):Calls Tryz.prog 100 #[v,.int .i64 left] w (Ret w fun v' _=>SzR left L v'):=by
 obtain⟨a,len,ca,rfl,hl,hca,hm,-⟩:=h.open_
 obtain rfl:L=len:=by omega
 clear h hl hL
 unfold maxLen at hm
 by_cases hlt:left<L
 .
  have ht:decide (left - (L:Int)<0)=true:=by simp;omega
  go_enter Tryz.func100,Tryz.ntmps100
  go_wp2
  go_ret
  exact⟨_,rfl,Ext.refl _,.inl ⟨rfl,hlt⟩⟩
 have ht:decide (left - (L:Int)<0)=false:=by simp;omega
 go_enter Tryz.func100,Tryz.ntmps100
 go_wp2
 go_ret
 exact⟨_,rfl,Ext.refl _,.inr ⟨rfl,by omega⟩⟩
theorem bS4(w:World)(va vb:Value)(xs:List Int)(ha:Aw 4 w va xs)(hb:Aw 4 w vb xs):Calls Tryz.prog 144 #[va,vb] w (Fz w (.bool true)):=by
 obtain⟨a,len,ca,rfl,hl,hca,hm,ha'⟩:=ha.open_
 obtain⟨b,len',cb,rfl,hl',_,_,hb'⟩:=hb.open_
 obtain rfl:len=len':=by omega
 have HA:=Lib.hid ha';have HB:=Lib.hid hb'
 clear ha' hb' hl hl' ha hb
 unfold maxLen at hm
 go_enter Tryz.func144,Tryz.ntmps144
 go_wp2
 go_loopw [5] (fun i wr=>∃k:Nat,k<=len/\i=.int .i64 k/\Ext w wr) (fun i _=>len - (intOf i).toNat)
 case atStart=>exact⟨0,Nat.zero_le _,rfl,Ext.refl _⟩
 case round =>
  obtain⟨k,hk,rfl,he⟩:=hrel
  by_cases hlt:k<len
  .
   obtain⟨b1,o1,rfl,_,c1⟩:=HA.out k hlt
   obtain⟨b2,o2,rfl,_,c2⟩:=HB.out k hlt
   obtain⟨x0,hx0,c10⟩:=c1 0 oM
   obtain⟨x1,hx1,c11⟩:=c1 1 oM
   obtain⟨x2,hx2,c12⟩:=c1 2 oM
   obtain⟨x3,hx3,c13⟩:=c1 3 oM
   obtain⟨y0,hy0,c20⟩:=c2 0 oM
   obtain⟨y1,hy1,c21⟩:=c2 1 oM
   obtain⟨y2,hy2,c22⟩:=c2 2 oM
   obtain⟨y3,hy3,c23⟩:=c2 3 oM
   obtain rfl:x0=y0:=by rw[hx0] at hy0;exact Option.some.inj hy0
   obtain rfl:x1=y1:=by rw[hx1] at hy1;exact Option.some.inj hy1
   obtain rfl:x2=y2:=by rw[hx2] at hy2;exact Option.some.inj hy2
   obtain rfl:x3=y3:=by rw[hx3] at hy3;exact Option.some.inj hy3
   have d0:=he.cell c10;have e0:=he.cell c20
   have d1:=he.cell c11;have e1:=he.cell c21
   have d2:=he.cell c12;have e2:=he.cell c22
   have d3:=he.cell c13;have e3:=he.cell c23
   simp only[Nat.add_zero] at d0 e0
   clear c1 c2 c10 c20 hx0 hy0 c11 c21 hx1 hy1 c12 c22 hx2 hy2 c13 c23 hx3 hy3
   go_wp2
   go_region_held3 (fun w'=>Ext wr w'/\w'.cell? ⟨b1,o1+k*4,none⟩=some (.int .i64 x0)/\w'.cell? ⟨b1,o1+k*4+1,none⟩=some (.int .i64 x1)/\w'.cell? ⟨b1,o1+k*4+2,none⟩=some (.int .i64 x2)/\w'.cell? ⟨b1,o1+k*4+3,none⟩=some (.int .i64 x3)/\w'.cell? ⟨b2,o2+k*4,none⟩=some (.int .i64 x0)/\w'.cell? ⟨b2,o2+k*4+1,none⟩=some (.int .i64 x1)/\w'.cell? ⟨b2,o2+k*4+2,none⟩=some (.int .i64 x2)/\w'.cell? ⟨b2,o2+k*4+3,none⟩=some (.int .i64 x3)) (first|exact⟨Ext.drew (Ext.refl _),d0,d1,d2,d3,e0,e1,e2,e3⟩|exact LV (S:=fun w'=>Ext wr w'/\w'.cell? ⟨b1,o1+k*4,none⟩=some (.int .i64 x0)/\w'.cell? ⟨b1,o1+k*4+1,none⟩=some (.int .i64 x1)/\w'.cell? ⟨b1,o1+k*4+2,none⟩=some (.int .i64 x2)/\w'.cell? ⟨b1,o1+k*4+3,none⟩=some (.int .i64 x3)/\w'.cell? ⟨b2,o2+k*4,none⟩=some (.int .i64 x0)/\w'.cell? ⟨b2,o2+k*4+1,none⟩=some (.int .i64 x1)/\w'.cell? ⟨b2,o2+k*4+2,none⟩=some (.int .i64 x2)/\w'.cell? ⟨b2,o2+k*4+3,none⟩=some (.int .i64 x3)) (by assumption) hx (fun a b h x=>⟨h.1.trans x,(h.1.trans x).cell d0,(h.1.trans x).cell d1,(h.1.trans x).cell d2,(h.1.trans x).cell d3,(h.1.trans x).cell e0,(h.1.trans x).cell e1,(h.1.trans x).cell e2,(h.1.trans x).cell e3⟩)) ((go_at_call 248;refine(cB9 _ _ _ _ _).mono ?_;rintro e w' ⟨rfl,hx⟩))
   go_wp2
   go_roundw
   case rel=>exact⟨k+1,by omega,by go_num,he.trans (And.left ‹_›)⟩
   case measure=>simp[intOf];omega
  go_wp2
  go_ret
  exact⟨rfl,he⟩
theorem aW9(w:World)(B:Nat)(v:Value)(xs:List Int)(L:Nat)(hL:xs.length=L*4)(q:Int)(h:Ba B 284 4 w v xs)(h0:0<=q)(h1:q+(L*4:Nat)<=4611686018427387904):Calls Tryz.prog 156 #[v,.int .i64 q] w (IX w (Ep [v]) (.int .i64 (q+(L*4:Nat))) fun w'=>Ba B 284 4 w' v (run q (L*4))):=by
 obtain⟨a,len,ca,rfl,hl,hca,hm,hop⟩:=Own.open_ h
 rw[List.length_map] at hl
 obtain rfl:L=len:=by omega
 unfold maxLen at hm
 rcases hop with h00|⟨g,cur0,rfl,hB,hb0,hs0,-⟩
 .
  subst h00
  have hfin:Ba B 284 4 w (.slice a 0 ca) (run q (0*4)):=by
   refine Own.empty h ?_ _ ?_
   .
    exact List.eq_nil_of_length_eq_zero (by simpa using hL)
   simp[run]
  have HF:=Lib.hid hfin
  clear hfin h hL hl
  have hq:q+((0*4:Nat):Int)=q:=by simp
  rw[hq]
  clear hq
  go_enter Tryz.func156,Tryz.ntmps156
  go_wp2
  go_loopw [1,5] (fun kk i wr=>kk=.int .i64 q/\i=.int .i64 0/\wr=w) (fun _ _ _=>0)
  case atStart=>exact⟨rfl,rfl,rfl⟩
  case round =>
   obtain⟨rfl,rfl,rfl⟩:=hrel
   go_wp2
   go_ret
   exact⟨rfl,Upd.refl _ _,HF.out⟩
 have HS:=Lib.hid hs0
 have HC:=Lib.hid (show L*4<=ca*4 by have:=Nat.mul_le_mul_right 4 hca;omega)
 clear hs0 hL hl h
 go_enter Tryz.func156,Tryz.ntmps156
 go_wp2
 go_loopw [1,5] (fun kk i wr=>∃k:Nat,k<=L/\i=.int .i64 k/\(∃q':Int,q'=q+(k*4:Nat)/\kk=.int .i64 q')/\Upd w wr [g]/\∃cur,Blk wr g 284 cur/\cur.size=ca*4/\Pre cur (k*4) ((run q (L*4)).map (.int .i64))) (fun _ i _=>L - (intOf i).toNat)
 case atStart=>exact⟨0,Nat.zero_le _,rfl,⟨q,by simp,rfl⟩,Upd.refl _ _,cur0,hb0,HS.out,by simpa using Pre.zero _ _⟩
 case round =>
  obtain⟨k,hk,rfl,⟨q',hq',rfl⟩,he,cur,hblk,hsz,hpre⟩:=hrel
  clear HS
  have HS:=Lib.hid hsz
  have HQ:=Lib.hid hq'
  by_cases hlt:k<L
  .
   have hq1:0<=q'/\q'+4<=4611686018427387904:=by have:=Av hlt 4;omega
   obtain⟨hq1,hq2⟩:=hq1
   clear hsz hq'
   obtain⟨z0,g0⟩:∃z,wr.cell? ⟨g,k*4,none⟩=some z:=⟨_,by rw[hblk.cell];exact Array.getElem?_eq_getElem (by have:=HS.out;have:=HC.out;have:=Av hlt 4;omega)⟩
   have f0:=hblk.frozen (k*4)
   obtain⟨z1,g1⟩:∃z,wr.cell? ⟨g,k*4+1,none⟩=some z:=⟨_,by rw[hblk.cell];exact Array.getElem?_eq_getElem (by have:=HS.out;have:=HC.out;have:=Av hlt 4;omega)⟩
   have f1:=hblk.frozen (k*4+1)
   obtain⟨z2,g2⟩:∃z,wr.cell? ⟨g,k*4+2,none⟩=some z:=⟨_,by rw[hblk.cell];exact Array.getElem?_eq_getElem (by have:=HS.out;have:=HC.out;have:=Av hlt 4;omega)⟩
   have f2:=hblk.frozen (k*4+2)
   obtain⟨z3,g3⟩:∃z,wr.cell? ⟨g,k*4+3,none⟩=some z:=⟨_,by rw[hblk.cell];exact Array.getElem?_eq_getElem (by have:=HS.out;have:=HC.out;have:=Av hlt 4;omega)⟩
   have f3:=hblk.frozen (k*4+3)
   go_wp2
   go_roundw
   case rel=>exact⟨k+1,by omega,by go_num,⟨_,by have:=HQ.out;omega,rfl⟩,((((he.setCell (by simp) _).setCell (by simp) _).setCell (by simp) _).setCell (by simp) _),_,((((hblk.set_ _ _).set_ _ _).set_ _ _).set_ _ _),by simp;exact HS.out,(((((hpre.set (aP (by have:=Av hlt 4;omega) (by have:=HQ.out;omega)) (by have:=HS.out;have:=Av hlt 4;have:=HC.out;omega)).set (aP (by have:=Av hlt 4;omega) (by have:=HQ.out;omega)) (by have:=HS.out;have:=Av hlt 4;have:=HC.out;simp;omega)).set (aP (by have:=Av hlt 4;omega) (by have:=HQ.out;omega)) (by have:=HS.out;have:=Av hlt 4;have:=HC.out;simp;omega)).set (aP (by have:=Av hlt 4;omega) (by have:=HQ.out;omega)) (by have:=HS.out;have:=Av hlt 4;have:=HC.out;simp;omega))).cast oM⟩
   case measure=>simp[intOf];omega
  obtain rfl:k=L:=by omega
  clear hsz hq'
  go_wp2
  go_ret
  refine⟨congrArg (fun z=>Ending.returned (.int .i64 z)) HQ.out,he,Own.of_blk hblk hB HS.out (by simp[GR]) hca (by unfold maxLen;omega) hpre⟩
theorem bH8:(Tryz.prog.info? 161).map (fun i=>(i.zero,i.size,i.bytes))=some (some (.agg #[.int .i64 0,.int .i64 0,.int .i64 0,.int .i64 0,.int .i64 0,.int .i64 0,.int .i64 0]),7,56):=by kernel_rfl
theorem bS5(w:World)(x0 x1 x2 x3 x4 x5 x6:Int):Calls Tryz.prog 88 #[.agg #[.int .i64 x0,.int .i64 x1,.int .i64 x2,.int .i64 x3,.int .i64 x4,.int .i64 x5,.int .i64 x6]] w (Fz w (.agg #[.int .i64 x0,.int .i64 x1,.int .i64 x2,.int .i64 x3,.int .i64 x4,.int .i64 x5,.int .i64 x6])):=by
 obtain⟨W1,hW1⟩:∃W1,W1=((w.alloc (.cells #[.int .i64 x0,.int .i64 x1,.int .i64 x2,.int .i64 x3,.int .i64 x4,.int .i64 x5,.int .i64 x6] 175)).alloc (.cells #[.int .i64 0,.int .i64 0,.int .i64 0,.int .i64 0,.int .i64 0,.int .i64 0,.int .i64 0] 161)).alloc (.cells #[.int .i64 x0,.int .i64 0,.int .i64 0,.int .i64 0,.int .i64 0,.int .i64 0,.int .i64 0] 161):=⟨_,rfl⟩
 have E1:Ext w W1:=by rw[hW1];exact(((Ext.refl _).alloc _).alloc _).alloc _
 have KA1:Blk W1 w.heap.size 175 #[.int .i64 x0,.int .i64 x1,.int .i64 x2,.int .i64 x3,.int .i64 x4,.int .i64 x5,.int .i64 x6]:=by rw[hW1];exact Blk.alloc (Blk.alloc (Blk.new _ _ _) _) _
 have KR1:Blk W1 (w.heap.size+1) 161 #[.int .i64 0,.int .i64 0,.int .i64 0,.int .i64 0,.int .i64 0,.int .i64 0,.int .i64 0]:=by rw[hW1];exact Blk.alloc (by have:=Blk.new (w.alloc (.cells #[.int .i64 x0,.int .i64 x1,.int .i64 x2,.int .i64 x3,.int .i64 x4,.int .i64 x5,.int .i64 x6] 175)) 161 #[.int .i64 0,.int .i64 0,.int .i64 0,.int .i64 0,.int .i64 0,.int .i64 0,.int .i64 0];rwa [World.size_alloc] at this) _
 have KT1:Blk W1 (w.heap.size+1+1) 161 #[.int .i64 x0,.int .i64 0,.int .i64 0,.int .i64 0,.int .i64 0,.int .i64 0,.int .i64 0]:=by rw[hW1];have:=Blk.new ((w.alloc (.cells #[.int .i64 x0,.int .i64 x1,.int .i64 x2,.int .i64 x3,.int .i64 x4,.int .i64 x5,.int .i64 x6] 175)).alloc (.cells #[.int .i64 0,.int .i64 0,.int .i64 0,.int .i64 0,.int .i64 0,.int .i64 0,.int .i64 0] 161)) 161 #[.int .i64 x0,.int .i64 0,.int .i64 0,.int .i64 0,.int .i64 0,.int .i64 0,.int .i64 0];rwa [World.size_alloc,World.size_alloc] at this
 have HW1:=Lib.hid hW1
 clear hW1
 go_enter Tryz.func88,Tryz.ntmps88
 go_wp2_with fail
 rw[<-HW1.out]
 refine(aT5 _ x1 x2 x3 x4 x5).mono ?_
 rintro e w1⟨rfl,hx1⟩
 have E2:=E1.trans hx1
 have KA2:=KA1.ext hx1;have KR2:=KR1.ext hx1;have KT2:=KT1.ext hx1
 have CA2:=KA2.cell;have LA2:=KA2.lt;have CR2:=KR2.cell;have FR2:=KR2.frozen;have LR2:=KR2.lt;have CT2:=KT2.cell;have FT2:=KT2.frozen;have LT2:=KT2.lt
 go_wp2_with fail
 refine bodyPost_ret (by simp[results,Tryz.results88,go_sem,CR2,FR2,LR2];try rfl) rfl ⟨rfl,?_⟩
 exact xT
theorem bH9(w:World)(v:Value)(xs:List Int)(L:Nat)(hL:xs.length=L*7)(h:Aw 7 w v xs)(hs:L<=1048576):Calls Tryz.prog 29 #[v] w (Ret w fun v' w'=>Ba w.heap.size 161 7 w' v' xs):=by
 obtain⟨a,len,ca,rfl,hl,hca,hm,ha⟩:=h.open_
 obtain rfl:L=len:=by omega
 have HA:=Lib.hid ha;have HL:=Lib.hid hl
 clear ha hl hL
 unfold maxLen at hm
 obtain⟨i0,hi,hz0,hz1,hz2⟩:=info_parts bH8
 go_enter Tryz.func29,Tryz.ntmps29
 have hmk:=fun W=>run_make (P:=Tryz.prog) W 97 161 i0 _ Tryz.underlying97 hi hz0 .i64 .i64 L L oM oM (by rw[hz2];omega) oM
 simp only[Int.toNat_natCast,hz1] at hmk
 go_wp2
 clear hmk
 go_loopw [4] (fun i wr=>∃k:Nat,k<=L/\i=.int .i64 k/\Ext w wr/\∃cur,Blk wr w.heap.size 161 cur/\cur.size=L*7/\Pre cur (k*7) (xs.map (.int .i64))) (fun i _=>L - (intOf i).toNat)
 case atStart=>exact⟨0,Nat.zero_le _,rfl,(Ext.refl _).alloc _,_,Blk.new _ _ _,by simp[size_madeCells],by simpa using Pre.zero _ _⟩
 case round =>
  obtain⟨k,hk,rfl,he,cur,hblk,hsz,hpre⟩:=hrel
  by_cases hlt:k<L
  .
   obtain⟨b1,o1,rfl,_,c1⟩:=HA.out k hlt
   obtain⟨x0,hx0,c10⟩:=c1 0 oM
   obtain⟨x1,hx1,c11⟩:=c1 1 oM
   obtain⟨x2,hx2,c12⟩:=c1 2 oM
   obtain⟨x3,hx3,c13⟩:=c1 3 oM
   obtain⟨x4,hx4,c14⟩:=c1 4 oM
   obtain⟨x5,hx5,c15⟩:=c1 5 oM
   obtain⟨x6,hx6,c16⟩:=c1 6 oM
   have d0:=he.cell c10;have d1:=he.cell c11;have d2:=he.cell c12;have d3:=he.cell c13;have d4:=he.cell c14;have d5:=he.cell c15;have d6:=he.cell c16
   simp only[Nat.add_zero] at d0
   clear c1 c10 c11 c12 c13 c14 c15 c16
   have HX0:=Lib.hid hx0;have HX1:=Lib.hid hx1;have HX2:=Lib.hid hx2;have HX3:=Lib.hid hx3;have HX4:=Lib.hid hx4;have HX5:=Lib.hid hx5;have HX6:=Lib.hid hx6
   have HS:=Lib.hid hsz
   clear hx0 hx1 hx2 hx3 hx4 hx5 hx6 hsz
   go_wp2_with (first|(go_at_call 88;refine(bS5 _ _ _ _ _ _ _ _).mono ?_;rintro e w1 ⟨rfl,hx⟩;have hb1:=hblk.ext hx;obtain⟨z0,g0⟩:∃z,w1.cell? ⟨w.heap.size,k*7,none⟩=some z:=⟨_,by rw[hb1.cell];exact Array.getElem?_eq_getElem (by have:=HS.out;omega)⟩;obtain⟨z1,g1⟩:∃z,w1.cell? ⟨w.heap.size,k*7+1,none⟩=some z:=⟨_,by rw[hb1.cell];exact Array.getElem?_eq_getElem (by have:=HS.out;omega)⟩;obtain⟨z2,g2⟩:∃z,w1.cell? ⟨w.heap.size,k*7+2,none⟩=some z:=⟨_,by rw[hb1.cell];exact Array.getElem?_eq_getElem (by have:=HS.out;omega)⟩;obtain⟨z3,g3⟩:∃z,w1.cell? ⟨w.heap.size,k*7+3,none⟩=some z:=⟨_,by rw[hb1.cell];exact Array.getElem?_eq_getElem (by have:=HS.out;omega)⟩;obtain⟨z4,g4⟩:∃z,w1.cell? ⟨w.heap.size,k*7+4,none⟩=some z:=⟨_,by rw[hb1.cell];exact Array.getElem?_eq_getElem (by have:=HS.out;omega)⟩;obtain⟨z5,g5⟩:∃z,w1.cell? ⟨w.heap.size,k*7+5,none⟩=some z:=⟨_,by rw[hb1.cell];exact Array.getElem?_eq_getElem (by have:=HS.out;omega)⟩;obtain⟨z6,g6⟩:∃z,w1.cell? ⟨w.heap.size,k*7+6,none⟩=some z:=⟨_,by rw[hb1.cell];exact Array.getElem?_eq_getElem (by have:=HS.out;omega)⟩;have f0:=hb1.frozen (k*7);have f1:=hb1.frozen (k*7+1);have f2:=hb1.frozen (k*7+2);have f3:=hb1.frozen (k*7+3);have f4:=hb1.frozen (k*7+4);have f5:=hb1.frozen (k*7+5);have f6:=hb1.frozen (k*7+6)))
   go_roundw
   case rel=>exact⟨k+1,by omega,by go_num,((((((((he.trans hx).setCell (Nat.le_refl _) _).setCell (Nat.le_refl _) _).setCell (Nat.le_refl _) _).setCell (Nat.le_refl _) _).setCell (Nat.le_refl _) _).setCell (Nat.le_refl _) _).setCell (Nat.le_refl _) _),_,(((((((hb1.set_ _ _).set_ _ _).set_ _ _).set_ _ _).set_ _ _).set_ _ _).set_ _ _),by simp;exact HS.out,(((((((hpre.set (by simpa using HX0.out) (by have:=HS.out;omega)).set (by simpa using HX1.out) (by have:=HS.out;simp;omega)).set (by simpa using HX2.out) (by have:=HS.out;simp;omega)).set (by simpa using HX3.out) (by have:=HS.out;simp;omega)).set (by simpa using HX4.out) (by have:=HS.out;simp;omega)).set (by simpa using HX5.out) (by have:=HS.out;simp;omega)).set (by simpa using HX6.out) (by have:=HS.out;simp;omega)).cast oM⟩
   case measure=>simp[intOf];omega
  obtain rfl:k=L:=by omega
  go_wp2
  go_ret
  exact⟨_,rfl,he,Own.of_blk hblk (Nat.le_refl _) hsz (by simpa using HL.out) (Nat.le_refl _) (by unfold maxLen;omega) hpre⟩
theorem bI0(w:World)(v:Value)(xs:List Int)(L:Nat)(hL:xs.length=L*7)(left:Int)(h:Aw 7 w v xs)(h0:0<=left)(h1:left<=1048576):Calls Tryz.prog 28 #[v,.int .i64 left] w (Ret w fun v' _=>SzR left L v'):=by
 obtain⟨a,len,ca,rfl,hl,hca,hm,-⟩:=h.open_
 obtain rfl:L=len:=by omega
 clear h hl hL
 unfold maxLen at hm
 by_cases hlt:left<L
 .
  have ht:decide (left - (L:Int)<0)=true:=by simp;omega
  go_enter Tryz.func28,Tryz.ntmps28
  go_wp2
  go_ret
  exact⟨_,rfl,Ext.refl _,.inl ⟨rfl,hlt⟩⟩
 have ht:decide (left - (L:Int)<0)=false:=by simp;omega
 go_enter Tryz.func28,Tryz.ntmps28
 go_wp2
 go_ret
 exact⟨_,rfl,Ext.refl _,.inr ⟨rfl,by omega⟩⟩
theorem bS6(w:World)(x0 x1 x2 x3 x4 x5 x6:Int):Calls Tryz.prog 89 #[.agg #[.int .i64 x0,.int .i64 x1,.int .i64 x2,.int .i64 x3,.int .i64 x4,.int .i64 x5,.int .i64 x6],.agg #[.int .i64 x0,.int .i64 x1,.int .i64 x2,.int .i64 x3,.int .i64 x4,.int .i64 x5,.int .i64 x6]] w (Fz w (.bool true)):=by
 go_enter Tryz.func89,Tryz.ntmps89
 go_wp2_with (first|(go_at_call 148;refine(ZQ _ _ _ _ _ _).mono ?_;rintro e w1 ⟨rfl,hx1⟩;have hz1:=hx1.size;obtain⟨hc1,hf1⟩:=hx1.cells;simp only[World.size_alloc,World.size_setCell] at hz1 hc1 hf1))
 repeat (go_quiet (fail);go_wp2_with (first|(go_at_call 148;refine(ZQ _ _ _ _ _ _).mono ?_;rintro e w1 ⟨rfl,hx1⟩;have hz1:=hx1.size;obtain⟨hc1,hf1⟩:=hx1.cells;simp only[World.size_alloc,World.size_setCell] at hz1 hc1 hf1)))
 go_ret
 exact⟨rfl,xT⟩
theorem bI1(w:World)(va vb:Value)(xs:List Int)(ha:Aw 7 w va xs)(hb:Aw 7 w vb xs):Calls Tryz.prog 30 #[va,vb] w (Fz w (.bool true)):=by
 obtain⟨a,len,ca,rfl,hl,hca,hm,ha'⟩:=ha.open_
 obtain⟨b,len',cb,rfl,hl',_,_,hb'⟩:=hb.open_
 obtain rfl:len=len':=by omega
 have HA:=Lib.hid ha';have HB:=Lib.hid hb'
 clear ha' hb' hl hl' ha hb
 unfold maxLen at hm
 go_enter Tryz.func30,Tryz.ntmps30
 go_wp2
 go_loopw [5] (fun i wr=>∃k:Nat,k<=len/\i=.int .i64 k/\Ext w wr) (fun i _=>len - (intOf i).toNat)
 case atStart=>exact⟨0,Nat.zero_le _,rfl,Ext.refl _⟩
 case round =>
  obtain⟨k,hk,rfl,he⟩:=hrel
  by_cases hlt:k<len
  .
   obtain⟨b1,o1,rfl,_,c1⟩:=HA.out k hlt
   obtain⟨b2,o2,rfl,_,c2⟩:=HB.out k hlt
   obtain⟨x0,hx0,c10⟩:=c1 0 oM
   obtain⟨x1,hx1,c11⟩:=c1 1 oM
   obtain⟨x2,hx2,c12⟩:=c1 2 oM
   obtain⟨x3,hx3,c13⟩:=c1 3 oM
   obtain⟨x4,hx4,c14⟩:=c1 4 oM
   obtain⟨x5,hx5,c15⟩:=c1 5 oM
   obtain⟨x6,hx6,c16⟩:=c1 6 oM
   obtain⟨y0,hy0,c20⟩:=c2 0 oM
   obtain⟨y1,hy1,c21⟩:=c2 1 oM
   obtain⟨y2,hy2,c22⟩:=c2 2 oM
   obtain⟨y3,hy3,c23⟩:=c2 3 oM
   obtain⟨y4,hy4,c24⟩:=c2 4 oM
   obtain⟨y5,hy5,c25⟩:=c2 5 oM
   obtain⟨y6,hy6,c26⟩:=c2 6 oM
   obtain rfl:x0=y0:=by rw[hx0] at hy0;exact Option.some.inj hy0
   obtain rfl:x1=y1:=by rw[hx1] at hy1;exact Option.some.inj hy1
   obtain rfl:x2=y2:=by rw[hx2] at hy2;exact Option.some.inj hy2
   obtain rfl:x3=y3:=by rw[hx3] at hy3;exact Option.some.inj hy3
   obtain rfl:x4=y4:=by rw[hx4] at hy4;exact Option.some.inj hy4
   obtain rfl:x5=y5:=by rw[hx5] at hy5;exact Option.some.inj hy5
   obtain rfl:x6=y6:=by rw[hx6] at hy6;exact Option.some.inj hy6
   have d0:=he.cell c10;have e0:=he.cell c20
   have d1:=he.cell c11;have e1:=he.cell c21
   have d2:=he.cell c12;have e2:=he.cell c22
   have d3:=he.cell c13;have e3:=he.cell c23
   have d4:=he.cell c14;have e4:=he.cell c24
   have d5:=he.cell c15;have e5:=he.cell c25
   have d6:=he.cell c16;have e6:=he.cell c26
   simp only[Nat.add_zero] at d0 e0
   clear c1 c2 c10 c20 hx0 hy0 c11 c21 hx1 hy1 c12 c22 hx2 hy2 c13 c23 hx3 hy3 c14 c24 hx4 hy4 c15 c25 hx5 hy5 c16 c26 hx6 hy6
   go_wp2
   go_region_held3 (fun w'=>Ext wr w'/\w'.cell? ⟨b1,o1+k*7,none⟩=some (.int .i64 x0)/\w'.cell? ⟨b1,o1+k*7+1,none⟩=some (.int .i64 x1)/\w'.cell? ⟨b1,o1+k*7+2,none⟩=some (.int .i64 x2)/\w'.cell? ⟨b1,o1+k*7+3,none⟩=some (.int .i64 x3)/\w'.cell? ⟨b1,o1+k*7+4,none⟩=some (.int .i64 x4)/\w'.cell? ⟨b1,o1+k*7+5,none⟩=some (.int .i64 x5)/\w'.cell? ⟨b1,o1+k*7+6,none⟩=some (.int .i64 x6)/\w'.cell? ⟨b2,o2+k*7,none⟩=some (.int .i64 x0)/\w'.cell? ⟨b2,o2+k*7+1,none⟩=some (.int .i64 x1)/\w'.cell? ⟨b2,o2+k*7+2,none⟩=some (.int .i64 x2)/\w'.cell? ⟨b2,o2+k*7+3,none⟩=some (.int .i64 x3)/\w'.cell? ⟨b2,o2+k*7+4,none⟩=some (.int .i64 x4)/\w'.cell? ⟨b2,o2+k*7+5,none⟩=some (.int .i64 x5)/\w'.cell? ⟨b2,o2+k*7+6,none⟩=some (.int .i64 x6)) (first|exact⟨Ext.drew (Ext.refl _),d0,d1,d2,d3,d4,d5,d6,e0,e1,e2,e3,e4,e5,e6⟩|exact LV (S:=fun w'=>Ext wr w'/\w'.cell? ⟨b1,o1+k*7,none⟩=some (.int .i64 x0)/\w'.cell? ⟨b1,o1+k*7+1,none⟩=some (.int .i64 x1)/\w'.cell? ⟨b1,o1+k*7+2,none⟩=some (.int .i64 x2)/\w'.cell? ⟨b1,o1+k*7+3,none⟩=some (.int .i64 x3)/\w'.cell? ⟨b1,o1+k*7+4,none⟩=some (.int .i64 x4)/\w'.cell? ⟨b1,o1+k*7+5,none⟩=some (.int .i64 x5)/\w'.cell? ⟨b1,o1+k*7+6,none⟩=some (.int .i64 x6)/\w'.cell? ⟨b2,o2+k*7,none⟩=some (.int .i64 x0)/\w'.cell? ⟨b2,o2+k*7+1,none⟩=some (.int .i64 x1)/\w'.cell? ⟨b2,o2+k*7+2,none⟩=some (.int .i64 x2)/\w'.cell? ⟨b2,o2+k*7+3,none⟩=some (.int .i64 x3)/\w'.cell? ⟨b2,o2+k*7+4,none⟩=some (.int .i64 x4)/\w'.cell? ⟨b2,o2+k*7+5,none⟩=some (.int .i64 x5)/\w'.cell? ⟨b2,o2+k*7+6,none⟩=some (.int .i64 x6)) (by assumption) hx (fun a b h x=>⟨h.1.trans x,(h.1.trans x).cell d0,(h.1.trans x).cell d1,(h.1.trans x).cell d2,(h.1.trans x).cell d3,(h.1.trans x).cell d4,(h.1.trans x).cell d5,(h.1.trans x).cell d6,(h.1.trans x).cell e0,(h.1.trans x).cell e1,(h.1.trans x).cell e2,(h.1.trans x).cell e3,(h.1.trans x).cell e4,(h.1.trans x).cell e5,(h.1.trans x).cell e6⟩)) ((go_at_call 89;refine(bS6 _ _ _ _ _ _ _ _).mono ?_;rintro e w' ⟨rfl,hx⟩))
   go_wp2
   go_roundw
   case rel=>exact⟨k+1,by omega,by go_num,he.trans (And.left ‹_›)⟩
   case measure=>simp[intOf];omega
  go_wp2
  go_ret
  exact⟨rfl,he⟩
theorem aP2(w:World)(B:Nat)(v:Value)(xs:List Int)(L:Nat)(hL:xs.length=L*7)(q:Int)(h:Ba B 161 7 w v xs)(h0:0<=q)(h1:q+(L*7:Nat)<=4611686018427387904):Calls Tryz.prog 31 #[v,.int .i64 q] w (IX w (Ep [v]) (.int .i64 (q+(L*7:Nat))) fun w'=>Ba B 161 7 w' v (run q (L*7))):=by
 obtain⟨a,len,ca,rfl,hl,hca,hm,hop⟩:=Own.open_ h
 rw[List.length_map] at hl
 obtain rfl:L=len:=by omega
 unfold maxLen at hm
 rcases hop with h00|⟨g,cur0,rfl,hB,hb0,hs0,-⟩
 .
  subst h00
  have hfin:Ba B 161 7 w (.slice a 0 ca) (run q (0*7)):=by
   refine Own.empty h ?_ _ ?_
   .
    exact List.eq_nil_of_length_eq_zero (by simpa using hL)
   simp[run]
  have HF:=Lib.hid hfin
  clear hfin h hL hl
  have hq:q+((0*7:Nat):Int)=q:=by simp
  rw[hq]
  clear hq
  go_enter Tryz.func31,Tryz.ntmps31
  go_wp2
  go_loopw [1,5] (fun kk i wr=>kk=.int .i64 q/\i=.int .i64 0/\wr=w) (fun _ _ _=>0)
  case atStart=>exact⟨rfl,rfl,rfl⟩
  case round =>
   obtain⟨rfl,rfl,rfl⟩:=hrel
   go_wp2
   go_ret
   exact⟨rfl,Upd.refl _ _,HF.out⟩
 have HS:=Lib.hid hs0
 have HC:=Lib.hid (show L*7<=ca*7 by have:=Nat.mul_le_mul_right 7 hca;omega)
 clear hs0 hL hl h
 go_enter Tryz.func31,Tryz.ntmps31
 go_wp2
 go_loopw [1,5] (fun kk i wr=>∃k:Nat,k<=L/\i=.int .i64 k/\(∃q':Int,q'=q+(k*7:Nat)/\kk=.int .i64 q')/\Upd w wr [g]/\∃cur,Blk wr g 161 cur/\cur.size=ca*7/\Pre cur (k*7) ((run q (L*7)).map (.int .i64))) (fun _ i _=>L - (intOf i).toNat)
 case atStart=>exact⟨0,Nat.zero_le _,rfl,⟨q,by simp,rfl⟩,Upd.refl _ _,cur0,hb0,HS.out,by simpa using Pre.zero _ _⟩
 case round =>
  obtain⟨k,hk,rfl,⟨q',hq',rfl⟩,he,cur,hblk,hsz,hpre⟩:=hrel
  clear HS
  have HS:=Lib.hid hsz
  have HQ:=Lib.hid hq'
  by_cases hlt:k<L
  .
   have hq1:0<=q'/\q'+7<=4611686018427387904:=by have:=Av hlt 7;omega
   obtain⟨hq1,hq2⟩:=hq1
   clear hsz hq'
   obtain⟨z0,g0⟩:∃z,wr.cell? ⟨g,k*7,none⟩=some z:=⟨_,by rw[hblk.cell];exact Array.getElem?_eq_getElem (by have:=HS.out;have:=HC.out;have:=Av hlt 7;omega)⟩
   have f0:=hblk.frozen (k*7)
   obtain⟨z1,g1⟩:∃z,wr.cell? ⟨g,k*7+1,none⟩=some z:=⟨_,by rw[hblk.cell];exact Array.getElem?_eq_getElem (by have:=HS.out;have:=HC.out;have:=Av hlt 7;omega)⟩
   have f1:=hblk.frozen (k*7+1)
   obtain⟨z2,g2⟩:∃z,wr.cell? ⟨g,k*7+2,none⟩=some z:=⟨_,by rw[hblk.cell];exact Array.getElem?_eq_getElem (by have:=HS.out;have:=HC.out;have:=Av hlt 7;omega)⟩
   have f2:=hblk.frozen (k*7+2)
   obtain⟨z3,g3⟩:∃z,wr.cell? ⟨g,k*7+3,none⟩=some z:=⟨_,by rw[hblk.cell];exact Array.getElem?_eq_getElem (by have:=HS.out;have:=HC.out;have:=Av hlt 7;omega)⟩
   have f3:=hblk.frozen (k*7+3)
   obtain⟨z4,g4⟩:∃z,wr.cell? ⟨g,k*7+4,none⟩=some z:=⟨_,by rw[hblk.cell];exact Array.getElem?_eq_getElem (by have:=HS.out;have:=HC.out;have:=Av hlt 7;omega)⟩
   have f4:=hblk.frozen (k*7+4)
   obtain⟨z5,g5⟩:∃z,wr.cell? ⟨g,k*7+5,none⟩=some z:=⟨_,by rw[hblk.cell];exact Array.getElem?_eq_getElem (by have:=HS.out;have:=HC.out;have:=Av hlt 7;omega)⟩
   have f5:=hblk.frozen (k*7+5)
   obtain⟨z6,g6⟩:∃z,wr.cell? ⟨g,k*7+6,none⟩=some z:=⟨_,by rw[hblk.cell];exact Array.getElem?_eq_getElem (by have:=HS.out;have:=HC.out;have:=Av hlt 7;omega)⟩
   have f6:=hblk.frozen (k*7+6)
   go_wp2
   go_roundw
   case rel=>exact⟨k+1,by omega,by go_num,⟨_,by have:=HQ.out;omega,rfl⟩,(((((((he.setCell (by simp) _).setCell (by simp) _).setCell (by simp) _).setCell (by simp) _).setCell (by simp) _).setCell (by simp) _).setCell (by simp) _),_,(((((((hblk.set_ _ _).set_ _ _).set_ _ _).set_ _ _).set_ _ _).set_ _ _).set_ _ _),by simp;exact HS.out,((((((((hpre.set (aP (by have:=Av hlt 7;omega) (by have:=HQ.out;omega)) (by have:=HS.out;have:=Av hlt 7;have:=HC.out;omega)).set (aP (by have:=Av hlt 7;omega) (by have:=HQ.out;omega)) (by have:=HS.out;have:=Av hlt 7;have:=HC.out;simp;omega)).set (aP (by have:=Av hlt 7;omega) (by have:=HQ.out;omega)) (by have:=HS.out;have:=Av hlt 7;have:=HC.out;simp;omega)).set (aP (by have:=Av hlt 7;omega) (by have:=HQ.out;omega)) (by have:=HS.out;have:=Av hlt 7;have:=HC.out;simp;omega)).set (aP (by have:=Av hlt 7;omega) (by have:=HQ.out;omega)) (by have:=HS.out;have:=Av hlt 7;have:=HC.out;simp;omega)).set (aP (by have:=Av hlt 7;omega) (by have:=HQ.out;omega)) (by have:=HS.out;have:=Av hlt 7;have:=HC.out;simp;omega)).set (aP (by have:=Av hlt 7;omega) (by have:=HQ.out;omega)) (by have:=HS.out;have:=Av hlt 7;have:=HC.out;simp;omega))).cast oM⟩
   case measure=>simp[intOf];omega
  obtain rfl:k=L:=by omega
  clear hsz hq'
  go_wp2
  go_ret
  refine⟨congrArg (fun z=>Ending.returned (.int .i64 z)) HQ.out,he,Own.of_blk hblk hB HS.out (by simp[GR]) hca (by unfold maxLen;omega) hpre⟩
theorem bS7:(Tryz.prog.info? 276).map (fun i=>(i.zero,i.size,i.bytes))=some (some (.agg #[.int .i64 0,.int .i64 0,.int .i64 0,.int .i64 0]),4,32):=by kernel_rfl
theorem cE8(w:World)(x0 x1 x2 x3:Int):Calls Tryz.prog 234 #[.agg #[.int .i64 x0,.int .i64 x1,.int .i64 x2,.int .i64 x3]] w (Fz w (.agg #[.int .i64 x0,.int .i64 x1,.int .i64 x2,.int .i64 x3])):=by
 go_enter Tryz.func234,Tryz.ntmps234
 go_wp2
 refine bodyPost_ret (v:=.agg #[.int .i64 x0,.int .i64 x1,.int .i64 x2,.int .i64 x3]) (by simp[results,Tryz.results234,go_sem]) rfl ⟨rfl,?_⟩
 exact xT
theorem bS8(w:World)(v:Value)(xs:List Int)(L:Nat)(hL:xs.length=L*4)(h:Aw 4 w v xs)(hs:L<=1048576):Calls Tryz.prog 128 #[v] w (Ret w fun v' w'=>Ba w.heap.size 276 4 w' v' xs):=by
 obtain⟨a,len,ca,rfl,hl,hca,hm,ha⟩:=h.open_
 obtain rfl:L=len:=by omega
 have HA:=Lib.hid ha;have HL:=Lib.hid hl
 clear ha hl hL
 unfold maxLen at hm
 obtain⟨i0,hi,hz0,hz1,hz2⟩:=info_parts bS7
 go_enter Tryz.func128,Tryz.ntmps128
 have hmk:=fun W=>run_make (P:=Tryz.prog) W 98 276 i0 _ Tryz.underlying98 hi hz0 .i64 .i64 L L oM oM (by rw[hz2];omega) oM
 simp only[Int.toNat_natCast,hz1] at hmk
 go_wp2
 clear hmk
 go_loopw [4] (fun i wr=>∃k:Nat,k<=L/\i=.int .i64 k/\Ext w wr/\∃cur,Blk wr w.heap.size 276 cur/\cur.size=L*4/\Pre cur (k*4) (xs.map (.int .i64))) (fun i _=>L - (intOf i).toNat)
 case atStart=>exact⟨0,Nat.zero_le _,rfl,(Ext.refl _).alloc _,_,Blk.new _ _ _,by simp[size_madeCells],by simpa using Pre.zero _ _⟩
 case round =>
  obtain⟨k,hk,rfl,he,cur,hblk,hsz,hpre⟩:=hrel
  by_cases hlt:k<L
  .
   obtain⟨b1,o1,rfl,_,c1⟩:=HA.out k hlt
   obtain⟨x0,hx0,c10⟩:=c1 0 oM
   obtain⟨x1,hx1,c11⟩:=c1 1 oM
   obtain⟨x2,hx2,c12⟩:=c1 2 oM
   obtain⟨x3,hx3,c13⟩:=c1 3 oM
   have d0:=he.cell c10;have d1:=he.cell c11;have d2:=he.cell c12;have d3:=he.cell c13
   simp only[Nat.add_zero] at d0
   clear c1 c10 c11 c12 c13
   have HX0:=Lib.hid hx0;have HX1:=Lib.hid hx1;have HX2:=Lib.hid hx2;have HX3:=Lib.hid hx3
   have HS:=Lib.hid hsz
   clear hx0 hx1 hx2 hx3 hsz
   go_wp2_with (first|(go_at_call 234;refine(cE8 _ _ _ _ _).mono ?_;rintro e w1 ⟨rfl,hx⟩;have hb1:=hblk.ext hx;obtain⟨z0,g0⟩:∃z,w1.cell? ⟨w.heap.size,k*4,none⟩=some z:=⟨_,by rw[hb1.cell];exact Array.getElem?_eq_getElem (by have:=HS.out;omega)⟩;obtain⟨z1,g1⟩:∃z,w1.cell? ⟨w.heap.size,k*4+1,none⟩=some z:=⟨_,by rw[hb1.cell];exact Array.getElem?_eq_getElem (by have:=HS.out;omega)⟩;obtain⟨z2,g2⟩:∃z,w1.cell? ⟨w.heap.size,k*4+2,none⟩=some z:=⟨_,by rw[hb1.cell];exact Array.getElem?_eq_getElem (by have:=HS.out;omega)⟩;obtain⟨z3,g3⟩:∃z,w1.cell? ⟨w.heap.size,k*4+3,none⟩=some z:=⟨_,by rw[hb1.cell];exact Array.getElem?_eq_getElem (by have:=HS.out;omega)⟩;have f0:=hb1.frozen (k*4);have f1:=hb1.frozen (k*4+1);have f2:=hb1.frozen (k*4+2);have f3:=hb1.frozen (k*4+3)))
   go_roundw
   case rel=>exact⟨k+1,by omega,by go_num,(((((he.trans hx).setCell (Nat.le_refl _) _).setCell (Nat.le_refl _) _).setCell (Nat.le_refl _) _).setCell (Nat.le_refl _) _),_,((((hb1.set_ _ _).set_ _ _).set_ _ _).set_ _ _),by simp;exact HS.out,((((hpre.set (by simpa using HX0.out) (by have:=HS.out;omega)).set (by simpa using HX1.out) (by have:=HS.out;simp;omega)).set (by simpa using HX2.out) (by have:=HS.out;simp;omega)).set (by simpa using HX3.out) (by have:=HS.out;simp;omega)).cast oM⟩
   case measure=>simp[intOf];omega
  obtain rfl:k=L:=by omega
  go_wp2
  go_ret
  exact⟨_,rfl,he,Own.of_blk hblk (Nat.le_refl _) hsz (by simpa using HL.out) (Nat.le_refl _) (by unfold maxLen;omega) hpre⟩
theorem bS9(w:World)(v:Value)(xs:List Int)(L:Nat)(hL:xs.length=L*4)(left:Int)(h:Aw 4 w v xs)(h0:0<=left)(h1:left<=1048576):Calls Tryz.prog 104 #[v,.int .i64 left] w (Ret w fun v' _=>SzR left L v'):=by
 obtain⟨a,len,ca,rfl,hl,hca,hm,-⟩:=h.open_
 obtain rfl:L=len:=by omega
 clear h hl hL
 unfold maxLen at hm
 by_cases hlt:left<L
 .
  have ht:decide (left - (L:Int)<0)=true:=by simp;omega
  go_enter Tryz.func104,Tryz.ntmps104
  go_wp2
  go_ret
  exact⟨_,rfl,Ext.refl _,.inl ⟨rfl,hlt⟩⟩
 have ht:decide (left - (L:Int)<0)=false:=by simp;omega
 go_enter Tryz.func104,Tryz.ntmps104
 go_wp2
 go_ret
 exact⟨_,rfl,Ext.refl _,.inr ⟨rfl,by omega⟩⟩
theorem cE9(w:World)(x0 x1 x2 x3:Int):Calls Tryz.prog 255 #[.agg #[.int .i64 x0,.int .i64 x1,.int .i64 x2,.int .i64 x3],.agg #[.int .i64 x0,.int .i64 x1,.int .i64 x2,.int .i64 x3]] w (Fz w (.bool true)):=by
 go_enter Tryz.func255,Tryz.ntmps255
 go_wp2
 repeat (go_quiet (fail);go_wp2)
 go_ret
 exact⟨rfl,xT⟩
theorem bT0(w:World)(va vb:Value)(xs:List Int)(ha:Aw 4 w va xs)(hb:Aw 4 w vb xs):Calls Tryz.prog 149 #[va,vb] w (Fz w (.bool true)):=by
 obtain⟨a,len,ca,rfl,hl,hca,hm,ha'⟩:=ha.open_
 obtain⟨b,len',cb,rfl,hl',_,_,hb'⟩:=hb.open_
 obtain rfl:len=len':=by omega
 have HA:=Lib.hid ha';have HB:=Lib.hid hb'
 clear ha' hb' hl hl' ha hb
 unfold maxLen at hm
 go_enter Tryz.func149,Tryz.ntmps149
 go_wp2
 go_loopw [5] (fun i wr=>∃k:Nat,k<=len/\i=.int .i64 k/\Ext w wr) (fun i _=>len - (intOf i).toNat)
 case atStart=>exact⟨0,Nat.zero_le _,rfl,Ext.refl _⟩
 case round =>
  obtain⟨k,hk,rfl,he⟩:=hrel
  by_cases hlt:k<len
  .
   obtain⟨b1,o1,rfl,_,c1⟩:=HA.out k hlt
   obtain⟨b2,o2,rfl,_,c2⟩:=HB.out k hlt
   obtain⟨x0,hx0,c10⟩:=c1 0 oM
   obtain⟨x1,hx1,c11⟩:=c1 1 oM
   obtain⟨x2,hx2,c12⟩:=c1 2 oM
   obtain⟨x3,hx3,c13⟩:=c1 3 oM
   obtain⟨y0,hy0,c20⟩:=c2 0 oM
   obtain⟨y1,hy1,c21⟩:=c2 1 oM
   obtain⟨y2,hy2,c22⟩:=c2 2 oM
   obtain⟨y3,hy3,c23⟩:=c2 3 oM
   obtain rfl:x0=y0:=by rw[hx0] at hy0;exact Option.some.inj hy0
   obtain rfl:x1=y1:=by rw[hx1] at hy1;exact Option.some.inj hy1
   obtain rfl:x2=y2:=by rw[hx2] at hy2;exact Option.some.inj hy2
   obtain rfl:x3=y3:=by rw[hx3] at hy3;exact Option.some.inj hy3
   have d0:=he.cell c10;have e0:=he.cell c20
   have d1:=he.cell c11;have e1:=he.cell c21
   have d2:=he.cell c12;have e2:=he.cell c22
   have d3:=he.cell c13;have e3:=he.cell c23
   simp only[Nat.add_zero] at d0 e0
   clear c1 c2 c10 c20 hx0 hy0 c11 c21 hx1 hy1 c12 c22 hx2 hy2 c13 c23 hx3 hy3
   go_wp2
   go_region_held3 (fun w'=>Ext wr w'/\w'.cell? ⟨b1,o1+k*4,none⟩=some (.int .i64 x0)/\w'.cell? ⟨b1,o1+k*4+1,none⟩=some (.int .i64 x1)/\w'.cell? ⟨b1,o1+k*4+2,none⟩=some (.int .i64 x2)/\w'.cell? ⟨b1,o1+k*4+3,none⟩=some (.int .i64 x3)/\w'.cell? ⟨b2,o2+k*4,none⟩=some (.int .i64 x0)/\w'.cell? ⟨b2,o2+k*4+1,none⟩=some (.int .i64 x1)/\w'.cell? ⟨b2,o2+k*4+2,none⟩=some (.int .i64 x2)/\w'.cell? ⟨b2,o2+k*4+3,none⟩=some (.int .i64 x3)) (first|exact⟨Ext.drew (Ext.refl _),d0,d1,d2,d3,e0,e1,e2,e3⟩|exact LV (S:=fun w'=>Ext wr w'/\w'.cell? ⟨b1,o1+k*4,none⟩=some (.int .i64 x0)/\w'.cell? ⟨b1,o1+k*4+1,none⟩=some (.int .i64 x1)/\w'.cell? ⟨b1,o1+k*4+2,none⟩=some (.int .i64 x2)/\w'.cell? ⟨b1,o1+k*4+3,none⟩=some (.int .i64 x3)/\w'.cell? ⟨b2,o2+k*4,none⟩=some (.int .i64 x0)/\w'.cell? ⟨b2,o2+k*4+1,none⟩=some (.int .i64 x1)/\w'.cell? ⟨b2,o2+k*4+2,none⟩=some (.int .i64 x2)/\w'.cell? ⟨b2,o2+k*4+3,none⟩=some (.int .i64 x3)) (by assumption) hx (fun a b h x=>⟨h.1.trans x,(h.1.trans x).cell d0,(h.1.trans x).cell d1,(h.1.trans x).cell d2,(h.1.trans x).cell d3,(h.1.trans x).cell e0,(h.1.trans x).cell e1,(h.1.trans x).cell e2,(h.1.trans x).cell e3⟩)) ((go_at_call 255;refine(cE9 _ _ _ _ _).mono ?_;rintro e w' ⟨rfl,hx⟩))
   go_wp2
   go_roundw
   case rel=>exact⟨k+1,by omega,by go_num,he.trans (And.left ‹_›)⟩
   case measure=>simp[intOf];omega
  go_wp2
  go_ret
  exact⟨rfl,he⟩
theorem aX0(w:World)(B:Nat)(v:Value)(xs:List Int)(L:Nat)(hL:xs.length=L*4)(q:Int)(h:Ba B 276 4 w v xs)(h0:0<=q)(h1:q+(L*4:Nat)<=4611686018427387904):Calls Tryz.prog 160 #[v,.int .i64 q] w (IX w (Ep [v]) (.int .i64 (q+(L*4:Nat))) fun w'=>Ba B 276 4 w' v (run q (L*4))):=by
 obtain⟨a,len,ca,rfl,hl,hca,hm,hop⟩:=Own.open_ h
 rw[List.length_map] at hl
 obtain rfl:L=len:=by omega
 unfold maxLen at hm
 rcases hop with h00|⟨g,cur0,rfl,hB,hb0,hs0,-⟩
 .
  subst h00
  have hfin:Ba B 276 4 w (.slice a 0 ca) (run q (0*4)):=by
   refine Own.empty h ?_ _ ?_
   .
    exact List.eq_nil_of_length_eq_zero (by simpa using hL)
   simp[run]
  have HF:=Lib.hid hfin
  clear hfin h hL hl
  have hq:q+((0*4:Nat):Int)=q:=by simp
  rw[hq]
  clear hq
  go_enter Tryz.func160,Tryz.ntmps160
  go_wp2
  go_loopw [1,5] (fun kk i wr=>kk=.int .i64 q/\i=.int .i64 0/\wr=w) (fun _ _ _=>0)
  case atStart=>exact⟨rfl,rfl,rfl⟩
  case round =>
   obtain⟨rfl,rfl,rfl⟩:=hrel
   go_wp2
   go_ret
   exact⟨rfl,Upd.refl _ _,HF.out⟩
 have HS:=Lib.hid hs0
 have HC:=Lib.hid (show L*4<=ca*4 by have:=Nat.mul_le_mul_right 4 hca;omega)
 clear hs0 hL hl h
 go_enter Tryz.func160,Tryz.ntmps160
 go_wp2
 go_loopw [1,5] (fun kk i wr=>∃k:Nat,k<=L/\i=.int .i64 k/\(∃q':Int,q'=q+(k*4:Nat)/\kk=.int .i64 q')/\Upd w wr [g]/\∃cur,Blk wr g 276 cur/\cur.size=ca*4/\Pre cur (k*4) ((run q (L*4)).map (.int .i64))) (fun _ i _=>L - (intOf i).toNat)
 case atStart=>exact⟨0,Nat.zero_le _,rfl,⟨q,by simp,rfl⟩,Upd.refl _ _,cur0,hb0,HS.out,by simpa using Pre.zero _ _⟩
 case round =>
  obtain⟨k,hk,rfl,⟨q',hq',rfl⟩,he,cur,hblk,hsz,hpre⟩:=hrel
  clear HS
  have HS:=Lib.hid hsz
  have HQ:=Lib.hid hq'
  by_cases hlt:k<L
  .
   have hq1:0<=q'/\q'+4<=4611686018427387904:=by have:=Av hlt 4;omega
   obtain⟨hq1,hq2⟩:=hq1
   clear hsz hq'
   obtain⟨z0,g0⟩:∃z,wr.cell? ⟨g,k*4,none⟩=some z:=⟨_,by rw[hblk.cell];exact Array.getElem?_eq_getElem (by have:=HS.out;have:=HC.out;have:=Av hlt 4;omega)⟩
   have f0:=hblk.frozen (k*4)
   obtain⟨z1,g1⟩:∃z,wr.cell? ⟨g,k*4+1,none⟩=some z:=⟨_,by rw[hblk.cell];exact Array.getElem?_eq_getElem (by have:=HS.out;have:=HC.out;have:=Av hlt 4;omega)⟩
   have f1:=hblk.frozen (k*4+1)
   obtain⟨z2,g2⟩:∃z,wr.cell? ⟨g,k*4+2,none⟩=some z:=⟨_,by rw[hblk.cell];exact Array.getElem?_eq_getElem (by have:=HS.out;have:=HC.out;have:=Av hlt 4;omega)⟩
   have f2:=hblk.frozen (k*4+2)
   obtain⟨z3,g3⟩:∃z,wr.cell? ⟨g,k*4+3,none⟩=some z:=⟨_,by rw[hblk.cell];exact Array.getElem?_eq_getElem (by have:=HS.out;have:=HC.out;have:=Av hlt 4;omega)⟩
   have f3:=hblk.frozen (k*4+3)
   go_wp2
   go_roundw
   case rel=>exact⟨k+1,by omega,by go_num,⟨_,by have:=HQ.out;omega,rfl⟩,((((he.setCell (by simp) _).setCell (by simp) _).setCell (by simp) _).setCell (by simp) _),_,((((hblk.set_ _ _).set_ _ _).set_ _ _).set_ _ _),by simp;exact HS.out,(((((hpre.set (aP (by have:=Av hlt 4;omega) (by have:=HQ.out;omega)) (by have:=HS.out;have:=Av hlt 4;have:=HC.out;omega)).set (aP (by have:=Av hlt 4;omega) (by have:=HQ.out;omega)) (by have:=HS.out;have:=Av hlt 4;have:=HC.out;simp;omega)).set (aP (by have:=Av hlt 4;omega) (by have:=HQ.out;omega)) (by have:=HS.out;have:=Av hlt 4;have:=HC.out;simp;omega)).set (aP (by have:=Av hlt 4;omega) (by have:=HQ.out;omega)) (by have:=HS.out;have:=Av hlt 4;have:=HC.out;simp;omega))).cast oM⟩
   case measure=>simp[intOf];omega
  obtain rfl:k=L:=by omega
  clear hsz hq'
  go_wp2
  go_ret
  refine⟨congrArg (fun z=>Ending.returned (.int .i64 z)) HQ.out,he,Own.of_blk hblk hB HS.out (by simp[GR]) hca (by unfold maxLen;omega) hpre⟩
theorem bI2:(Tryz.prog.info? 258).map (fun i=>(i.zero,i.size,i.bytes))=some (some (.agg #[.int .i64 0,.int .i64 0]),2,16):=by kernel_rfl
theorem bT1(w:World)(x0 x1:Int):Calls Tryz.prog 236 #[.agg #[.int .i64 x0,.int .i64 x1]] w (Fz w (.agg #[.int .i64 x0,.int .i64 x1])):=by
 go_enter Tryz.func236,Tryz.ntmps236
 go_wp2
 refine bodyPost_ret (v:=.agg #[.int .i64 x0,.int .i64 x1]) (by simp[results,Tryz.results236,go_sem]) rfl ⟨rfl,?_⟩
 exact xT
theorem bI3(w:World)(v:Value)(xs:List Int)(L:Nat)(hL:xs.length=L*2)(h:Aw 2 w v xs)(hs:L<=1048576):Calls Tryz.prog 130 #[v] w (Ret w fun v' w'=>Ba w.heap.size 258 2 w' v' xs):=by
 obtain⟨a,len,ca,rfl,hl,hca,hm,ha⟩:=h.open_
 obtain rfl:L=len:=by omega
 have HA:=Lib.hid ha;have HL:=Lib.hid hl
 clear ha hl hL
 unfold maxLen at hm
 obtain⟨i0,hi,hz0,hz1,hz2⟩:=info_parts bI2
 go_enter Tryz.func130,Tryz.ntmps130
 have hmk:=fun W=>run_make (P:=Tryz.prog) W 102 258 i0 _ Tryz.underlying102 hi hz0 .i64 .i64 L L oM oM (by rw[hz2];omega) oM
 simp only[Int.toNat_natCast,hz1] at hmk
 go_wp2
 clear hmk
 go_loopw [4] (fun i wr=>∃k:Nat,k<=L/\i=.int .i64 k/\Ext w wr/\∃cur,Blk wr w.heap.size 258 cur/\cur.size=L*2/\Pre cur (k*2) (xs.map (.int .i64))) (fun i _=>L - (intOf i).toNat)
 case atStart=>exact⟨0,Nat.zero_le _,rfl,(Ext.refl _).alloc _,_,Blk.new _ _ _,by simp[size_madeCells],by simpa using Pre.zero _ _⟩
 case round =>
  obtain⟨k,hk,rfl,he,cur,hblk,hsz,hpre⟩:=hrel
  by_cases hlt:k<L
  .
   obtain⟨b1,o1,rfl,_,c1⟩:=HA.out k hlt
   obtain⟨x0,hx0,c10⟩:=c1 0 oM
   obtain⟨x1,hx1,c11⟩:=c1 1 oM
   have d0:=he.cell c10;have d1:=he.cell c11
   simp only[Nat.add_zero] at d0
   clear c1 c10 c11
   have HX0:=Lib.hid hx0;have HX1:=Lib.hid hx1
   have HS:=Lib.hid hsz
   clear hx0 hx1 hsz
   go_wp2_with (first|(go_at_call 236;refine(bT1 _ _ _).mono ?_;rintro e w1 ⟨rfl,hx⟩;have hb1:=hblk.ext hx;obtain⟨z0,g0⟩:∃z,w1.cell? ⟨w.heap.size,k*2,none⟩=some z:=⟨_,by rw[hb1.cell];exact Array.getElem?_eq_getElem (by have:=HS.out;omega)⟩;obtain⟨z1,g1⟩:∃z,w1.cell? ⟨w.heap.size,k*2+1,none⟩=some z:=⟨_,by rw[hb1.cell];exact Array.getElem?_eq_getElem (by have:=HS.out;omega)⟩;have f0:=hb1.frozen (k*2);have f1:=hb1.frozen (k*2+1)))
   go_roundw
   case rel=>exact⟨k+1,by omega,by go_num,(((he.trans hx).setCell (Nat.le_refl _) _).setCell (Nat.le_refl _) _),_,((hb1.set_ _ _).set_ _ _),by simp;exact HS.out,((hpre.set (by simpa using HX0.out) (by have:=HS.out;omega)).set (by simpa using HX1.out) (by have:=HS.out;simp;omega)).cast oM⟩
   case measure=>simp[intOf];omega
  obtain rfl:k=L:=by omega
  go_wp2
  go_ret
  exact⟨_,rfl,he,Own.of_blk hblk (Nat.le_refl _) hsz (by simpa using HL.out) (Nat.le_refl _) (by unfold maxLen;omega) hpre⟩
theorem bI4(w:World)(v:Value)(xs:List Int)(L:Nat)(hL:xs.length=L*2)(left:Int)(h:Aw 2 w v xs)(h0:0<=left)(h1:left<=1048576):Calls Tryz.prog 106 #[v,.int .i64 left] w (Ret w fun v' _=>SzR left L v'):=by
 obtain⟨a,len,ca,rfl,hl,hca,hm,-⟩:=h.open_
 obtain rfl:L=len:=by omega
 clear h hl hL
 unfold maxLen at hm
 by_cases hlt:left<L
 .
  have ht:decide (left - (L:Int)<0)=true:=by simp;omega
  go_enter Tryz.func106,Tryz.ntmps106
  go_wp2
  go_ret
  exact⟨_,rfl,Ext.refl _,.inl ⟨rfl,hlt⟩⟩
 have ht:decide (left - (L:Int)<0)=false:=by simp;omega
 go_enter Tryz.func106,Tryz.ntmps106
 go_wp2
 go_ret
 exact⟨_,rfl,Ext.refl _,.inr ⟨rfl,by omega⟩⟩
theorem bT2(w:World)(x0 x1:Int):Calls Tryz.prog 257 #[.agg #[.int .i64 x0,.int .i64 x1],.agg #[.int .i64 x0,.int .i64 x1]] w (Fz w (.bool true)):=by
 go_enter Tryz.func257,Tryz.ntmps257
 go_wp2
 repeat (go_quiet (fail);go_wp2)
 go_ret
 exact⟨rfl,xT⟩
theorem bI5(w:World)(va vb:Value)(xs:List Int)(ha:Aw 2 w va xs)(hb:Aw 2 w vb xs):Calls Tryz.prog 151 #[va,vb] w (Fz w (.bool true)):=by
 obtain⟨a,len,ca,rfl,hl,hca,hm,ha'⟩:=ha.open_
 obtain⟨b,len',cb,rfl,hl',_,_,hb'⟩:=hb.open_
 obtain rfl:len=len':=by omega
 have HA:=Lib.hid ha';have HB:=Lib.hid hb'
 clear ha' hb' hl hl' ha hb
 unfold maxLen at hm
 go_enter Tryz.func151,Tryz.ntmps151
 go_wp2
 go_loopw [5] (fun i wr=>∃k:Nat,k<=len/\i=.int .i64 k/\Ext w wr) (fun i _=>len - (intOf i).toNat)
 case atStart=>exact⟨0,Nat.zero_le _,rfl,Ext.refl _⟩
 case round =>
  obtain⟨k,hk,rfl,he⟩:=hrel
  by_cases hlt:k<len
  .
   obtain⟨b1,o1,rfl,_,c1⟩:=HA.out k hlt
   obtain⟨b2,o2,rfl,_,c2⟩:=HB.out k hlt
   obtain⟨x0,hx0,c10⟩:=c1 0 oM
   obtain⟨x1,hx1,c11⟩:=c1 1 oM
   obtain⟨y0,hy0,c20⟩:=c2 0 oM
   obtain⟨y1,hy1,c21⟩:=c2 1 oM
   obtain rfl:x0=y0:=by rw[hx0] at hy0;exact Option.some.inj hy0
   obtain rfl:x1=y1:=by rw[hx1] at hy1;exact Option.some.inj hy1
   have d0:=he.cell c10;have e0:=he.cell c20
   have d1:=he.cell c11;have e1:=he.cell c21
   simp only[Nat.add_zero] at d0 e0
   clear c1 c2 c10 c20 hx0 hy0 c11 c21 hx1 hy1
   go_wp2
   go_region_held3 (fun w'=>Ext wr w'/\w'.cell? ⟨b1,o1+k*2,none⟩=some (.int .i64 x0)/\w'.cell? ⟨b1,o1+k*2+1,none⟩=some (.int .i64 x1)/\w'.cell? ⟨b2,o2+k*2,none⟩=some (.int .i64 x0)/\w'.cell? ⟨b2,o2+k*2+1,none⟩=some (.int .i64 x1)) (first|exact⟨Ext.drew (Ext.refl _),d0,d1,e0,e1⟩|exact LV (S:=fun w'=>Ext wr w'/\w'.cell? ⟨b1,o1+k*2,none⟩=some (.int .i64 x0)/\w'.cell? ⟨b1,o1+k*2+1,none⟩=some (.int .i64 x1)/\w'.cell? ⟨b2,o2+k*2,none⟩=some (.int .i64 x0)/\w'.cell? ⟨b2,o2+k*2+1,none⟩=some (.int .i64 x1)) (by assumption) hx (fun a b h x=>⟨h.1.trans x,(h.1.trans x).cell d0,(h.1.trans x).cell d1,(h.1.trans x).cell e0,(h.1.trans x).cell e1⟩)) ((go_at_call 257;refine(bT2 _ _ _).mono ?_;rintro e w' ⟨rfl,hx⟩))
   go_wp2
   go_roundw
   case rel=>exact⟨k+1,by omega,by go_num,he.trans (And.left ‹_›)⟩
   case measure=>simp[intOf];omega
  go_wp2
  go_ret
  exact⟨rfl,he⟩
theorem aP3(w:World)(B:Nat)(v:Value)(xs:List Int)(L:Nat)(hL:xs.length=L*2)(q:Int)(h:Ba B 258 2 w v xs)(h0:0<=q)(h1:q+(L*2:Nat)<=4611686018427387904):Calls Tryz.prog 162 #[v,.int .i64 q] w (IX w (Ep [v]) (.int .i64 (q+(L*2:Nat))) fun w'=>Ba B 258 2 w' v (run q (L*2))):=by
 obtain⟨a,len,ca,rfl,hl,hca,hm,hop⟩:=Own.open_ h
 rw[List.length_map] at hl
 obtain rfl:L=len:=by omega
 unfold maxLen at hm
 rcases hop with h00|⟨g,cur0,rfl,hB,hb0,hs0,-⟩
 .
  subst h00
  have hfin:Ba B 258 2 w (.slice a 0 ca) (run q (0*2)):=by
   refine Own.empty h ?_ _ ?_
   .
    exact List.eq_nil_of_length_eq_zero (by simpa using hL)
   simp[run]
  have HF:=Lib.hid hfin
  clear hfin h hL hl
  have hq:q+((0*2:Nat):Int)=q:=by simp
  rw[hq]
  clear hq
  go_enter Tryz.func162,Tryz.ntmps162
  go_wp2
  go_loopw [1,5] (fun kk i wr=>kk=.int .i64 q/\i=.int .i64 0/\wr=w) (fun _ _ _=>0)
  case atStart=>exact⟨rfl,rfl,rfl⟩
  case round =>
   obtain⟨rfl,rfl,rfl⟩:=hrel
   go_wp2
   go_ret
   exact⟨rfl,Upd.refl _ _,HF.out⟩
 have HS:=Lib.hid hs0
 have HC:=Lib.hid (show L*2<=ca*2 by have:=Nat.mul_le_mul_right 2 hca;omega)
 clear hs0 hL hl h
 go_enter Tryz.func162,Tryz.ntmps162
 go_wp2
 go_loopw [1,5] (fun kk i wr=>∃k:Nat,k<=L/\i=.int .i64 k/\(∃q':Int,q'=q+(k*2:Nat)/\kk=.int .i64 q')/\Upd w wr [g]/\∃cur,Blk wr g 258 cur/\cur.size=ca*2/\Pre cur (k*2) ((run q (L*2)).map (.int .i64))) (fun _ i _=>L - (intOf i).toNat)
 case atStart=>exact⟨0,Nat.zero_le _,rfl,⟨q,by simp,rfl⟩,Upd.refl _ _,cur0,hb0,HS.out,by simpa using Pre.zero _ _⟩
 case round =>
  obtain⟨k,hk,rfl,⟨q',hq',rfl⟩,he,cur,hblk,hsz,hpre⟩:=hrel
  clear HS
  have HS:=Lib.hid hsz
  have HQ:=Lib.hid hq'
  by_cases hlt:k<L
  .
   have hq1:0<=q'/\q'+2<=4611686018427387904:=by have:=Av hlt 2;omega
   obtain⟨hq1,hq2⟩:=hq1
   clear hsz hq'
   obtain⟨z0,g0⟩:∃z,wr.cell? ⟨g,k*2,none⟩=some z:=⟨_,by rw[hblk.cell];exact Array.getElem?_eq_getElem (by have:=HS.out;have:=HC.out;have:=Av hlt 2;omega)⟩
   have f0:=hblk.frozen (k*2)
   obtain⟨z1,g1⟩:∃z,wr.cell? ⟨g,k*2+1,none⟩=some z:=⟨_,by rw[hblk.cell];exact Array.getElem?_eq_getElem (by have:=HS.out;have:=HC.out;have:=Av hlt 2;omega)⟩
   have f1:=hblk.frozen (k*2+1)
   go_wp2
   go_roundw
   case rel=>exact⟨k+1,by omega,by go_num,⟨_,by have:=HQ.out;omega,rfl⟩,((he.setCell (by simp) _).setCell (by simp) _),_,((hblk.set_ _ _).set_ _ _),by simp;exact HS.out,(((hpre.set (aP (by have:=Av hlt 2;omega) (by have:=HQ.out;omega)) (by have:=HS.out;have:=Av hlt 2;have:=HC.out;omega)).set (aP (by have:=Av hlt 2;omega) (by have:=HQ.out;omega)) (by have:=HS.out;have:=Av hlt 2;have:=HC.out;simp;omega))).cast oM⟩
   case measure=>simp[intOf];omega
  obtain rfl:k=L:=by omega
  clear hsz hq'
  go_wp2
  go_ret
  refine⟨congrArg (fun z=>Ending.returned (.int .i64 z)) HQ.out,he,Own.of_blk hblk hB HS.out (by simp[GR]) hca (by unfold maxLen;omega) hpre⟩
structure MV where
 A:EI
 B:EI
structure KO where
 Flight:List OP
 Cuts:List BP
structure iY where
 Base:Int
 Time:Int
 Entries:List Bj
structure wG where
 Num:Int
 Base:Int
 Time:Int
 Seen:List Bz
structure Bh where
 Two:MV
 Head:wG
 Next:wG
 More:Bool
 Book:iY
 Seen:List Bz
 Durable:Int
 Owe:List EN
structure AN where
 Id:Int
 Todo:List wO
 Gots:List FP
 Last:Int
structure DU where
 Log:Bh
 Store:EW
 Left:aQ
 Right:aQ
 Ann:AN
 Bob:AN
 Net:KO
 Clocks:List Int
 Up:List Bool
end Go.Proofs.YtkpmbocbbgocbaaGreat
