/- PB HelpK HelpL DatW. -/
import Derived.Test.YtkpmbocbbgocbaaGreatQGo
import Derived.Deep.MidRow
import Derived.Deep.WholeRow
import Derived.Deep.DeepCutAuto
set_option linter.unusedSimpArgs false
set_option linter.unusedVariables false
set_option maxHeartbeats 8000000
set_option maxRecDepth 100000
namespace Go.Proofs.YtkpmbocbbgocbaaGreat
open Go.RowKit Go.G8
def Bk(w:World)(g:Nat)(t:TypeId)(L:List Value):Prop:=Blk w g t L.toArray
section
variable {w w':World} {g:Nat} {t:TypeId} {L A cs C:List Value} {o:Nat} {v:Value}
theorem Al{b:Nat}(h:w.rangeAt b o cs)(x:Ext w w'):w'.rangeAt b o cs:=fun j v hv=>x.cell (h j v hv)
theorem Bk.range(h:Bk w g t (A++(cs++C)))(ho:A.length=o):w.rangeAt g o cs:=by
 subst ho
 intro j v hv
 have hj:=(List.getElem?_eq_some_iff.1 hv).1
 rw[Blk.cell h]
 simp only[List.getElem?_toArray]
 rw[List.getElem?_append_right oM,Nat.add_sub_cancel_left,List.getElem?_append_left hj,hv]
theorem Bk.cast(h:Bk w g t L)(e:L=C):Bk w g t C:=e ▸ h
theorem Bk.c(h:Bk w g t L)(e:L=C:=by simp only[List.append_assoc,List.nil_append,List.cons_append,List.append_nil]):Bk w g t C:=e ▸ h
theorem Bk.cellAt(h:Bk w g t (A++(v::C)))(ho:A.length=o):w.cell? ⟨g,o,none⟩=some v:=by
 have:=Bk.range (cs:=[v]) h ho 0 v rfl
 simpa using this
theorem Bk.ext(h:Bk w g t L)(x:Ext w w'):Bk w' g t L:=Blk.ext h x
theorem Bk.lt(h:Bk w g t L):g<w.heap.size:=Blk.lt h
theorem Bk.froz(h:Bk w g t L)(i:Nat):w.frozen? ⟨g,i,none⟩=false:=Blk.frozen h i
theorem Bk.new(w:World)(t:TypeId)(L:List Value):Bk (w.alloc (.cells L.toArray t)) w.heap.size t L:=Blk.new _ _ _
theorem Bk.alloc(h:Bk w g t L)(o:Obj):Bk (w.alloc o) g t L:=Blk.alloc h o
theorem Bk.there(h:Bk w g t L){n:Nat}(hl:o+n<=L.length):w.there g o n:=fun j hj=>by
 rw[Blk.cell h,List.getElem?_toArray,List.getElem?_eq_getElem oM]
 exact⟨rfl,Blk.frozen h _⟩
theorem Bk.rowFar{b:Nat}(h:Bk w b t L)(hn:b≠g)(cells:Array Value):Bk (w.setRow g cells) b t L:=Blk.rowFar h hn cells
theorem Wk:∀(new A old C:List Value) (w:World),Blk w g t (A++(old++C)).toArray->old.length=new.length->w.setCells g A.length new=w.setRow g (A++(new++C)).toArray
 | [],A,old,C,w,h,hl=>by
  have:old=[]:=List.eq_nil_of_length_eq_zero (by simpa using hl)
  subst this
  rw[World.setCells]
  simp only[List.nil_append] at h ⊢
  have h2:w.heap[g]?=some (.cells (A++C).toArray t (0,0)):=h
  unfold World.setRow
  have hg:g<w.heap.size:=Blk.lt h
  cases w with
  | mk heap rest1 rest2 rest3 =>
   congr 1
   apply Array.ext_getElem?
   intro i
   rw[Array.getElem?_modify]
   split
   .
    rename_i hi;subst hi
    have h3:heap[g]?=some (.cells (A++C).toArray t (0,0)):=h2
    rw[h3];rfl
   rfl
 | v::new,A,old,C,w,h,hl=>by
  cases old with
  | nil=>simp at hl
  | cons u old =>
   have hset:w.setCell ⟨g,A.length,none⟩ v=w.setRow g (A++(v::(old++C))).toArray:=by
    rw[setCell_eq_setRow w g A.length _ t (0,0) v h]
    congr 1
    simp only[List.setIfInBounds_toArray]
    congr 1
    rw[List.set_append_right _ _ (Nat.le_refl _)]
    simp
   have h1:Blk (w.setRow g (A++(v::(old++C))).toArray) g t ((A++[v])++(old++C)).toArray:=by
    have:=Blk.row h (A++(v::(old++C))).toArray
    simpa using this
   have ih:=Wk new (A++[v]) old C _ h1 (by simpa using hl)
   rw[World.setCells,hset]
   simp only[Cx,Nat.zero_add] at ih
   rw[ih,setRow_setRow]
   congr 2
   simp
end
section
variable {P:Program}
theorem Xm(w:World)(b o:Nat)(ty:TypeId)(v:Value)(cells:Array Value)(hc:v.cells=cells)(ht:w.there b o cells.size)(hi:(P.info? ty).map (·.size)=some cells.size)(h1:cells.all (·.oneCell')=true):(storeVar ty ⟨b,o,none⟩ v).run P w=.ok () (w.setCells b o cells.toList):=by
 have:=run_storeCells_cells (P:=P) b o cells.toList 0 w (fun j hj=>by simpa using(ht j (by simpa using hj)).1) (fun j hj=>by simpa using(ht j (by simpa using hj)).2)
  (fun v hv=>(Array.all_eq_true_iff_forall_mem.1 h1) v (by simpa using hv))
 cases hq:P.info? ty with
 | none=>simp[hq] at hi
 | some i =>
  have hs:cells.size=i.size:=by simp[hq] at hi;omega
  simp only[Nat.add_zero] at this
  simp[storeVar,sizeOf,typeInfo,hq,hc,hs,this]
theorem bR{op:Oper}{a:Act}{w:World}{K:Act->World->Prop}{Q:Exit->Act->World->Prop}(ty:TypeId)(x y:Operand)(ho:op.op=.store ty x y)
  (g o:Nat) (v:Value) (new:List Value) (hx:a.eval x=.pointer (some ⟨g,o,none⟩)) (hy:a.eval y=v) (hc:v.cells=new.toArray)
  (t:TypeId) (A old C:List Value) (hb:Bk w g t (A++(old++C))) (hA:A.length=o) (hl:old.length=new.length) (hi:(P.info? ty).map (·.size)=some new.length) (h1:∀v ∈ new,v.oneCell'=true)
  (h:∀wz,wz=w.setRow g (A++(new++C)).toArray->Bk wz g t (A++(new++C))->K (a.put op.dst undef) wz):op.wp P a w K Q:=by
 subst hA
 have hrow:=Wk new A old C w hb hl
 have hr:=Xm (P:=P) w g A.length ty v new.toArray hc (by have:=Bk.there hb (o:=A.length) (n:=new.length) (by simp;omega);simpa using this) (by simpa using hi) (all_oneCell_toArray h1)
 have hnew:Bk (w.setRow g (A++(new++C)).toArray) g t (A++(new++C)):=Blk.row hb _
 unfold Oper.wp execOp
 simp only[ho,hx,hy,Instr.storeAt,Instr.sureAddr,Sem.run_bind,Sem.run_pure,Result.andThen_ok,hr,List.toList_toArray,hrow]
 exact h _ rfl hnew
theorem Nf{ops:Array Oper}{rest:List Oper}{op:Oper}{a:Act}{w:World}{Q:Exit->Act->World->Prop}(hgd:op.guard=none)(ty:TypeId)(x y:Operand)(ho:op.op=.store ty x y)
  (g o:Nat) (v:Value) (new:List Value) (hx:a.eval x=.pointer (some ⟨g,o,none⟩)) (hy:a.eval y=v) (hc:v.cells=new.toArray)
  (t:TypeId) (A old C:List Value) (hb:Bk w g t (A++(old++C))) (hA:A.length=o) (hl:old.length=new.length) (hi:(P.info? ty).map (·.size)=some new.length) (h1:∀v ∈ new,v.oneCell'=true)
  (h:∀wz,wz=w.setRow g (A++(new++C)).toArray->Bk wz g t (A++(new++C))->wpList P ops Q rest (a.put op.dst undef) wz):wpList P ops Q (op::rest) a w :=
 wpList_plain hgd fun _ hK=>bR ty x y ho g o v new hx hy hc t A old C hb hA hl hi h1 fun wz h2 h3=>hK _ _ (h wz h2 h3)
end
theorem Ct{L M:List Value}(h:Value.agg L.toArray=.agg M.toArray):L=M:=by
 injection h with h
 exact congrArg Array.toList h
theorem Uj:(Tryz.prog.info? 161).map (fun i=>(i.zero,i.size,i.bytes))=some (some (.agg #[.int .i64 0,.int .i64 0,.int .i64 0,.int .i64 0,.int .i64 0,.int .i64 0,.int .i64 0]),7,56):=by kernel_rfl
theorem pT:(Tryz.prog.info? 276).map (fun i=>(i.zero,i.size,i.bytes))=some (some (.agg #[.int .i64 0,.int .i64 0,.int .i64 0,.int .i64 0]),4,32):=by kernel_rfl
structure Jg where
 A:Ez
 B:Ez
structure Lu where
 Flight:List Qs
 Cuts:List Gf
structure Df where
 Base:Int
 Time:Int
 Entries:List Aq
structure Di where
 Num:Int
 Base:Int
 Time:Int
 Seen:List Ar
structure Ap where
 Two:Jg
 Head:Di
 Next:Di
 More:Bool
 Book:Df
 Seen:List Ar
 Durable:Int
 Owe:List Is
structure El where
 Id:Int
 Todo:List Da
 Gots:List Jd
 Last:Int
structure Fb where
 Log:Ap
 Store:It
 Left:De
 Right:De
 Ann:El
 Bob:El
 Net:Lu
 Clocks:List Int
 Up:List Bool
end Go.Proofs.YtkpmbocbbgocbaaGreat
