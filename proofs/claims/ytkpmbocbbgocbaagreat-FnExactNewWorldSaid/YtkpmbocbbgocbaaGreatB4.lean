/- Cl0 En LM Sx Bk0 Eq0. -/
import Derived.Test.YtkpmbocbbgocbaaGreatB1
import Derived.Test.YtkpmbocbbgocbaaGreatGj
import Derived.Test.YtkpmbocbbgocbaaGreatGb
import Derived.Test.YtkpmbocbbgocbaaGreatB0
import Derived.Test.YtkpmbocbbgocbaaGreatGa
import Derived.Test.YtkpmbocbbgocbaaGreatGw
set_option linter.unusedSimpArgs false
set_option linter.unusedVariables false
set_option maxHeartbeats 8000000
set_option maxRecDepth 100000
namespace Go.G8
open Go.RowKit
open Go.Proofs.YtkpmbocbbgocbaaGreat
def wantOk (w:DWant):Bool:=if w.Kind=4 then opZ w.Op && inb w.Key 0 9 else (decide (w.Kind=1) || (decide (w.Kind=2) || decide (w.Kind=3))) && (opOk w.Op && (decide (w.Op.Kind=w.Kind) && decide (w.Key=0)))
def opKind (k:Int):Int:=if k=1 then 1 else if k=2 then 2 else if k=3 then 3 else 0
def foundOk (h v:Int):Bool:=if h=0 then decide (v=0) else decide (h=1) && inb v 0 999
def gotOk (w:DWant) (g:DGot) (seq last:Int):Bool:=decide (g.Seq=seq) && (inb g.Index last 2000 && (if w.Kind=4 then foundOk g.Has g.Value else decide (last<g.Index) && (decide (g.Has=0) && decide (g.Value=0))))
def gotsTo (todo:List DWant) (gots:List DGot):Nat→Option Int
 | 0=>some 0
 | k+1=>match gotsTo todo gots k with
  | none=>none
  | some last=>match todo[k]?,gots[k]? with
   | some w,some g=>if gotOk w g (k+1) last then some g.Index else none
   | _,_=>none
theorem gotsTo_none {todo:List DWant} {gots:List DGot} {k:Nat} (h:gotsTo todo gots k=none):∀ j,gotsTo todo gots (k+j)=none
 | 0=>h
 | j+1=>by rw [show k+(j+1)=(k+j)+1 by omega,gotsTo,gotsTo_none h j]
theorem gotsTo_step {todo:List DWant} {gots:List DGot} {k:Nat} {last:Int} {w:DWant} {g:DGot} (h:gotsTo todo gots k=some last) (hw:todo[k]?=some w) (hg:gots[k]?=some g):gotsTo todo gots (k+1)=if gotOk w g (k+1) last then some g.Index else none:=by
 rw [gotsTo,h,hw,hg]
def todoOk (l:List DWant):Bool:=l.all wantOk && decide (l.length≤12)
def clientOk (c:DClient):Bool:=(decide (c.Id=4) || decide (c.Id=5)) && (todoOk c.Todo && (decide (c.Gots.length≤c.Todo.length) && decide (gotsTo c.Todo c.Gots c.Gots.length=some c.Last)))
theorem clientOk_no {c:DClient} {k:Nat} {last:Int} {w:DWant} {g:DGot} (h:gotsTo c.Todo c.Gots k=some last) (hw:c.Todo[k]?=some w) (hg:c.Gots[k]?=some g) (hn:gotOk w g (k+1) last=false):clientOk c=false:=by
 have h1:gotsTo c.Todo c.Gots (k+1)=none:=by rw [gotsTo_step h hw hg,hn];rfl
 have h2:=gotsTo_none h1 (c.Gots.length - (k+1))
 rw [show k+1+(c.Gots.length - (k+1))=c.Gots.length by have:=(List.getElem?_eq_some_iff.1 hg).1;omega] at h2
 simp [clientOk,h2]
def msgOk (m:DMsg):Bool:=inb m.From 0 5 && (inb m.To 0 5 && (decide (m.From ≠ m.To) && (decide (0<m.Row.length) && rowOk m.Row)))
def linkLess (x y:DLink):Bool:=decide (x.A<y.A) || (decide (x.A=y.A) && decide (x.B<y.B))
def LinkAt (l:List DLink) (i:Nat):Prop:=∀ d,l[i]?=some d→inb d.A 0 5=true∧inb d.B 0 5=true∧d.A<d.B∧(∀ e,0<i→l[i - 1]?=some e→linkLess e d=true)
def CutsOk (l:List DLink):Prop:=∀ i,i<l.length→LinkAt l i
open Classical in
noncomputable def cutsOk (l:List DLink):Bool:=decide (CutsOk l)
theorem cutsOk_true {l:List DLink} (h:CutsOk l):cutsOk l=true:=by simp [cutsOk,h]
theorem cutsOk_false {l:List DLink} (h:¬ CutsOk l):cutsOk l=false:=by simp [cutsOk,h]
theorem LinkAt.next {l:List DLink} {k:Nat} {d:DLink} (hd:l[k]?=some d) (h:∀ i,i<k→LinkAt l i) (h1:inb d.A 0 5=true) (h2:inb d.B 0 5=true) (h3:d.A<d.B) (h4:∀ e,0<k→l[k - 1]?=some e→linkLess e d=true):∀ i,i<k+1→LinkAt l i:=by
 intro i hi
 by_cases hik:i=k
 ·
  subst hik
  intro d' hd'
  rw [hd] at hd'
  obtain rfl:=Option.some.inj hd'
  exact⟨h1,h2,h3,h4⟩
 exact h i oM
noncomputable def netOk (n:DNet):Bool:=decide (n.Flight.length≤60) && (decide (n.Cuts.length≤15) && (n.Flight.all msgOk && cutsOk n.Cuts))
def clocksOk (l:List Int):Bool:=decide (l.length=6) && l.all timeOk
theorem nestM_at {l:List DMsg} {k:Nat} {r:NRow} (h:(nestMsg l)[k]?=some r):∃ d,l[k]?=some d∧r=([d.From,d.To],d.Row):=by
 simp only [nestMsg,List.getElem?_map,Option.map_eq_some_iff] at h
 obtain⟨x,hx,rfl⟩:=h
 exact⟨x,hx,rfl⟩
theorem Nest.letters {w:World} {v:Value} {l:List DMsg} (h:Nest 2 w v (nestMsg l)):∃ a cap,v=.slice a l.length cap∧l.length≤cap∧cap≤maxLen ∧
  ∀ i,i<l.length→∃ d b off sa sn sc,l[i]?=some d∧a=some ⟨b,off,none⟩∧b<w.heap.size∧w.cell? ⟨b,off+i * 3,none⟩=some (.int .i64 d.From)∧w.cell? ⟨b,off+i * 3+1,none⟩=some (.int .i64 d.To)∧w.cell? ⟨b,off+i * 3+2,none⟩=some (.slice sa sn sc)∧Ints 1 w (.slice sa sn sc) d.Row:=by
 obtain⟨a,cap,rfl,h1,h2,h3⟩:=h.open_
 have hl:(nestMsg l).length=l.length:=by simp [nestMsg]
 rw [hl] at h1 h3 ⊢
 refine⟨a,cap,rfl,h1,h2,fun i hi=>?_⟩
 obtain⟨r,b,off,s,hr,ha,hb,hci,hc,hin⟩:=h3 i hi
 obtain⟨d,hd,rfl⟩:=nestM_at hr
 obtain⟨sa,sn,sc,rfl⟩:=hin.shape
 have h0:=hci 0 d.From rfl
 have h1:=hci 1 d.To rfl
 simp only [Nat.add_zero,Nat.reduceAdd] at h0 h1 hc
 exact⟨d,b,off,sa,sn,sc,hd,ha,hb,h0,h1,hc,hin⟩
end Go.G8
namespace Go.Proofs.YtkpmbocbbgocbaaGreat
open Go.RowKit Go.G8
theorem foundOk_e (w:World) (c0_0:Int) (c1_0:Int) :
  Calls Tryz.prog 351 #[.int .i64 c0_0,.int .i64 c1_0] w (fun e w'=>e=.returned (.bool (foundOk c0_0 c1_0))∧w=w'):=by
 have rsize_setRow:=@size_setRow
 have rcell_setRow_lt:=@cell_setRow_lt
 have rcell_setRow_gt:=@cell_setRow_gt
 have rfrozen_setRow_lt:=@frozen_setRow_lt
 have rfrozen_setRow_gt:=@frozen_setRow_gt
 go_enter Tryz.func351,Tryz.ntmps351
 go_wp2_with (first|(go_at_call 346;refine (valueOk_cP _ _  ).mono ?_;rintro e wa ⟨rfl,rfl⟩))
 all_goals
  go_ret
  refine⟨by first|rfl|(simp [foundOk, *];done)|(simp [foundOk, *];omega)|(simp_all [foundOk,bq,bn];done)|(simp_all [foundOk,bq,bn];omega),by rfl⟩
theorem l13Op_e (w:World) (c0_0:Int) :
  Calls Tryz.prog 323 #[.int .i64 c0_0] w (fun e w'=>e=.returned (.int .i64 (opKind c0_0))∧w=w'):=by
 have rsize_setRow:=@size_setRow
 have rcell_setRow_lt:=@cell_setRow_lt
 have rcell_setRow_gt:=@cell_setRow_gt
 have rfrozen_setRow_lt:=@frozen_setRow_lt
 have rfrozen_setRow_gt:=@frozen_setRow_gt
 go_enter Tryz.func323,Tryz.ntmps323
 go_wp2
 all_goals
  go_ret
  refine⟨by first|rfl|(simp [opKind, *];done)|(simp [opKind, *];omega)|(simp_all [opKind,bq,bn];done)|(simp_all [opKind,bq,bn];omega),by rfl⟩
theorem gotOk_e (w:World) (c0_0:Int) (c0_1:Int) (c0_2:Int) (c0_3:Int) (c0_4:Int) (c0_5:Int) (c0_6:Int) (c1_0:Int) (c1_1:Int) (c1_2:Int) (c1_3:Int) (c2_0:Int) (c3_0:Int) :
  Calls Tryz.prog 271 #[.agg #[.int .i64 c0_0,.int .i64 c0_1,.int .i64 c0_2,.int .i64 c0_3,.int .i64 c0_4,.int .i64 c0_5,.int .i64 c0_6],.agg #[.int .i64 c1_0,.int .i64 c1_1,.int .i64 c1_2,.int .i64 c1_3],.int .i64 c2_0,.int .i64 c3_0] w (RetV w (.bool (gotOk (⟨c0_0,⟨c0_1,c0_2,c0_3,c0_4,c0_5⟩,c0_6⟩:DWant) (⟨c1_0,c1_1,c1_2,c1_3⟩:DGot) c2_0 c3_0))):=by
 have rsize_setRow:=@size_setRow
 have rcell_setRow_lt:=@cell_setRow_lt
 have rcell_setRow_gt:=@cell_setRow_gt
 have rfrozen_setRow_lt:=@frozen_setRow_lt
 have rfrozen_setRow_gt:=@frozen_setRow_gt
 go_enter Tryz.func271,Tryz.ntmps271
 go_wp2_with (first|(go_at_call 176;refine (between_c _ _ _ _  ).mono ?_;rintro e wa ⟨rfl,rfl⟩)|(go_at_call 351;refine (foundOk_e _ _ _  ).mono ?_;rintro e wb ⟨rfl,rfl⟩))
 all_goals
  go_ret
  refine⟨by first|rfl|(simp [gotOk,inb, *];done)|(simp [gotOk,inb, *];omega)|(simp_all [gotOk,inb,bq,bn];done)|(simp_all [gotOk,inb,bq,bn];omega),?_⟩
  exact xT
theorem l13Got_e (w:World) (c0_0:Int) (c0_1:Int) (c0_2:Int) (c0_3:Int) (c0_4:Int) (c0_5:Int) (c0_6:Int) (c1_0:Int) (c1_1:Int) (c1_2:Int) (c1_3:Int) (c2_0:Int) (c3_0:Int) :
  Calls Tryz.prog 215 #[.agg #[.int .i64 c0_0,.int .i64 c0_1,.int .i64 c0_2,.int .i64 c0_3,.int .i64 c0_4,.int .i64 c0_5,.int .i64 c0_6],.agg #[.int .i64 c1_0,.int .i64 c1_1,.int .i64 c1_2,.int .i64 c1_3],.int .i64 c2_0,.int .i64 c3_0] w (RetV w (.bool (gotOk (⟨c0_0,⟨c0_1,c0_2,c0_3,c0_4,c0_5⟩,c0_6⟩:DWant) (⟨c1_0,c1_1,c1_2,c1_3⟩:DGot) c2_0 c3_0))):=by
 have rsize_setRow:=@size_setRow
 have rcell_setRow_lt:=@cell_setRow_lt
 have rcell_setRow_gt:=@cell_setRow_gt
 have rfrozen_setRow_lt:=@frozen_setRow_lt
 have rfrozen_setRow_gt:=@frozen_setRow_gt
 go_enter Tryz.func215,Tryz.ntmps215
 go_wp2_with (first|(go_at_call 303;refine (l1In_c _ _ _ _  ).mono ?_;rintro e wa ⟨rfl,rfl⟩)|(go_at_call 324;refine (l7Value_e _ _  ).mono ?_;rintro e wb ⟨rfl,rfl⟩))
 all_goals
  go_ret
  refine⟨by first|rfl|(simp [gotOk,foundOk,inb, *];done)|(simp_all [gotOk,foundOk,inb,bq,bn];split <;> omega)|(simp [gotOk,foundOk,inb, *];done)|(simp [gotOk,foundOk,inb, *];omega)|(simp_all [gotOk,foundOk,inb,bq,bn];done)|(simp_all [gotOk,foundOk,inb,bq,bn];omega),?_⟩
  exact xT
theorem wantOk_e (w:World) (c0_0:Int) (c0_1:Int) (c0_2:Int) (c0_3:Int) (c0_4:Int) (c0_5:Int) (c0_6:Int) :
  Calls Tryz.prog 167 #[.agg #[.int .i64 c0_0,.int .i64 c0_1,.int .i64 c0_2,.int .i64 c0_3,.int .i64 c0_4,.int .i64 c0_5,.int .i64 c0_6]] w (RetV w (.bool (wantOk (⟨c0_0,⟨c0_1,c0_2,c0_3,c0_4,c0_5⟩,c0_6⟩:DWant)))):=by
 have rsize_setRow:=@size_setRow
 have rcell_setRow_lt:=@cell_setRow_lt
 have rcell_setRow_gt:=@cell_setRow_gt
 have rfrozen_setRow_lt:=@frozen_setRow_lt
 have rfrozen_setRow_gt:=@frozen_setRow_gt
 go_enter Tryz.func167,Tryz.ntmps167
 go_wp2_with (first|(go_at_call 265;refine (opOk_e _ _ _ _ _ _  ).mono ?_;rintro e wa ⟨rfl,hxa⟩;have hza:=hxa.size;(repeat (first|simp only [World.size_alloc] at hza|simp only [World.size_setCell] at hza|simp only [size_setRow] at hza));(try have hya_b_0:wb.heap.size<wa.heap.size:=oM);(try have hya_b_1:wb.heap.size+1<wa.heap.size:=oM);(try have hya_b_2:wb.heap.size+1+1<wa.heap.size:=oM);have Ka0:Blk wa (w.heap.size) 161 _:=Blk.ext (by exact blkT) hxa;(try simp only [List.setIfInBounds_toArray,List.set_cons_zero,List.set_cons_succ] at Ka0);have CKa0:=Ka0.cell;have FKa0:=Ka0.frozen;have hya__0:w.heap.size<wa.heap.size:=oM;(try (have Ka_b0:Blk wa (wb.heap.size) _ _:=Blk.ext (by exact blkT) hxa;(try simp only [List.setIfInBounds_toArray,List.set_cons_zero,List.set_cons_succ] at Ka_b0);have CKa_b0:=Ka_b0.cell;have FKa_b0:=Ka_b0.frozen));(try (have Ka_b1:Blk wa (wb.heap.size+1) _ _:=Blk.ext (by exact blkT) hxa;(try simp only [List.setIfInBounds_toArray,List.set_cons_zero,List.set_cons_succ] at Ka_b1);have CKa_b1:=Ka_b1.cell;have FKa_b1:=Ka_b1.frozen));(try (have Ka_b2:Blk wa (wb.heap.size+1+1) _ _:=Blk.ext (by exact blkT) hxa;(try simp only [List.setIfInBounds_toArray,List.set_cons_zero,List.set_cons_succ] at Ka_b2);have CKa_b2:=Ka_b2.cell;have FKa_b2:=Ka_b2.frozen)))|(go_at_call 266;refine (keyOk_cP _ _  ).mono ?_;rintro e wb ⟨rfl,rfl⟩))
 all_goals
  go_ret
  refine⟨by first|rfl|(simp [wantOk,opZ, *];done)|(simp [wantOk,opZ, *];omega)|(simp_all [wantOk,opZ,bq,bn];done)|(simp_all [wantOk,opZ,bq,bn];omega),?_⟩
  exact xT
end Go.Proofs.YtkpmbocbbgocbaaGreat
namespace Go.G8
open Go.RowKit
open Go.Proofs.YtkpmbocbbgocbaaGreat
def EntAt (l:List DEntry) (i:Nat):Prop:=∀ d,l[i]?=some d→entryOk d=true∧(∀ e,0<i→l[i - 1]?=some e→d.Index=e.Index+1∧e.Time≤d.Time)
def EntriesOk (l:List DEntry):Prop:=l.length≤2000∧∀ i,i<l.length→EntAt l i
open Classical in
noncomputable def entriesOk (l:List DEntry):Bool:=decide (EntriesOk l)
theorem entriesOk_true {l:List DEntry} (h:EntriesOk l):entriesOk l=true:=by simp [entriesOk,h]
theorem entriesOk_false {l:List DEntry} (h:¬ EntriesOk l):entriesOk l=false:=by simp [entriesOk,h]
theorem entriesOk_iff {l:List DEntry}:entriesOk l=true ↔ EntriesOk l:=by simp [entriesOk]
theorem EntAt.next {l:List DEntry} {k:Nat} {d:DEntry} (hd:l[k]?=some d) (h:∀ i,i<k→EntAt l i) (h1:entryOk d=true) (h2:∀ e,0<k→l[k - 1]?=some e→d.Index=e.Index+1∧e.Time≤d.Time):∀ i,i<k+1→EntAt l i:=by
 intro i hi
 by_cases hik:i=k
 ·
  subst hik
  intro d' hd'
  rw [hd] at hd'
  obtain rfl:=Option.some.inj hd'
  exact⟨h1,h2⟩
 exact h i oM
end Go.G8
namespace Go.Proofs.YtkpmbocbbgocbaaGreat
open Go.RowKit Go.G8
theorem rqB40 {p:Prop} (h:p:=by intro KQ hKQ;(repeat (first|go_big_quiet_skip|(go_big_quiet_want;first|(refine quiet_load _ _ _ ?_ rfl rfl (fun wq hq=>?_) ?_;rotate_left;(focus ((try have y0:=hq.cell x0);(try have y1:=hq.cell x1);(try have y2:=hq.cell x2);(try have y3:=hq.cell x3);(try have y4:=hq.cell x4);(try have y5:=hq.cell x5);(try have y6:=hq.cell x6);(try have y7:=hq.cell x7);(try have y8:=hq.cell x8);(try have z0:=hq.cell e0);(try have z1:=hq.cell e1);go_simp;first|done|rfl));(try simp only [redA,Act.put]);go_big_quiet_on)|(go_big_quiet_op;first|go_big_quiet_on|(refine⟨_,fun _ _=>rfl,?_⟩;go_big_quiet_on)|(apply Exists.intro;refine⟨fun wq hq=>?_,?_⟩;(focus (exact call_ext hq (by have c:=sEntryOk_e wq d.Index d.Time d.Client d.Seq d.Op.Kind d.Op.A d.Op.B d.Op.C d.Op.D;rw [show entryOk (⟨d.Index,d.Time,d.Client,d.Seq,⟨d.Op.Kind,d.Op.A,d.Op.B,d.Op.C,d.Op.D⟩⟩:DEntry)=false from hp] at c;exact c)));go_big_quiet_on)))));exact wpQuiet_nil hKQ):p:=h
theorem rqB41 {p:Prop} (h:p:=by intro KQ hKQ;(repeat (first|go_big_quiet_skip|(go_big_quiet_want;first|(refine quiet_load _ _ _ ?_ rfl rfl (fun wq hq=>?_) ?_;rotate_left;(focus ((try have y0:=hq.cell x0);(try have y1:=hq.cell x1);(try have y2:=hq.cell x2);(try have y3:=hq.cell x3);(try have y4:=hq.cell x4);(try have y5:=hq.cell x5);(try have y6:=hq.cell x6);(try have y7:=hq.cell x7);(try have y8:=hq.cell x8);(try have z0:=hq.cell e0);(try have z1:=hq.cell e1);go_simp;first|done|rfl));(try simp only [redA,Act.put]);go_big_quiet_on)|(go_big_quiet_op;first|go_big_quiet_on|(refine⟨_,fun _ _=>rfl,?_⟩;go_big_quiet_on)|(apply Exists.intro;refine⟨fun wq hq=>?_,?_⟩;(focus (exact call_ext hq (by have c:=sEntryOk_e wq d.Index d.Time d.Client d.Seq d.Op.Kind d.Op.A d.Op.B d.Op.C d.Op.D;rw [show entryOk (⟨d.Index,d.Time,d.Client,d.Seq,⟨d.Op.Kind,d.Op.A,d.Op.B,d.Op.C,d.Op.D⟩⟩:DEntry)=true from hp] at c;exact c)));go_big_quiet_on)))));exact wpQuiet_nil hKQ):p:=h
theorem sEntriesOk_c (w:World) (s0_0:Value) (l0_0:List DEntry) (h0_0:Ints 9 w s0_0 (flEntry l0_0)):Calls Tryz.prog 377 #[s0_0] w (RetV w (.bool (entriesOk l0_0))):=by
 obtain⟨a,cap,rfl,hcap,hm,ha⟩:=h0_0.recs (f:=DEntry.ints) (fun _=>rfl) dC
 have HA:=Lib.hid ha
 clear ha
 unfold maxLen at hm
 by_cases h10:l0_0.length≤2000
 rotate_left
 ·
  go_enter Tryz.func377,Tryz.ntmps377
  go_wp2
  go_ret
  exact⟨congrArg (fun z=>Ending.returned (.bool z)) (entriesOk_false (fun hh=>h10 hh.1)).symm,Ext.refl _⟩
 go_enter Tryz.func377,Tryz.ntmps377
 go_wp2
 go_loopw [3] (fun i wr=>∃ k:Nat,k≤l0_0.length∧i=.int .i64 k∧Ext w wr∧Hid (∀ i,i<k→EntAt l0_0 i)) (fun i _=>l0_0.length - (intOf i).toNat)
 case atStart=>exact⟨0,Nat.zero_le _,rfl,Ext.refl _,Lib.hid (fun i hi=>by omega)⟩
 case round =>
  obtain⟨k,hk,rfl,he,HO⟩:=hrel
  by_cases hlt:k<l0_0.length
  ·
   obtain⟨d,b1,o1,hd,rfl,hb1,c⟩:=HA.out k hlt
   have d0:=he.cell (c 0 _ dC rfl)
   have d1:=he.cell (c 1 _ dC rfl)
   have d2:=he.cell (c 2 _ dC rfl)
   have d3:=he.cell (c 3 _ dC rfl)
   have d4:=he.cell (c 4 _ dC rfl)
   have d5:=he.cell (c 5 _ dC rfl)
   have d6:=he.cell (c 6 _ dC rfl)
   have d7:=he.cell (c 7 _ dC rfl)
   have d8:=he.cell (c 8 _ dC rfl)
   simp only [Nat.add_zero] at d0
   have HD:=Lib.hid hd
   clear c hd
   cases hp:entryOk d
   ·
    have x0:=d0;have x1:=d1;have x2:=d2;have x3:=d3;have x4:=d4;have x5:=d5;have x6:=d6;have x7:=d7;have x8:=d8
    have hEW:Ext w wr:=he
    obtain⟨W,hW⟩:∃ W,W=wr:=⟨_,rfl⟩
    (try rw [← hW] at e0);(try rw [← hW] at e1)
    rw [← hW] at x0 x1 x2 x3 x4 x5 x6 x7 x8 hEW
    go_wp2
    rw [← hW]
    clear hW
    refine rx0 rqB40 fun w1 hx1=>?_
    go_wp2
    go_ret
    exact⟨congrArg (fun z=>Ending.returned (.bool z)) (entriesOk_false (fun hh=>by have:=(hh.2 k hlt d HD.out).1;rw [hp] at this;cases this)).symm,hEW.trans hx1⟩
   by_cases hk0:k=0
   ·
    subst hk0
    (try simp only [Nat.zero_mul,Nat.add_zero] at d0 d1 d2 d3 d4 d5 d6 d7 d8)
    have x0:=d0;have x1:=d1;have x2:=d2;have x3:=d3;have x4:=d4;have x5:=d5;have x6:=d6;have x7:=d7;have x8:=d8
    have hEW:Ext w wr:=he
    obtain⟨W,hW⟩:∃ W,W=wr:=⟨_,rfl⟩
    (try rw [← hW] at e0);(try rw [← hW] at e1)
    rw [← hW] at x0 x1 x2 x3 x4 x5 x6 x7 x8 hEW
    go_wp2
    rw [← hW]
    clear hW
    refine rx0 rqB41 fun w1 hx1=>?_
    go_wp2
    go_roundw
    case rel=>exact⟨0+1,by omega,by go_num,hEW.trans hx1,Lib.hid (EntAt.next HD.out HO.out hp (fun e' hh hl=>by omega))⟩
    case measure=>simp [intOf];omega
   obtain⟨e,b2,o2,hde,hbo,_,c⟩:=HA.out (k - 1) oM
   obtain⟨rfl,rfl⟩:b1=b2∧o1=o2:=by simpa using hbo
   have e0:=he.cell (c 0 _ dC rfl)
   have e1:=he.cell (c 1 _ dC rfl)
   simp only [Nat.add_zero] at e0
   have HE:=Lib.hid hde
   obtain⟨b01,b02,_,_⟩:=entryOk_parts (HO.out (k - 1) oM e hde).1
   clear c hde hbo
   have hk1:decide (0<k)=true:=by simp;omega
   by_cases hi:d.Index=e.Index+1
   rotate_left
   ·
    have hi':(d.Index != e.Index+1)=true:=by simp [hi]
    clear hi
    have x0:=d0;have x1:=d1;have x2:=d2;have x3:=d3;have x4:=d4;have x5:=d5;have x6:=d6;have x7:=d7;have x8:=d8
    have hEW:Ext w wr:=he
    obtain⟨W,hW⟩:∃ W,W=wr:=⟨_,rfl⟩
    (try rw [← hW] at e0);(try rw [← hW] at e1)
    rw [← hW] at x0 x1 x2 x3 x4 x5 x6 x7 x8 hEW
    go_wp2
    rw [← hW]
    clear hW
    refine rx0 rqB41 fun w1 hx1=>?_
    go_wp2
    go_ret
    exact⟨congrArg (fun z=>Ending.returned (.bool z)) (entriesOk_false (fun hh=>by have:=((hh.2 k hlt d HD.out).2 e oM HE.out).1;simp [this] at hi')).symm,hEW.trans hx1⟩
   have hi':(d.Index != e.Index+1)=false:=by simp [hi]
   have HI:=Lib.hid hi
   clear hi
   by_cases ht:d.Time<e.Time
   ·
    have ht':decide (d.Time<e.Time)=true:=by simpa using ht
    have x0:=d0;have x1:=d1;have x2:=d2;have x3:=d3;have x4:=d4;have x5:=d5;have x6:=d6;have x7:=d7;have x8:=d8
    have hEW:Ext w wr:=he
    obtain⟨W,hW⟩:∃ W,W=wr:=⟨_,rfl⟩
    (try rw [← hW] at e0);(try rw [← hW] at e1)
    rw [← hW] at x0 x1 x2 x3 x4 x5 x6 x7 x8 hEW
    go_wp2
    rw [← hW]
    clear hW
    refine rx0 rqB41 fun w1 hx1=>?_
    go_wp2
    go_ret
    exact⟨congrArg (fun z=>Ending.returned (.bool z)) (entriesOk_false (fun hh=>by have:=((hh.2 k hlt d HD.out).2 e oM HE.out).2;omega)).symm,hEW.trans hx1⟩
   have ht':decide (d.Time<e.Time)=false:=by simpa using ht
   have x0:=d0;have x1:=d1;have x2:=d2;have x3:=d3;have x4:=d4;have x5:=d5;have x6:=d6;have x7:=d7;have x8:=d8
   have hEW:Ext w wr:=he
   obtain⟨W,hW⟩:∃ W,W=wr:=⟨_,rfl⟩
   (try rw [← hW] at e0);(try rw [← hW] at e1)
   rw [← hW] at x0 x1 x2 x3 x4 x5 x6 x7 x8 hEW
   go_wp2
   rw [← hW]
   clear hW
   refine rx0 rqB41 fun w1 hx1=>?_
   go_wp2
   go_roundw
   case rel=>exact⟨k+1,by omega,by go_num,hEW.trans hx1,Lib.hid (EntAt.next HD.out HO.out hp (fun e' hh hl=>by rw [HE.out] at hl;obtain rfl:=Option.some.inj hl;exact⟨HI.out,by omega⟩))⟩
   case measure=>simp [intOf];omega
  obtain rfl:k=l0_0.length:=by omega
  go_wp2
  go_ret
  exact⟨congrArg (fun z=>Ending.returned (.bool z)) (entriesOk_true ⟨h10,HO.out⟩).symm,he⟩
end Go.Proofs.YtkpmbocbbgocbaaGreat
namespace Go.G8
open Go.RowKit
open Go.Proofs.YtkpmbocbbgocbaaGreat
def markOk (m:DMark):Bool:=inb m.Client 2 5 && (inb m.Seq 1 2000 && inb m.Index 1 2000)
def SeenAt (l:List DMark) (i:Nat):Prop:=∀ d,l[i]?=some d→markOk d=true∧(∀ e,0<i→l[i - 1]?=some e→e.Client<d.Client)∧(∀ j e,j<i→l[j]?=some e→e.Index ≠ d.Index)
def SeenOk (l:List DMark):Prop:=(∀ m,m ∈ l→markOk m=true)∧l.Pairwise (fun a b=>a.Client<b.Client∧a.Index ≠ b.Index)
open Classical in
noncomputable def seenOk (l:List DMark):Bool:=decide (SeenOk l)
theorem seenOk_true {l:List DMark} (h:SeenOk l):seenOk l=true:=by simp [seenOk,h]
theorem seenOk_false {l:List DMark} (h:¬ SeenOk l):seenOk l=false:=by simp [seenOk,h]
theorem seenOk_iff {l:List DMark}:seenOk l=true ↔ SeenOk l:=by simp [seenOk]
theorem SeenOk.nil:SeenOk []:=⟨fun m h=>(by cases h),List.Pairwise.nil⟩
theorem SeenOk.at {l:List DMark} (h:SeenOk l) (i:Nat) (hi:i<l.length):SeenAt l i:=by
 intro d hd
 obtain⟨_,rfl⟩:=List.getElem?_eq_some_iff.1 hd
 have hp:=List.pairwise_iff_getElem.1 h.2
 refine⟨h.1 _ (List.getElem_mem hi),fun e h0 he=>?_,fun j e hj he=>?_⟩
 ·
  obtain⟨h1,rfl⟩:=List.getElem?_eq_some_iff.1 he
  exact (hp (i - 1) i h1 hi oM).1
 obtain⟨h1,rfl⟩:=List.getElem?_eq_some_iff.1 he
 exact (hp j i h1 hi hj).2
theorem SeenOk.of_at {l:List DMark} (h:∀ i,i<l.length→SeenAt l i):SeenOk l:=by
 refine⟨fun m hm=>?_,List.pairwise_iff_getElem.2 ?_⟩
 ·
  obtain⟨i,hi,rfl⟩:=List.getElem_of_mem hm
  exact (h i hi _ (List.getElem?_eq_getElem hi)).1
 have hlt:∀ (n i j:Nat) (hi:i<l.length) (hj:j<l.length),j=i+1+n→l[i].Client<l[j].Client:=by
  intro n
  induction n with
  | zero =>
   intro i j hi hj hij
   exact (h j hj _ (List.getElem?_eq_getElem hj)).2.1 l[i] oM (by rw [show j - 1=i by omega];exact List.getElem?_eq_getElem hi)
  | succ n ih =>
   intro i j hi hj hij
   have h1:=ih i (j - 1) hi oM oM
   have h2:=(h j hj _ (List.getElem?_eq_getElem hj)).2.1 l[j - 1] oM (List.getElem?_eq_getElem oM)
   omega
 intro i j hi hj hij
 exact⟨hlt (j - i - 1) i j hi hj oM,(h j hj _ (List.getElem?_eq_getElem hj)).2.2 i _ hij (List.getElem?_eq_getElem hi)⟩
theorem SeenAt.next {l:List DMark} {k:Nat} {d:DMark} (hd:l[k]?=some d) (h:∀ i,i<k→SeenAt l i) (h1:markOk d=true) (h2:∀ e,0<k→l[k - 1]?=some e→e.Client<d.Client) (h3:∀ j e,j<k→l[j]?=some e→e.Index ≠ d.Index):∀ i,i<k+1→SeenAt l i:=by
 intro i hi
 by_cases hik:i=k
 ·
  subst hik
  intro d' hd'
  rw [hd] at hd'
  obtain rfl:=Option.some.inj hd'
  exact⟨h1,h2,h3⟩
 exact h i oM
theorem markOk_cl {m:DMark} (h:markOk m=true):2≤m.Client∧m.Client≤5∧1≤m.Seq∧m.Seq≤2000∧1≤m.Index∧m.Index≤2000:=by
 simp only [markOk,Bool.and_eq_true,inb_true] at h;omega
theorem SeenOk.key {l:List DMark} (h:SeenOk l):∀ (i:Nat) (hi:i<l.length),(i:Int)+2≤l[i].Client
 | 0,hi=>by have:=markOk_cl (h.1 _ (List.getElem_mem hi));omega
 | i+1,hi=>by
  have h1:=SeenOk.key h i oM
  have h2:=(List.pairwise_iff_getElem.1 h.2 i (i+1) oM hi oM).1
  omega
theorem SeenOk.len {l:List DMark} (h:SeenOk l):l.length≤4:=by
 rcases Nat.lt_or_ge 4 l.length with h4|h4
 ·
  have h1:=h.key 4 h4
  have h2:=markOk_cl (h.1 _ (List.getElem_mem h4))
  omega
 exact h4
theorem SeenOk.tail {m:DMark} {l:List DMark} (h:SeenOk (m :: l)):SeenOk l:=⟨fun x hx=>h.1 x (List.mem_cons_of_mem _ hx),(List.pairwise_cons.1 h.2).2⟩
theorem SeenOk.head {m:DMark} {l:List DMark} (h:SeenOk (m :: l)):∀ x,x ∈ l→m.Client<x.Client:=fun x hx=>((List.pairwise_cons.1 h.2).1 x hx).1
/-! The greatest index. -/
def lastFrom (a:Int) (l:List DMark):Int:=l.foldl (fun a m=>max a m.Index) a
def lastSeen (l:List DMark):Int:=lastFrom 0 l
theorem lastFrom_ge (l:List DMark):∀ a,a≤lastFrom a l:=by
 induction l with
 | nil=>intro a;exact Int.le_refl _
 | cons m l ih=>intro a;have:=ih (max a m.Index);simp only [lastFrom,List.foldl_cons] at this ⊢;omega
theorem lastFrom_mem {l:List DMark}:∀ {a:Int} {m:DMark},m ∈ l→m.Index≤lastFrom a l:=by
 induction l with
 | nil=>intro a m h;cases h
 | cons x l ih =>
  intro a m h
  rcases List.mem_cons.1 h with rfl|h
  ·
   have:=lastFrom_ge l (max a m.Index)
   simp only [lastFrom,List.foldl_cons] at this ⊢;omega
  exact ih h
theorem lastFrom_le {l:List DMark} {b:Int}:∀ {a:Int},a≤b→(∀ m,m ∈ l→m.Index≤b)→lastFrom a l≤b:=by
 induction l with
 | nil=>intro a h _;exact h
 | cons x l ih =>
  intro a h hm
  have:=hm x (List.mem_cons_self ..)
  exact ih (show max a x.Index≤b by omega) (fun m h=>hm m (List.mem_cons_of_mem _ h))
theorem lastSeen_nn (l:List DMark):0≤lastSeen l:=lastFrom_ge l 0
theorem lastSeen_mem {l:List DMark} {m:DMark} (h:m ∈ l):m.Index≤lastSeen l:=lastFrom_mem h
theorem lastSeen_snoc (l:List DMark) (m:DMark):lastSeen (l ++ [m])=max (lastSeen l) m.Index:=by simp [lastSeen,lastFrom,List.foldl_append]
/-! The mark of a client. -/
def markFind (l:List DMark) (c:Int):Option DMark:=l.find? (fun m=>decide (m.Client=c))
def zMark:DMark:=⟨0,0,0⟩
def markOf (l:List DMark) (c:Int):DMark:=(markFind l c).getD zMark
/-! A mark put in its place. -/
def markPut:List DMark→DMark→List DMark
 | [],x=>[x]
 | m :: l,x=>if x.Client<m.Client then x :: m :: l else if x.Client=m.Client then x :: l else m :: markPut l x
theorem markPut_mem {l:List DMark} {x m:DMark}:m ∈ markPut l x→m=x ∨ m ∈ l:=by
 induction l with
 | nil=>intro h;simp [markPut] at h;exact .inl h
 | cons y l ih =>
  intro h
  rw [markPut] at h
  split at h
  ·
   rcases List.mem_cons.1 h with h|h
   ·
    exact .inl h
   exact .inr h
  split at h
  ·
   rcases List.mem_cons.1 h with h|h
   ·
    exact .inl h
   exact .inr (List.mem_cons_of_mem _ h)
  rcases List.mem_cons.1 h with h|h
  ·
   exact .inr (h ▸ List.mem_cons_self ..)
  rcases ih h with h|h
  ·
   exact .inl h
  exact .inr (List.mem_cons_of_mem _ h)
theorem markPut_self (l:List DMark) (x:DMark):x ∈ markPut l x:=by
 induction l with
 | nil=>simp [markPut]
 | cons y l ih=>rw [markPut];split <;> (try split) <;> simp [ih]
theorem markPut_ok {l:List DMark} {x:DMark} (h:SeenOk l) (hx:markOk x=true) (hl:lastSeen l<x.Index):SeenOk (markPut l x):=by
 have hlt:∀ m,m ∈ l→m.Index<x.Index:=fun m hm=>by have:=lastSeen_mem hm;omega
 clear hl
 refine⟨fun m hm=>?_,?_⟩
 ·
  rcases markPut_mem hm with rfl|hm
  ·
   exact hx
  exact h.1 m hm
 induction l with
 | nil=>simp [markPut]
 | cons y l ih =>
  have ht:=h.tail
  have hh:=h.head
  have hy:=hlt y (List.mem_cons_self ..)
  have hlt':∀ m,m ∈ l→m.Index<x.Index:=fun m hm=>hlt m (List.mem_cons_of_mem _ hm)
  rw [markPut]
  split
  ·
   rename_i h1
   refine List.pairwise_cons.2 ⟨fun m hm=>?_,h.2⟩
   rcases List.mem_cons.1 hm with rfl|hm
   ·
    exact⟨h1,by omega⟩
   have:=hh m hm;have:=hlt' m hm;exact⟨by omega,by omega⟩
  split
  ·
   rename_i h1 h2
   refine List.pairwise_cons.2 ⟨fun m hm=>?_,ht.2⟩
   have:=hh m hm;have:=hlt' m hm;exact⟨by omega,by omega⟩
  rename_i h1 h2
  refine List.pairwise_cons.2 ⟨fun m hm=>?_,ih ht hlt'⟩
  rcases markPut_mem hm with rfl|hm
  ·
   exact⟨by omega,by omega⟩
  exact (List.pairwise_cons.1 h.2).1 m hm
theorem lastSeen_put {l:List DMark} {x:DMark} (hl:lastSeen l<x.Index):lastSeen (markPut l x)=x.Index:=by
 have h1:=lastSeen_mem (markPut_self l x)
 have h2:lastSeen (markPut l x)≤x.Index:=lastFrom_le (by have:=lastSeen_nn l;omega) (fun m hm=>by
  rcases markPut_mem hm with rfl|hm
  ·
   exact Int.le_refl _
  have:=lastSeen_mem hm;omega)
 omega
theorem put_skip {A B:List DMark} {x:DMark} (h:∀ m,m ∈ A→m.Client<x.Client):markPut (A ++ B) x=A ++ markPut B x:=by
 induction A with
 | nil=>rfl
 | cons m A ih =>
  have:=h m (List.mem_cons_self ..)
  rw [List.cons_append,markPut,if_neg oM,if_neg oM,ih (fun y hy=>h y (List.mem_cons_of_mem _ hy)),List.cons_append]
theorem put_done {A B:List DMark} {x:DMark} (h:∃ m,m ∈ A∧x.Client≤m.Client):markPut (A ++ B) x=markPut A x ++ B:=by
 induction A with
 | nil=>obtain⟨m,hm,_⟩:=h;cases hm
 | cons y A ih =>
  rw [List.cons_append,markPut,markPut]
  split
  ·
   rfl
  split
  ·
   rfl
  rw [ih];· rfl
  obtain⟨m,hm,hx⟩:=h
  rcases List.mem_cons.1 hm with rfl|hm
  ·
   omega
  exact⟨m,hm,hx⟩
/-! Entries recorded. -/
def markE (e:DEntry):DMark:=⟨e.Client,e.Seq,e.Index⟩
def seenStep (s:List DMark) (e:DEntry):Option (List DMark):=if entryOk e && (decide ((markOf s e.Client).Seq<e.Seq) && decide (lastSeen s<e.Index)) then some (markPut s (markE e)) else none
def seenOver:List DMark→List DEntry→Option (List DMark)
 | s,[]=>some s
 | s,e :: l=>match seenStep s e with|none=>none|some s'=>seenOver s' l
theorem seenOver_app (s:List DMark) (l l':List DEntry):seenOver s (l ++ l')=(seenOver s l).bind (fun t=>seenOver t l'):=by
 induction l generalizing s with
 | nil=>rfl
 | cons e l ih =>
  rw [List.cons_append,seenOver,seenOver]
  cases seenStep s e with
  | none=>rfl
  | some t=>exact ih t
theorem seenOver_one (s:List DMark) (e:DEntry):seenOver s [e]=seenStep s e:=by
 rw [seenOver];cases seenStep s e <;> rfl
theorem seenOver_next {s t:List DMark} {l:List DEntry} {k:Nat} {e:DEntry} (he:l[k]?=some e) (h:seenOver s (l.take k)=some t):seenOver s (l.take (k+1))=seenStep t e:=by
 have hk:=(List.getElem?_eq_some_iff.1 he).1
 rw [List.take_succ_eq_append_getElem hk,seenOver_app,h,← (List.getElem?_eq_some_iff.1 he).2]
 exact seenOver_one _ _
theorem seenOver_fail {s t:List DMark} {l:List DEntry} {k:Nat} {e:DEntry} (he:l[k]?=some e) (h:seenOver s (l.take k)=some t) (hn:seenStep t e=none):seenOver s l=none:=by
 have h1:=seenOver_next he h
 rw [hn] at h1
 rw [← List.take_append_drop (k+1) l,seenOver_app,h1];rfl
theorem entryOk_all {e:DEntry} (h:entryOk e=true):1≤e.Index∧e.Index≤2000∧0≤e.Time∧e.Time≤1000000∧2≤e.Client∧e.Client≤5∧1≤e.Seq∧e.Seq≤2000∧opOk e.Op=true:=by
 simp only [entryOk,timeOk,Bool.and_eq_true,inb_true] at h
 obtain⟨h1,h2,h3,h4,h5⟩:=h
 exact⟨h1.1,h1.2,h2.1,h2.2,h3.1,h3.2,h4.1,h4.2,h5⟩
theorem markE_ok {e:DEntry} (h:entryOk e=true):markOk (markE e)=true:=by
 obtain⟨h1,h2,_,_,h5,h6,h7,h8,_⟩:=entryOk_all h
 simp only [markOk,markE,Bool.and_eq_true,inb_true];omega
theorem seenStep_some {s t:List DMark} {e:DEntry} (h:seenStep s e=some t):entryOk e=true∧(markOf s e.Client).Seq<e.Seq∧lastSeen s<e.Index∧t=markPut s (markE e):=by
 unfold seenStep at h
 split at h
 ·
  rename_i hc
  simp only [Bool.and_eq_true,decide_eq_true_eq] at hc
  exact⟨hc.1,hc.2.1,hc.2.2,(Option.some.inj h).symm⟩
 cases h
theorem seenStep_ok {s t:List DMark} {e:DEntry} (hs:SeenOk s) (h:seenStep s e=some t):SeenOk t∧lastSeen t=e.Index:=by
 obtain⟨h1,h2,h3,rfl⟩:=seenStep_some h
 exact⟨markPut_ok hs (markE_ok h1) h3,lastSeen_put (x:=markE e) h3⟩
theorem seenOver_ok {s t:List DMark} {l:List DEntry} (hs:SeenOk s) (h:seenOver s l=some t):SeenOk t:=by
 induction l generalizing s with
 | nil=>obtain rfl:=Option.some.inj h;exact hs
 | cons e l ih =>
  rw [seenOver] at h
  cases hq:seenStep s e with
  | none=>rw [hq] at h;cases h
  | some u=>rw [hq] at h;exact ih (seenStep_ok hs hq).1 h
end Go.G8
namespace Go.Proofs.YtkpmbocbbgocbaaGreat
open Go.RowKit Go.G8
theorem mark_next {l:List DMark} {k:Nat} {d:DMark} {S:List Int} (hd:l[k]?=some d) (hS:∀ x,x ∈ S ↔ ∃ i e,i<k∧l[i]?=some e∧e.Index=x):∀ x,x ∈ d.Index :: S ↔ ∃ i e,i<k+1∧l[i]?=some e∧e.Index=x:=by
 intro x
 rw [List.mem_cons,hS x]
 constructor
 ·
  rintro (rfl|⟨i,e,hi,h1,h2⟩)
  ·
   exact⟨k,d,by omega,hd,rfl⟩
  exact⟨i,e,by omega,h1,h2⟩
 rintro ⟨i,e,hi,h1,h2⟩
 by_cases hik:i=k
 ·
  subst hik
  rw [hd] at h1
  obtain rfl:=Option.some.inj h1
  exact .inl h2.symm
 exact .inr ⟨i,e,by omega,h1,h2⟩
theorem zbM (w:World):(zeroValue 4).run Tryz.prog w=.ok (.bool false) w:=by kernel_rfl
theorem seenOk_c (w:World) (v:Value) (l:List DMark) (h:Ints 3 w v (flMark l)):Calls Tryz.prog 357 #[v] w (RetV w (.bool (seenOk l))):=by
 obtain⟨a,cap,rfl,hcap,hm,ha⟩:=h.recs (f:=DMark.ints) (fun _=>rfl) dC
 have HA:=Lib.hid ha
 clear ha
 unfold maxLen at hm
 have hmm:=@run_makeMap Tryz.prog
 go_enter Tryz.func357,Tryz.ntmps357
 go_wp2
 clear hmm
 go_loopw [9] (fun i wr=>∃ k:Nat,k≤l.length∧i=.int .i64 k∧Ext w wr∧∃ S,BSet Tryz.prog 2 4 wr w.heap.size k S∧Hid (∀ i,i<k→SeenAt l i)∧Hid (∀ x,x ∈ S ↔ ∃ i e,i<k∧l[i]?=some e∧e.Index=x)) (fun i _=>l.length - (intOf i).toNat)
 case atStart=>exact⟨0,Nat.zero_le _,rfl,(Ext.refl _).alloc _,[],BSet.made Tryz.prog 2 4 w,Lib.hid (fun i hi=>by omega),Lib.hid (fun x=>by simp)⟩
 case round =>
  obtain⟨k,hk,rfl,he,S,hset,HO,HM⟩:=hrel
  have hsz:=he.size
  have hset0:=hset.lt
  by_cases hlt:k<l.length
  ·
   obtain⟨d,b1,o1,hd,rfl,hb1,c⟩:=HA.out k hlt
   have d0:=he.cell (c 0 _ dC rfl)
   have d1:=he.cell (c 1 _ dC rfl)
   have d2:=he.cell (c 2 _ dC rfl)
   simp only [Nat.add_zero] at d0
   have HD:=Lib.hid hd
   clear c hd
   go_upto_region 5 with (fail)
   obtain⟨W,hW⟩:∃ W,W=wr.alloc (.cells #[.int .i64 d.Client,.int .i64 d.Seq,.int .i64 d.Index] 290):=⟨_,rfl⟩
   have hset':BSet Tryz.prog 2 4 W w.heap.size k S:=by rw [hW];exact hset.ext ((Ext.refl wr).alloc _)
   have heW:Ext w W:=by rw [hW];exact he.alloc _
   have heR:Ext wr W:=by rw [hW];exact (Ext.refl wr).alloc _
   have KX:Blk W wr.heap.size 290 #[.int .i64 d.Client,.int .i64 d.Seq,.int .i64 d.Index]:=by rw [hW];exact Blk.new _ _ _
   obtain⟨CX,FX,LX⟩:=KX.cfl
   rw [← hW]
   clear hW
   cases p1:inb d.Client 2 5
   ·
    go_wp2_with (first|(go_at_call 410;refine (askerOk_e _ _).mono ?_;rintro e9 w9 ⟨rfl,rfl⟩)|(go_at_call 411;refine (seqOk_e _ _).mono ?_;rintro e9 w9 ⟨rfl,rfl⟩)|(go_at_call 412;refine (indexOk_e _ _).mono ?_;rintro e9 w9 ⟨rfl,rfl⟩))
    go_ret
    exact⟨congrArg (fun z=>Ending.returned (.bool z)) (seenOk_false (fun hh=>by have:=(hh.at k hlt d HD.out).1;rw [markOk,p1] at this;cases this)).symm,by exact extT⟩
   cases p2:inb d.Seq 1 2000
   ·
    go_wp2_with (first|(go_at_call 410;refine (askerOk_e _ _).mono ?_;rintro e9 w9 ⟨rfl,rfl⟩)|(go_at_call 411;refine (seqOk_e _ _).mono ?_;rintro e9 w9 ⟨rfl,rfl⟩)|(go_at_call 412;refine (indexOk_e _ _).mono ?_;rintro e9 w9 ⟨rfl,rfl⟩))
    go_ret
    exact⟨congrArg (fun z=>Ending.returned (.bool z)) (seenOk_false (fun hh=>by have:=(hh.at k hlt d HD.out).1;rw [markOk,p2] at this;simp at this)).symm,by exact extT⟩
   cases p3:inb d.Index 1 2000
   ·
    go_wp2_with (first|(go_at_call 410;refine (askerOk_e _ _).mono ?_;rintro e9 w9 ⟨rfl,rfl⟩)|(go_at_call 411;refine (seqOk_e _ _).mono ?_;rintro e9 w9 ⟨rfl,rfl⟩)|(go_at_call 412;refine (indexOk_e _ _).mono ?_;rintro e9 w9 ⟨rfl,rfl⟩))
    go_ret
    exact⟨congrArg (fun z=>Ending.returned (.bool z)) (seenOk_false (fun hh=>by have:=(hh.at k hlt d HD.out).1;rw [markOk,p3] at this;simp at this)).symm,by exact extT⟩
   have hp:markOk d=true:=by rw [markOk,p1,p2,p3];rfl
   have hlk:=hset'.look (t:=407) Tryz.underlying2 Tryz.underlying407 Tryz.underlying4 (zbM _) (x:=d.Index) (WalkArith.wf_i64 (by have:=markOk_cl hp;omega))
   by_cases hmem:d.Index ∈ S
   ·
    rw [show decide (d.Index ∈ S)=true by simpa using hmem] at hlk
    have HMM:=Lib.hid hmem
    clear hmem
    go_wp2_with (first|(go_at_call 410;refine (askerOk_e _ _).mono ?_;rintro e9 w9 ⟨rfl,rfl⟩)|(go_at_call 411;refine (seqOk_e _ _).mono ?_;rintro e9 w9 ⟨rfl,rfl⟩)|(go_at_call 412;refine (indexOk_e _ _).mono ?_;rintro e9 w9 ⟨rfl,rfl⟩))
    go_ret
    exact⟨congrArg (fun z=>Ending.returned (.bool z)) (seenOk_false (fun hh=>by obtain⟨i,e,hi,h1,h2⟩:=(HM.out d.Index).1 HMM.out;exact (hh.at k hlt d HD.out).2.2 i e hi h1 h2)).symm,by exact extT⟩
   rw [show decide (d.Index ∈ S)=false by simpa using hmem] at hlk
   have HMM:=Lib.hid hmem
   clear hmem
   go_upto_region 7 with (first|(go_at_call 410;refine (askerOk_e _ _).mono ?_;rintro e9 w9 ⟨rfl,rfl⟩)|(go_at_call 411;refine (seqOk_e _ _).mono ?_;rintro e9 w9 ⟨rfl,rfl⟩)|(go_at_call 412;refine (indexOk_e _ _).mono ?_;rintro e9 w9 ⟨rfl,rfl⟩))
   clear hlk
   by_cases hk0:k=0
   ·
    have hk1:decide (0<k)=false:=by simp;omega
    have HK:=Lib.hid hk0
    clear hk0
    go_wp2_with fail
    go_quiet (fail)
    have hw:(Lit.int .i64 d.Index).wf=true:=WalkArith.wf_i64 (by have:=markOk_cl hp;omega)
    go_wp2_with (first|(at_mapUpdate;refine wpList_put rfl _ _ _ 407 rfl 2 4 Tryz.underlying2 Tryz.underlying407 Tryz.underlying4 _ _ _ _ rfl rfl rfl hset' (by unfold maxLen;omega) hw ?_;intro w2 hset2 hgr2))
    have hx2:=(heW.drewN _).grownOwn hgr2 oM
    go_roundw
    case rel=>exact⟨k+1,by omega,by go_num,hx2,_,hset2,Lib.hid (SeenAt.next HD.out HO.out hp (fun e' hh hl=>by have:=HK.out;omega) (fun j e' hj hl hh=>HMM.out ((HM.out _).2 ⟨j,e',hj,hl,hh⟩))),Lib.hid (mark_next HD.out HM.out)⟩
    case measure=>simp [intOf];omega
   obtain⟨e,b2,o2,hde,hbo,_,c⟩:=HA.out (k - 1) oM
   obtain⟨rfl,rfl⟩:b1=b2∧o1=o2:=by simpa using hbo
   have e0:=heW.cell (c 0 _ dC rfl)
   simp only [Nat.add_zero] at e0
   have HE:=Lib.hid hde
   clear c hde hbo
   have hk1:decide (0<k)=true:=by simp;omega
   by_cases hle:d.Client≤e.Client
   ·
    have hle':decide (d.Client≤e.Client)=true:=by simpa using hle
    go_wp2_with fail
    go_quiet (fail)
    go_wp2_with fail
    go_ret
    exact⟨congrArg (fun z=>Ending.returned (.bool z)) (seenOk_false (fun hh=>by have:=(hh.at k hlt d HD.out).2.1 e oM HE.out;omega)).symm,by exact extT⟩
   have hle':decide (d.Client≤e.Client)=false:=by simpa using hle
   go_wp2_with fail
   go_quiet (fail)
   have hw:(Lit.int .i64 d.Index).wf=true:=WalkArith.wf_i64 (by have:=markOk_cl hp;omega)
   go_wp2_with (first|(at_mapUpdate;refine wpList_put rfl _ _ _ 407 rfl 2 4 Tryz.underlying2 Tryz.underlying407 Tryz.underlying4 _ _ _ _ rfl rfl rfl hset' (by unfold maxLen;omega) hw ?_;intro w2 hset2 hgr2))
   have hx2:=(heW.drewN _).grownOwn hgr2 oM
   go_roundw
   case rel=>exact⟨k+1,by omega,by go_num,hx2,_,hset2,Lib.hid (SeenAt.next HD.out HO.out hp (fun e' hh hl=>by rw [HE.out] at hl;obtain rfl:=Option.some.inj hl;omega) (fun j e' hj hl hh=>HMM.out ((HM.out _).2 ⟨j,e',hj,hl,hh⟩))),Lib.hid (mark_next HD.out HM.out)⟩
   case measure=>simp [intOf];omega
  obtain rfl:k=l.length:=by omega
  go_wp2
  go_ret
  exact⟨congrArg (fun z=>Ending.returned (.bool z)) (seenOk_true (SeenOk.of_at HO.out)).symm,he⟩
theorem rqB42 {p:Prop} (h:p:=by intro KQ hKQ;(repeat (first|go_big_quiet_skip|(go_big_quiet_want;first|(refine quiet_load _ _ _ ?_ rfl rfl (fun wq hq=>?_) ?_;rotate_left;(focus ((try have y0:=hq.cell d0);(try have y1:=hq.cell d1);(try have y2:=hq.cell d2);(try have z0:=hq.cell e0);go_simp;first|done|rfl));(try simp only [redA,Act.put]);go_big_quiet_on)|(go_big_quiet_op;first|go_big_quiet_on|(refine⟨_,fun _ _=>rfl,?_⟩;go_big_quiet_on)|(apply Exists.intro;refine⟨fun wq hq=>?_,?_⟩;(focus (first|exact call_same hq (by have c:=sAskerOk_e wq d.Client;rw [p1] at c;exact c)|exact call_same hq (by have c:=l7Seq_e wq d.Seq;rw [p2] at c;exact c)|exact call_same hq (by have c:=l7Index_e wq d.Index;rw [p3] at c;exact c)));go_big_quiet_on)))));exact wpQuiet_nil hKQ):p:=h
theorem sSeenOk_c (w:World) (v:Value) (l:List DMark) (h:Ints 3 w v (flMark l)):Calls Tryz.prog 375 #[v] w (RetV w (.bool (seenOk l))):=by
 obtain⟨a,cap,rfl,hcap,hm,ha⟩:=h.recs (f:=DMark.ints) (fun _=>rfl) dC
 have HA:=Lib.hid ha
 clear ha
 unfold maxLen at hm
 by_cases h4:l.length≤4
 rotate_left
 ·
  go_enter Tryz.func375,Tryz.ntmps375
  go_wp2
  go_ret
  exact⟨congrArg (fun z=>Ending.returned (.bool z)) (seenOk_false (fun hh=>h4 hh.len)).symm,Ext.refl _⟩
 go_enter Tryz.func375,Tryz.ntmps375
 go_wp2
 go_loopw [3] (fun i wr=>∃ k:Nat,k≤l.length∧i=.int .i64 k∧Ext w wr∧Hid (∀ i,i<k→SeenAt l i)) (fun i _=>l.length - (intOf i).toNat)
 case atStart=>exact⟨0,Nat.zero_le _,rfl,Ext.refl _,Lib.hid (fun i hi=>by omega)⟩
 case round =>
  obtain⟨k,hk,rfl,he,HO⟩:=hrel
  by_cases hlt:k<l.length
  ·
   obtain⟨d,b1,o1,hd,rfl,hb1,c⟩:=HA.out k hlt
   have q2:=c 2 _ dC rfl
   have d0:=he.cell (c 0 _ dC rfl)
   have d1:=he.cell (c 1 _ dC rfl)
   have d2:=he.cell (c 2 _ dC rfl)
   simp only [Nat.add_zero] at d0
   have HD:=Lib.hid hd
   clear c hd
   go_upto_region 6 with (fail)
   cases p1:inb d.Client 2 5
   ·
    refine rx0 rqB42 fun w1 hx1=>?_
    go_wp2_with fail
    go_ret
    exact⟨congrArg (fun z=>Ending.returned (.bool z)) (seenOk_false (fun hh=>by have:=(hh.at k hlt d HD.out).1;rw [markOk,p1] at this;cases this)).symm,he.trans hx1⟩
   cases p2:inb d.Seq 1 2000
   ·
    refine rx0 rqB42 fun w1 hx1=>?_
    go_wp2_with fail
    go_ret
    exact⟨congrArg (fun z=>Ending.returned (.bool z)) (seenOk_false (fun hh=>by have:=(hh.at k hlt d HD.out).1;rw [markOk,p2] at this;simp at this)).symm,he.trans hx1⟩
   cases p3:inb d.Index 1 2000
   ·
    refine rx0 rqB42 fun w1 hx1=>?_
    go_wp2_with fail
    go_ret
    exact⟨congrArg (fun z=>Ending.returned (.bool z)) (seenOk_false (fun hh=>by have:=(hh.at k hlt d HD.out).1;rw [markOk,p3] at this;simp at this)).symm,he.trans hx1⟩
   have hp:markOk d=true:=by rw [markOk,p1,p2,p3];rfl
   by_cases hk0:k=0
   ·
    have hk1:decide (0<k)=false:=by simp;omega
    have HK:=Lib.hid hk0
    clear hk0
    refine rx0 rqB42 fun w1 hx1=>?_
    have hx2:=hx1
    go_wp2_with fail
    go_loopw [4] (fun i wr=>∃ j:Nat,j≤k∧i=.int .i64 j∧Ext w wr∧Hid (∀ i e,i<j→l[i]?=some e→e.Index ≠ d.Index)) (fun i _=>k - (intOf i).toNat)
    case atStart=>exact⟨0,Nat.zero_le _,rfl,he.trans hx1,Lib.hid (fun i e hi=>by omega)⟩
    case round =>
     obtain⟨wo,hwo⟩:∃ wo,wo=wr:=⟨_,rfl⟩
     clear hx1 hx2 d0 d1 d2
     obtain⟨j,hj,rfl,he,HJ⟩:=hrel
     by_cases hjl:j<k
     ·
      obtain⟨x,b3,o3,hxx,hbx,_,c⟩:=HA.out j oM
      obtain⟨rfl,rfl⟩:b1=b3∧o1=o3:=by simpa using hbx
      have x2:=he.cell (c 2 _ dC rfl)
      have d2:=he.cell q2
      have HX:=Lib.hid hxx
      clear c hxx hbx
      by_cases hxe:x.Index=d.Index
      ·
       have hxe1:decide (x.Index=d.Index)=true:=by simpa using hxe
       have hxe2:(x.Index == d.Index)=true:=by simpa using hxe
       have HXE:=Lib.hid hxe
       clear hxe
       go_wp2_with fail
       go_quiet (fail)
       go_wp2_with fail
       go_ret
       exact⟨congrArg (fun z=>Ending.returned (.bool z)) (seenOk_false (fun hh=>(hh.at k hlt d HD.out).2.2 j x hjl HX.out HXE.out)).symm,by exact extT⟩
      have hxe1:decide (x.Index=d.Index)=false:=by simpa using hxe
      have hxe2:(x.Index == d.Index)=false:=by simpa using hxe
      have HXE:=Lib.hid hxe
      clear hxe
      go_wp2_with fail
      go_quiet (fail)
      go_wp2_with fail
      go_roundw
      case rel=>exact⟨j+1,by omega,by go_num,by exact extT,Lib.hid (fun i e hi hl=>by
       by_cases hij:i=j
       ·
        subst hij;rw [HX.out] at hl;obtain rfl:=Option.some.inj hl;exact HXE.out
       exact HJ.out i e oM hl)⟩
      case measure=>simp [intOf];omega
     obtain rfl:j=k:=by omega
     go_wp2_with fail
     go_roundw
     case rel=>exact⟨j+1,by omega,by go_num,by exact extT,Lib.hid (SeenAt.next HD.out HO.out hp (fun e' hh hl=>by have:=HK.out;omega) HJ.out)⟩
     case measure=>simp [intOf];omega
   obtain⟨e,b2,o2,hde,hbo,_,c⟩:=HA.out (k - 1) oM
   obtain⟨rfl,rfl⟩:b1=b2∧o1=o2:=by simpa using hbo
   have e0:=he.cell (c 0 _ dC rfl)
   simp only [Nat.add_zero] at e0
   have HE:=Lib.hid hde
   clear c hde hbo
   have hk1:decide (0<k)=true:=by simp;omega
   by_cases hle:d.Client≤e.Client
   ·
    have hle':decide (d.Client≤e.Client)=true:=by simpa using hle
    refine rx0 rqB42 fun w1 hx1=>?_
    go_wp2_with fail
    go_ret
    exact⟨congrArg (fun z=>Ending.returned (.bool z)) (seenOk_false (fun hh=>by have:=(hh.at k hlt d HD.out).2.1 e oM HE.out;omega)).symm,he.trans hx1⟩
   have hle':decide (d.Client≤e.Client)=false:=by simpa using hle
   refine rx0 rqB42 fun w1 hx1=>?_
   have hx2:=hx1
   have HLE:=Lib.hid hle
   clear e0 hle hle'
   go_wp2_with fail
   go_loopw [4] (fun i wr=>∃ j:Nat,j≤k∧i=.int .i64 j∧Ext w wr∧Hid (∀ i e,i<j→l[i]?=some e→e.Index ≠ d.Index)) (fun i _=>k - (intOf i).toNat)
   case atStart=>exact⟨0,Nat.zero_le _,rfl,he.trans hx1,Lib.hid (fun i e hi=>by omega)⟩
   case round =>
    obtain⟨wo,hwo⟩:∃ wo,wo=wr:=⟨_,rfl⟩
    clear hx1 hx2 d0 d1 d2
    obtain⟨j,hj,rfl,he,HJ⟩:=hrel
    by_cases hjl:j<k
    ·
     obtain⟨x,b3,o3,hxx,hbx,_,c⟩:=HA.out j oM
     obtain⟨rfl,rfl⟩:b1=b3∧o1=o3:=by simpa using hbx
     have x2:=he.cell (c 2 _ dC rfl)
     have d2:=he.cell q2
     have HX:=Lib.hid hxx
     clear c hxx hbx
     by_cases hxe:x.Index=d.Index
     ·
      have hxe1:decide (x.Index=d.Index)=true:=by simpa using hxe
      have hxe2:(x.Index == d.Index)=true:=by simpa using hxe
      have HXE:=Lib.hid hxe
      clear hxe
      go_wp2_with fail
      go_quiet (fail)
      go_wp2_with fail
      go_ret
      exact⟨congrArg (fun z=>Ending.returned (.bool z)) (seenOk_false (fun hh=>(hh.at k hlt d HD.out).2.2 j x hjl HX.out HXE.out)).symm,by exact extT⟩
     have hxe1:decide (x.Index=d.Index)=false:=by simpa using hxe
     have hxe2:(x.Index == d.Index)=false:=by simpa using hxe
     have HXE:=Lib.hid hxe
     clear hxe
     go_wp2_with fail
     go_quiet (fail)
     go_wp2_with fail
     go_roundw
     case rel=>exact⟨j+1,by omega,by go_num,by exact extT,Lib.hid (fun i e hi hl=>by
      by_cases hij:i=j
      ·
       subst hij;rw [HX.out] at hl;obtain rfl:=Option.some.inj hl;exact HXE.out
      exact HJ.out i e oM hl)⟩
     case measure=>simp [intOf];omega
    obtain rfl:j=k:=by omega
    go_wp2_with fail
    go_roundw
    case rel=>exact⟨j+1,by omega,by go_num,by exact extT,Lib.hid (SeenAt.next HD.out HO.out hp (fun e' hh hl=>by have:=HLE.out;rw [HE.out] at hl;obtain rfl:=Option.some.inj hl;omega) HJ.out)⟩
    case measure=>simp [intOf];omega
  obtain rfl:k=l.length:=by omega
  go_wp2
  go_ret
  exact⟨congrArg (fun z=>Ending.returned (.bool z)) (seenOk_true (SeenOk.of_at HO.out)).symm,he⟩
theorem last_next {l:List DMark} {k:Nat} {d:DMark} (hd:l[k]?=some d):lastSeen (l.take (k+1))=max (lastSeen (l.take k)) d.Index:=by
 have hk:=(List.getElem?_eq_some_iff.1 hd).1
 rw [List.take_succ_eq_append_getElem hk,(List.getElem?_eq_some_iff.1 hd).2,lastSeen_snoc]
theorem lastSeen_c (w:World) (v:Value) (l:List DMark) (h:Ints 3 w v (flMark l)):Calls Tryz.prog 358 #[v] w (RetV w (.int .i64 (lastSeen l))):=by
 obtain⟨a,cap,rfl,hcap,hm,ha⟩:=h.recs (f:=DMark.ints) (fun _=>rfl) dC
 have HA:=Lib.hid ha
 clear ha
 unfold maxLen at hm
 go_enter Tryz.func358,Tryz.ntmps358
 go_wp2
 go_loopw [3,8] (fun m i wr=>∃ k:Nat,k≤l.length∧i=.int .i64 k∧(∃ z:Int,z=lastSeen (l.take k)∧m=.int .i64 z)∧Ext w wr) (fun _ i _=>l.length - (intOf i).toNat)
 case atStart=>exact⟨0,Nat.zero_le _,rfl,⟨0,rfl,rfl⟩,Ext.refl _⟩
 case round =>
  obtain⟨k,hk,rfl,⟨z,hz,rfl⟩,he⟩:=hrel
  have HZ:=Lib.hid hz
  clear hz
  by_cases hlt:k<l.length
  ·
   obtain⟨d,b1,o1,hd,rfl,hb1,c⟩:=HA.out k hlt
   have d0:=he.cell (c 0 _ dC rfl)
   have d1:=he.cell (c 1 _ dC rfl)
   have d2:=he.cell (c 2 _ dC rfl)
   simp only [Nat.add_zero] at d0
   have HD:=Lib.hid hd
   clear c hd
   go_wp2
   all_goals
    go_roundw
    case rel=>exact⟨k+1,by omega,by go_num,⟨_,by rw [last_next HD.out,← HZ.out];first|rfl|omega,rfl⟩,by exact extT⟩
    case measure=>simp [intOf];omega
  obtain rfl:k=l.length:=by omega
  go_wp2
  go_ret
  exact⟨by rw [HZ.out,List.take_length];try rfl,he⟩
theorem sLastSeen_c (w:World) (v:Value) (l:List DMark) (h:Ints 3 w v (flMark l)) (hs:seenOk l=true):Calls Tryz.prog 376 #[v] w (RetV w (.int .i64 (lastSeen l))):=by
 have HH:=h
 obtain⟨a,cap,rfl,hcap,hm,ha⟩:=h.recs (f:=DMark.ints) (fun _=>rfl) dC
 have HA:=Lib.hid ha;have HS:=Lib.hid hs
 clear ha hs
 unfold maxLen at hm
 go_enter Tryz.func376,Tryz.ntmps376
 go_wp2_with fail
 refine (sSeenOk_c _ _ l HH).mono ?_
 rintro e w1 ⟨rfl,hx1⟩
 rw [HS.out]
 go_wp2_with fail
 go_loopw [3,4] (fun m i wr=>∃ k:Nat,k≤l.length∧i=.int .i64 k∧(∃ z:Int,z=lastSeen (l.take k)∧m=.int .i64 z)∧Ext w wr) (fun _ i _=>l.length - (intOf i).toNat)
 case atStart=>exact⟨0,Nat.zero_le _,rfl,⟨0,rfl,rfl⟩,hx1⟩
 case round =>
  obtain⟨k,hk,rfl,⟨z,hz,rfl⟩,he⟩:=hrel
  have HZ:=Lib.hid hz
  clear hz
  by_cases hlt:k<l.length
  ·
   obtain⟨d,b1,o1,hd,rfl,hb1,c⟩:=HA.out k hlt
   have d2:=he.cell (c 2 _ dC rfl)
   have HD:=Lib.hid hd
   clear c hd
   go_wp2_with (first|(go_at_call 414;refine (l1Max_e _ _ _).mono ?_;rintro e9 w9 ⟨rfl,rfl⟩))
   go_roundw
   case rel=>exact⟨k+1,by omega,by go_num,⟨_,by rw [last_next HD.out,← HZ.out],rfl⟩,by exact extT⟩
   case measure=>simp [intOf];omega
  obtain rfl:k=l.length:=by omega
  go_wp2
  go_ret
  exact⟨by rw [HZ.out,List.take_length];try rfl,he⟩
theorem sMarkOf_c (w:World) (v:Value) (l:List DMark) (c:Int) (h:Ints 3 w v (flMark l)) (hs:seenOk l=true):Calls Tryz.prog 354 #[v,.int .i64 c] w (RetV w (.agg #[.int .i64 (markOf l c).Client,.int .i64 (markOf l c).Seq,.int .i64 (markOf l c).Index])):=by
 have HH:=h
 obtain⟨a,cap,rfl,hcap,hm,ha⟩:=h.recs (f:=DMark.ints) (fun _=>rfl) dC
 have HA:=Lib.hid ha;have HS:=Lib.hid hs
 clear ha hs
 unfold maxLen at hm
 obtain⟨W0,hW0⟩:∃ W0,W0=w.alloc (.cells #[.int .i64 0,.int .i64 0,.int .i64 0] 290):=⟨_,rfl⟩
 have hE0:Ext w W0:=by rw [hW0];exact (Ext.refl _).alloc _
 have KR:Blk W0 w.heap.size 290 #[.int .i64 0,.int .i64 0,.int .i64 0]:=by rw [hW0];exact Blk.new _ _ _
 go_enter Tryz.func354,Tryz.ntmps354
 go_wp2_with fail
 rw [← hW0]
 clear hW0
 refine (sSeenOk_c _ _ l (HH.ext hE0)).mono ?_
 rintro e w1 ⟨rfl,hx1⟩
 rw [HS.out]
 have hE1:=hE0.trans hx1
 have K1:=KR.ext hx1
 go_wp2_with fail
 go_loopw [5] (fun i wr=>∃ k:Nat,k≤l.length∧i=.int .i64 k∧Ext w wr∧Blk wr w.heap.size 290 #[.int .i64 0,.int .i64 0,.int .i64 0]∧Hid ((l.take k).all (fun y=>!decide (y.Client=c))=true)) (fun i _=>l.length - (intOf i).toNat)
 case atStart=>exact⟨0,Nat.zero_le _,rfl,hE1,K1,Lib.hid (by simp)⟩
 case round =>
  obtain⟨k,hk,rfl,he,hb,hn⟩:=hrel
  have C1:=hb.cell;have F1:=hb.frozen;have L1:=hb.lt
  by_cases hlt:k<l.length
  ·
   obtain⟨d,b1,o1,hd,rfl,hb1,cc⟩:=HA.out k hlt
   have d0:=he.cell (cc 0 _ dC rfl)
   have d1:=he.cell (cc 1 _ dC rfl)
   have d2:=he.cell (cc 2 _ dC rfl)
   simp only [Nat.add_zero] at d0
   have HD:=Lib.hid hd
   clear cc hd
   by_cases hc:d.Client=c
   ·
    have hm1:markOf l c=d:=by
     rw [markOf,markFind,find_at (p:=fun m:DMark=>decide (m.Client=c)) HD.out hn.out (by simpa using hc)];rfl
    have HM:=Lib.hid hm1
    have hc1:(d.Client == c)=true:=by simpa using hc
    have hc2:decide (d.Client=c)=true:=by simpa using hc
    clear hm1 hc
    go_wp2_with fail
    refine bodyPost_ret (by simp [results,Tryz.results354,go_sem,C1,F1,L1];try rfl) rfl ?_
    exact⟨by rw [HM.out];try rfl,by exact extT⟩
   have hc1:(d.Client == c)=false:=by simpa using hc
   have hc2:decide (d.Client=c)=false:=by simpa using hc
   have HC:=Lib.hid hc
   clear hc
   go_wp2_with fail
   go_roundw
   case rel=>exact⟨k+1,by omega,by go_num,by exact extT,by exact blkT,Lib.hid (by rw [List.take_add_one,HD.out,List.all_append,hn.out];simpa using HC.out)⟩
   case measure=>simp [intOf];omega
  obtain rfl:k=l.length:=by omega
  have hm1:markOf l c=zMark:=by
   have h1:=hn.out
   rw [List.take_length] at h1
   rw [markOf,markFind,find_none (p:=fun m:DMark=>decide (m.Client=c)) h1];rfl
  have HM:=Lib.hid hm1
  clear hm1
  go_wp2_with fail
  refine bodyPost_ret (by simp [results,Tryz.results354,go_sem,C1,F1,L1];try rfl) rfl ?_
  exact⟨by rw [HM.out];rfl,by exact extT⟩
theorem freshIn_c (w:World) (v:Value) (l:List DMark) (c q:Int) (h:Ints 3 w v (flMark l)) (hs:seenOk l=true) (hc:inb c 2 5=true) (hq:inb q 1 2000=true):Calls Tryz.prog 415 #[v,.int .i64 c,.int .i64 q] w (RetV w (.bool (decide ((markOf l c).Seq<q)))):=by
 obtain⟨a,n,k,rfl⟩:=h.shape
 have HS:=Lib.hid hs;have HC:=Lib.hid hc;have HQ:=Lib.hid hq
 clear hs hc hq
 go_enter Tryz.func415,Tryz.ntmps415
 go_wp2_with fail
 refine (sSeenOk_c _ _ l h).mono ?_
 rintro e w1 ⟨rfl,hx1⟩
 rw [HS.out]
 go_wp2_with (first|(go_at_call 393;refine (sAskerOk_e _ _).mono ?_;rintro e9 w9 ⟨rfl,rfl⟩;rw [HC.out])|(go_at_call 394;refine (l7Seq_e _ _).mono ?_;rintro e9 w9 ⟨rfl,rfl⟩;rw [HQ.out]))
 refine (sMarkOf_c _ _ l c (h.ext hx1) HS.out).mono ?_
 rintro e w2 ⟨rfl,hx2⟩
 have hfd:∀ W:World,(Instr.field 290 (.agg #[.int .i64 (markOf l c).Client,.int .i64 (markOf l c).Seq,.int .i64 (markOf l c).Index]) 1).run Tryz.prog W=.ok (.int .i64 (markOf l c).Seq) W:=fun _=>by kernel_rfl
 go_wp2_with fail
 go_ret
 exact⟨rfl,hx1.trans hx2⟩
end Go.Proofs.YtkpmbocbbgocbaaGreat
namespace Go.G8
open Go.RowKit
open Go.Proofs.YtkpmbocbbgocbaaGreat
def firstOk (b:DBook):Bool:=match b.Entries with|[]=>true|e :: _=>decide (e.Index=b.Base+1) && decide (b.Time≤e.Time)
noncomputable def bookOk (b:DBook):Bool:=inb b.Base 0 2000 && (timeOk b.Time && ((!(decide (b.Base=0) && decide (b.Time ≠ 0))) && (decide (b.Entries.length≤20) && (entriesOk b.Entries && firstOk b))))
noncomputable def headOk (h:DHead):Bool:=inb h.Base 0 2000 && (inb h.Num 0 h.Base && (timeOk h.Time && ((decide (0<h.Base) || decide (h.Time=0)) && (seenOk h.Seen && decide (lastSeen h.Seen=h.Base)))))
def twoOk (t:DTwo):Bool:=diskOk t.A && (diskOk t.B && decide (t.A.Kept.length=t.B.Kept.length))
def keptOk (t:DTwo):Bool:=twoOk t && decide (t.A.Kept.length=22)
def zAck:DAck:=⟨0,0,0,0⟩
def ackE (e:DEntry):DAck:=if entryOk e then ⟨e.Client,e.Seq,e.Index,e.Seq⟩ else zAck
structure BookP (b:DBook):Prop where
 base:0≤b.Base∧b.Base≤2000
 time:0≤b.Time∧b.Time≤1000000
 len:b.Entries.length≤20
 ents:EntriesOk b.Entries
 first:∀ e,b.Entries[0]?=some e→e.Index=b.Base+1∧b.Time≤e.Time
theorem bookOk_p {b:DBook} (h:bookOk b=true):BookP b:=by
 simp only [bookOk,Bool.and_eq_true,timeOk,inb_true,decide_eq_true_eq,entriesOk_iff] at h
 obtain⟨h1,h2,h3,h4,h5,h6⟩:=h
 refine⟨h1,h2,h4,h5,fun e he=>?_⟩
 unfold firstOk at h6
 cases hb:b.Entries with
 | nil=>rw [hb] at he;simp at he
 | cons x l =>
  rw [hb] at he h6
  simp at he;subst he
  simpa using h6
theorem BookP.idx {b:DBook} (h:BookP b):∀ (i:Nat) (e:DEntry),b.Entries[i]?=some e→e.Index=b.Base+1+i∧entryOk e=true
 | 0,e,he=>by
  have h1:=(h.first e he).1
  have hl:=(List.getElem?_eq_some_iff.1 he).1
  exact⟨by simp;omega,(h.ents.2 0 hl e he).1⟩
 | i+1,e,he=>by
  have hl:=(List.getElem?_eq_some_iff.1 he).1
  have hp:b.Entries[i]?=some b.Entries[i]:=List.getElem?_eq_getElem oM
  have h1:=BookP.idx h i _ hp
  have h2:=h.ents.2 (i+1) hl e he
  have h3:=(h2.2 b.Entries[i] oM (by simp)).1
  exact⟨by push_cast;omega,h2.1⟩
theorem BookP.top {b:DBook} (h:BookP b):b.Base+b.Entries.length≤2000:=by
 rcases Nat.eq_zero_or_pos b.Entries.length with h0|h0
 ·
  have:=h.base;omega
 have hp:b.Entries[b.Entries.length - 1]?=some b.Entries[b.Entries.length - 1]:=List.getElem?_eq_getElem oM
 have h1:=h.idx _ _ hp
 have:=entryOk_all h1.2
 omega
def bLast (b:DBook):Int:=b.Base+b.Entries.length
end Go.G8
namespace Go.Proofs.YtkpmbocbbgocbaaGreat
open Go.RowKit Go.G8
theorem l8Last_c (w:World) (c0_0:Int) (c0_1:Int) (s0_2:Value) (l0_2:List DEntry) (h0_2:Ints 9 w s0_2 (flEntry l0_2)) (e0:BookP (⟨c0_0,c0_1,l0_2⟩:DBook)) :
  Calls Tryz.prog 309 #[.agg #[.int .i64 c0_0,.int .i64 c0_1,s0_2]] w (RetV w (.int .i64 (bLast (⟨c0_0,c0_1,l0_2⟩:DBook)))):=by
 obtain⟨a2,cap2,rfl,hcap2,hm2,-⟩:=h0_2.recs (f:=DEntry.ints) (fun _=>rfl) dC
 unfold maxLen at hm2
 have h1:=e0.base;have h2:=e0.len
 have h3:IntKind.i64.wrap (c0_0+(l0_2.length:Int))=c0_0+(l0_2.length:Int):=by simp only at h1 h2;rw [IntKind.wrap_i64] <;> omega
 go_enter Tryz.func309,Tryz.ntmps309
 go_wp2
 all_goals
  go_ret
  exact⟨by first|rfl|(simp [bLast];done)|(simp [bLast];omega),by exact extT⟩
end Go.Proofs.YtkpmbocbbgocbaaGreat
namespace Go.G8
open Go.RowKit
open Go.Proofs.YtkpmbocbbgocbaaGreat
open Classical in
noncomputable def eqB {α:Type} (a b:α):Bool:=decide (a=b)
theorem eqB_true {α:Type} {a b:α} (h:a=b):eqB a b=true:=by simp [eqB,h]
theorem eqB_false {α:Type} {a b:α} (h:a ≠ b):eqB a b=false:=by simp [eqB,h]
theorem eqB_iff {α:Type} {a b:α}:eqB a b=true ↔ a=b:=by simp [eqB]
theorem take_eq_nextL {α:Type} {l m:List α} {k:Nat} {x:α} (hx:l[k]?=some x) (hy:m[k]?=some x) (h:l.take k=m.take k):l.take (k+1)=m.take (k+1):=by
 rw [List.take_add_one,List.take_add_one,hx,hy,h]
end Go.G8
