/- Ef Gr Gt Rd1 SP SJ SJ2 Nx Fi Eo ApM PJ JA Fi2 JF Gt2. -/
import Derived.Test.YtkpmbocbbgocbaaGreatGd
import Derived.Test.YtkpmbocbbgocbaaGreatGa
import Derived.Test.YtkpmbocbbgocbaaGreatGb
import Derived.Test.YtkpmbocbbgocbaaGreatGf
import Derived.Test.YtkpmbocbbgocbaaGreatGe
set_option linter.unusedSimpArgs false
set_option linter.unusedVariables false
set_option maxHeartbeats 8000000
set_option maxRecDepth 100000
namespace Go.G8
open Go.RowKit Go.Proofs.YtkpmbocbbgocbaaGreat
def low {α:Type} (key:α→Int) (x:Int) (l:List α):List α:=l.filter (fun a=>decide (key a<x))
def at_ {α:Type} (key:α→Int) (x:Int) (l:List α):Option α:=l.find? (fun a=>decide (key a=x))
section
variable {α:Type} {key:α→Int} {l:List α} {x:Int} {k:Nat}
end
def holdsAt (l:DLease) (who epoch time:Int):Bool:=leaseOk l && (decide (l.Holder ≠ 0) && (decide (l.Holder=who) && (decide (l.Epoch=epoch) && (timeOk time && decide (time<l.Until)))))
def entryOk (e:DEntry):Bool:=inb e.Index 1 2000 && (timeOk e.Time && (inb e.Client 2 5 && (inb e.Seq 1 2000 && opOk e.Op)))
def fires (s:DState) (e:DEntry):Bool:=decide (e.Op.Kind=4) && (match at_ DJob.Id e.Op.A s.Jobs with|some j=>decide (j.Fired=0) && (decide (j.Due≤e.Time) && holdsAt s.Lease e.Client e.Op.B e.Time)|none=>false)
theorem entryOk_parts {e:DEntry} (h:entryOk e=true):1≤e.Index∧e.Index≤2000∧timeOk e.Time=true∧opOk e.Op=true:=by
 simp only [entryOk,Bool.and_eq_true] at h
 have:=inb_true.1 h.1
 exact⟨this.1,this.2,h.2.1,h.2.2.2.2⟩
end Go.G8
namespace Go.Proofs.YtkpmbocbbgocbaaGreat
open Go.RowKit Go.G8
theorem l7Key_e (w:World) (c0_0:Int) :
  Calls Tryz.prog 322 #[.int .i64 c0_0] w (fun e w'=>e=.returned (.bool (inb c0_0 0 9))∧w=w'):=by
 have rsize_setRow:=@size_setRow
 have rcell_setRow_lt:=@cell_setRow_lt
 have rcell_setRow_gt:=@cell_setRow_gt
 have rfrozen_setRow_lt:=@frozen_setRow_lt
 have rfrozen_setRow_gt:=@frozen_setRow_gt
 go_enter Tryz.func322,Tryz.ntmps322
 go_wp2_with (first|(go_at_call 303;refine (l1In_c _ _ _ _  ).mono ?_;rintro e wa ⟨rfl,rfl⟩))
 all_goals
  go_ret
  refine⟨by first|rfl|(simp [*];done)|(simp [*];omega)|(simp_all [bq,bn];done)|(simp_all [bq,bn];omega),by rfl⟩
theorem l7Value_e (w:World) (c0_0:Int) :
  Calls Tryz.prog 324 #[.int .i64 c0_0] w (fun e w'=>e=.returned (.bool (inb c0_0 0 999))∧w=w'):=by
 have rsize_setRow:=@size_setRow
 have rcell_setRow_lt:=@cell_setRow_lt
 have rcell_setRow_gt:=@cell_setRow_gt
 have rfrozen_setRow_lt:=@frozen_setRow_lt
 have rfrozen_setRow_gt:=@frozen_setRow_gt
 go_enter Tryz.func324,Tryz.ntmps324
 go_wp2_with (first|(go_at_call 303;refine (l1In_c _ _ _ _  ).mono ?_;rintro e wa ⟨rfl,rfl⟩))
 all_goals
  go_ret
  refine⟨by first|rfl|(simp [*];done)|(simp [*];omega)|(simp_all [bq,bn];done)|(simp_all [bq,bn];omega),by rfl⟩
theorem l7Id_e (w:World) (c0_0:Int) :
  Calls Tryz.prog 391 #[.int .i64 c0_0] w (fun e w'=>e=.returned (.bool (idOk c0_0))∧w=w'):=by
 have rsize_setRow:=@size_setRow
 have rcell_setRow_lt:=@cell_setRow_lt
 have rcell_setRow_gt:=@cell_setRow_gt
 have rfrozen_setRow_lt:=@frozen_setRow_lt
 have rfrozen_setRow_gt:=@frozen_setRow_gt
 go_enter Tryz.func391,Tryz.ntmps391
 go_wp2_with (first|(go_at_call 303;refine (l1In_c _ _ _ _  ).mono ?_;rintro e wa ⟨rfl,rfl⟩))
 all_goals
  go_ret
  refine⟨by first|rfl|(simp [idOk, *];done)|(simp [idOk, *];omega)|(simp_all [idOk,bq,bn];done)|(simp_all [idOk,bq,bn];omega),by rfl⟩
theorem l7Seq_e (w:World) (c0_0:Int) :
  Calls Tryz.prog 394 #[.int .i64 c0_0] w (fun e w'=>e=.returned (.bool (inb c0_0 1 2000))∧w=w'):=by
 have rsize_setRow:=@size_setRow
 have rcell_setRow_lt:=@cell_setRow_lt
 have rcell_setRow_gt:=@cell_setRow_gt
 have rfrozen_setRow_lt:=@frozen_setRow_lt
 have rfrozen_setRow_gt:=@frozen_setRow_gt
 go_enter Tryz.func394,Tryz.ntmps394
 go_wp2_with (first|(go_at_call 303;refine (l1In_c _ _ _ _  ).mono ?_;rintro e wa ⟨rfl,rfl⟩))
 all_goals
  go_ret
  refine⟨by first|rfl|(simp [*];done)|(simp [*];omega)|(simp_all [bq,bn];done)|(simp_all [bq,bn];omega),by rfl⟩
theorem l7Index_e (w:World) (c0_0:Int) :
  Calls Tryz.prog 392 #[.int .i64 c0_0] w (fun e w'=>e=.returned (.bool (inb c0_0 1 2000))∧w=w'):=by
 have rsize_setRow:=@size_setRow
 have rcell_setRow_lt:=@cell_setRow_lt
 have rcell_setRow_gt:=@cell_setRow_gt
 have rfrozen_setRow_lt:=@frozen_setRow_lt
 have rfrozen_setRow_gt:=@frozen_setRow_gt
 go_enter Tryz.func392,Tryz.ntmps392
 go_wp2_with (first|(go_at_call 303;refine (l1In_c _ _ _ _  ).mono ?_;rintro e wa ⟨rfl,rfl⟩))
 all_goals
  go_ret
  refine⟨by first|rfl|(simp [*];done)|(simp [*];omega)|(simp_all [bq,bn];done)|(simp_all [bq,bn];omega),by rfl⟩
theorem sAskerOk_e (w:World) (c0_0:Int) :
  Calls Tryz.prog 393 #[.int .i64 c0_0] w (fun e w'=>e=.returned (.bool (inb c0_0 2 5))∧w=w'):=by
 have rsize_setRow:=@size_setRow
 have rcell_setRow_lt:=@cell_setRow_lt
 have rcell_setRow_gt:=@cell_setRow_gt
 have rfrozen_setRow_lt:=@frozen_setRow_lt
 have rfrozen_setRow_gt:=@frozen_setRow_gt
 go_enter Tryz.func393,Tryz.ntmps393
 go_wp2_with (first|(go_at_call 303;refine (l1In_c _ _ _ _  ).mono ?_;rintro e wa ⟨rfl,rfl⟩))
 all_goals
  go_ret
  refine⟨by first|rfl|(simp [*];done)|(simp [*];omega)|(simp_all [bq,bn];done)|(simp_all [bq,bn];omega),by rfl⟩
theorem seqOk_e (w:World) (c0_0:Int) :
  Calls Tryz.prog 411 #[.int .i64 c0_0] w (fun e w'=>e=.returned (.bool (inb c0_0 1 2000))∧w=w'):=by
 have rsize_setRow:=@size_setRow
 have rcell_setRow_lt:=@cell_setRow_lt
 have rcell_setRow_gt:=@cell_setRow_gt
 have rfrozen_setRow_lt:=@frozen_setRow_lt
 have rfrozen_setRow_gt:=@frozen_setRow_gt
 go_enter Tryz.func411,Tryz.ntmps411
 go_wp2_with (first|(go_at_call 176;refine (between_c _ _ _ _  ).mono ?_;rintro e wa ⟨rfl,rfl⟩))
 all_goals
  go_ret
  refine⟨by first|rfl|(simp [*];done)|(simp [*];omega)|(simp_all [bq,bn];done)|(simp_all [bq,bn];omega),by rfl⟩
theorem indexOk_e (w:World) (c0_0:Int) :
  Calls Tryz.prog 412 #[.int .i64 c0_0] w (fun e w'=>e=.returned (.bool (inb c0_0 1 2000))∧w=w'):=by
 have rsize_setRow:=@size_setRow
 have rcell_setRow_lt:=@cell_setRow_lt
 have rcell_setRow_gt:=@cell_setRow_gt
 have rfrozen_setRow_lt:=@frozen_setRow_lt
 have rfrozen_setRow_gt:=@frozen_setRow_gt
 go_enter Tryz.func412,Tryz.ntmps412
 go_wp2_with (first|(go_at_call 176;refine (between_c _ _ _ _  ).mono ?_;rintro e wa ⟨rfl,rfl⟩))
 all_goals
  go_ret
  refine⟨by first|rfl|(simp [*];done)|(simp [*];omega)|(simp_all [bq,bn];done)|(simp_all [bq,bn];omega),by rfl⟩
theorem askerOk_e (w:World) (c0_0:Int) :
  Calls Tryz.prog 410 #[.int .i64 c0_0] w (fun e w'=>e=.returned (.bool (inb c0_0 2 5))∧w=w'):=by
 have rsize_setRow:=@size_setRow
 have rcell_setRow_lt:=@cell_setRow_lt
 have rcell_setRow_gt:=@cell_setRow_gt
 have rfrozen_setRow_lt:=@frozen_setRow_lt
 have rfrozen_setRow_gt:=@frozen_setRow_gt
 go_enter Tryz.func410,Tryz.ntmps410
 go_wp2_with (first|(go_at_call 176;refine (between_c _ _ _ _  ).mono ?_;rintro e wa ⟨rfl,rfl⟩))
 all_goals
  go_ret
  refine⟨by first|rfl|(simp [*];done)|(simp [*];omega)|(simp_all [bq,bn];done)|(simp_all [bq,bn];omega),by rfl⟩
theorem sOpOk_e (w:World) (c0_0:Int) (c0_1:Int) (c0_2:Int) (c0_3:Int) (c0_4:Int) :
  Calls Tryz.prog 321 #[.agg #[.int .i64 c0_0,.int .i64 c0_1,.int .i64 c0_2,.int .i64 c0_3,.int .i64 c0_4]] w (RetV w (.bool (opOk (⟨c0_0,c0_1,c0_2,c0_3,c0_4⟩:DOp)))):=by
 have rsize_setRow:=@size_setRow
 have rcell_setRow_lt:=@cell_setRow_lt
 have rcell_setRow_gt:=@cell_setRow_gt
 have rfrozen_setRow_lt:=@frozen_setRow_lt
 have rfrozen_setRow_gt:=@frozen_setRow_gt
 go_enter Tryz.func321,Tryz.ntmps321
 go_wp2_with (first|(go_at_call 322;refine (l7Key_e _ _  ).mono ?_;rintro e wa ⟨rfl,rfl⟩)|(go_at_call 324;refine (l7Value_e _ _  ).mono ?_;rintro e wb ⟨rfl,rfl⟩)|(go_at_call 391;refine (l7Id_e _ _  ).mono ?_;rintro e wc ⟨rfl,rfl⟩)|(go_at_call 207;refine (sTimeOk_c _ _  ).mono ?_;rintro e wd ⟨rfl,rfl⟩)|(go_at_call 303;refine (l1In_c _ _ _ _  ).mono ?_;rintro e we ⟨rfl,rfl⟩))
 all_goals
  go_ret
  refine⟨by first|rfl|(simp [opOk, *];done)|(simp [opOk, *];omega)|(simp_all [opOk,bq,bn];done)|(simp_all [opOk,bq,bn];omega),?_⟩
  exact xT
theorem opOk_e (w:World) (c0_0:Int) (c0_1:Int) (c0_2:Int) (c0_3:Int) (c0_4:Int) :
  Calls Tryz.prog 265 #[.agg #[.int .i64 c0_0,.int .i64 c0_1,.int .i64 c0_2,.int .i64 c0_3,.int .i64 c0_4]] w (RetV w (.bool (opOk (⟨c0_0,c0_1,c0_2,c0_3,c0_4⟩:DOp)))):=by
 have rsize_setRow:=@size_setRow
 have rcell_setRow_lt:=@cell_setRow_lt
 have rcell_setRow_gt:=@cell_setRow_gt
 have rfrozen_setRow_lt:=@frozen_setRow_lt
 have rfrozen_setRow_gt:=@frozen_setRow_gt
 go_enter Tryz.func265,Tryz.ntmps265
 go_wp2_with (first|(go_at_call 266;refine (keyOk_cP _ _  ).mono ?_;rintro e wa ⟨rfl,rfl⟩)|(go_at_call 346;refine (valueOk_cP _ _  ).mono ?_;rintro e wb ⟨rfl,rfl⟩)|(go_at_call 347;refine (idOk_c _ _  ).mono ?_;rintro e wc ⟨rfl,rfl⟩)|(go_at_call 177;refine (timeOk_c _ _  ).mono ?_;rintro e wd ⟨rfl,rfl⟩)|(go_at_call 176;refine (between_c _ _ _ _  ).mono ?_;rintro e we ⟨rfl,rfl⟩))
 all_goals
  go_ret
  refine⟨by first|rfl|(simp [opOk, *];done)|(simp [opOk, *];omega)|(simp_all [opOk,bq,bn];done)|(simp_all [opOk,bq,bn];omega),?_⟩
  exact xT
theorem sEntryOk_e (w:World) (c0_0:Int) (c0_1:Int) (c0_2:Int) (c0_3:Int) (c0_4:Int) (c0_5:Int) (c0_6:Int) (c0_7:Int) (c0_8:Int) :
  Calls Tryz.prog 327 #[.agg #[.int .i64 c0_0,.int .i64 c0_1,.int .i64 c0_2,.int .i64 c0_3,.int .i64 c0_4,.int .i64 c0_5,.int .i64 c0_6,.int .i64 c0_7,.int .i64 c0_8]] w (RetV w (.bool (entryOk (⟨c0_0,c0_1,c0_2,c0_3,⟨c0_4,c0_5,c0_6,c0_7,c0_8⟩⟩:DEntry)))):=by
 have rsize_setRow:=@size_setRow
 have rcell_setRow_lt:=@cell_setRow_lt
 have rcell_setRow_gt:=@cell_setRow_gt
 have rfrozen_setRow_lt:=@frozen_setRow_lt
 have rfrozen_setRow_gt:=@frozen_setRow_gt
 go_enter Tryz.func327,Tryz.ntmps327
 go_wp2_with (first|(go_at_call 392;refine (l7Index_e _ _  ).mono ?_;rintro e wa ⟨rfl,rfl⟩)|(go_at_call 207;refine (sTimeOk_c _ _  ).mono ?_;rintro e wb ⟨rfl,rfl⟩)|(go_at_call 393;refine (sAskerOk_e _ _  ).mono ?_;rintro e wc ⟨rfl,rfl⟩)|(go_at_call 394;refine (l7Seq_e _ _  ).mono ?_;rintro e wd ⟨rfl,rfl⟩)|(go_at_call 321;refine (sOpOk_e _ _ _ _ _ _  ).mono ?_;rintro e we ⟨rfl,hxe⟩;have hze:=hxe.size;(repeat (first|simp only [World.size_alloc] at hze|simp only [World.size_setCell] at hze|simp only [size_setRow] at hze));(try have hye_a_0:wa.heap.size<we.heap.size:=oM);(try have hye_a_1:wa.heap.size+1<we.heap.size:=oM);(try have hye_a_2:wa.heap.size+1+1<we.heap.size:=oM);(try have hye_b_0:wb.heap.size<we.heap.size:=oM);(try have hye_b_1:wb.heap.size+1<we.heap.size:=oM);(try have hye_b_2:wb.heap.size+1+1<we.heap.size:=oM);(try have hye_c_0:wc.heap.size<we.heap.size:=oM);(try have hye_c_1:wc.heap.size+1<we.heap.size:=oM);(try have hye_c_2:wc.heap.size+1+1<we.heap.size:=oM);(try have hye_d_0:wd.heap.size<we.heap.size:=oM);(try have hye_d_1:wd.heap.size+1<we.heap.size:=oM);(try have hye_d_2:wd.heap.size+1+1<we.heap.size:=oM);have Ke0:Blk we (w.heap.size) 281 _:=Blk.ext (by exact blkT) hxe;(try simp only [List.setIfInBounds_toArray,List.set_cons_zero,List.set_cons_succ] at Ke0);have CKe0:=Ke0.cell;have FKe0:=Ke0.frozen;have hye__0:w.heap.size<we.heap.size:=oM;(try (have Ke_a0:Blk we (wa.heap.size) _ _:=Blk.ext (by exact blkT) hxe;(try simp only [List.setIfInBounds_toArray,List.set_cons_zero,List.set_cons_succ] at Ke_a0);have CKe_a0:=Ke_a0.cell;have FKe_a0:=Ke_a0.frozen));(try (have Ke_a1:Blk we (wa.heap.size+1) _ _:=Blk.ext (by exact blkT) hxe;(try simp only [List.setIfInBounds_toArray,List.set_cons_zero,List.set_cons_succ] at Ke_a1);have CKe_a1:=Ke_a1.cell;have FKe_a1:=Ke_a1.frozen));(try (have Ke_a2:Blk we (wa.heap.size+1+1) _ _:=Blk.ext (by exact blkT) hxe;(try simp only [List.setIfInBounds_toArray,List.set_cons_zero,List.set_cons_succ] at Ke_a2);have CKe_a2:=Ke_a2.cell;have FKe_a2:=Ke_a2.frozen));(try (have Ke_b0:Blk we (wb.heap.size) _ _:=Blk.ext (by exact blkT) hxe;(try simp only [List.setIfInBounds_toArray,List.set_cons_zero,List.set_cons_succ] at Ke_b0);have CKe_b0:=Ke_b0.cell;have FKe_b0:=Ke_b0.frozen));(try (have Ke_b1:Blk we (wb.heap.size+1) _ _:=Blk.ext (by exact blkT) hxe;(try simp only [List.setIfInBounds_toArray,List.set_cons_zero,List.set_cons_succ] at Ke_b1);have CKe_b1:=Ke_b1.cell;have FKe_b1:=Ke_b1.frozen));(try (have Ke_b2:Blk we (wb.heap.size+1+1) _ _:=Blk.ext (by exact blkT) hxe;(try simp only [List.setIfInBounds_toArray,List.set_cons_zero,List.set_cons_succ] at Ke_b2);have CKe_b2:=Ke_b2.cell;have FKe_b2:=Ke_b2.frozen));(try (have Ke_c0:Blk we (wc.heap.size) _ _:=Blk.ext (by exact blkT) hxe;(try simp only [List.setIfInBounds_toArray,List.set_cons_zero,List.set_cons_succ] at Ke_c0);have CKe_c0:=Ke_c0.cell;have FKe_c0:=Ke_c0.frozen));(try (have Ke_c1:Blk we (wc.heap.size+1) _ _:=Blk.ext (by exact blkT) hxe;(try simp only [List.setIfInBounds_toArray,List.set_cons_zero,List.set_cons_succ] at Ke_c1);have CKe_c1:=Ke_c1.cell;have FKe_c1:=Ke_c1.frozen));(try (have Ke_c2:Blk we (wc.heap.size+1+1) _ _:=Blk.ext (by exact blkT) hxe;(try simp only [List.setIfInBounds_toArray,List.set_cons_zero,List.set_cons_succ] at Ke_c2);have CKe_c2:=Ke_c2.cell;have FKe_c2:=Ke_c2.frozen));(try (have Ke_d0:Blk we (wd.heap.size) _ _:=Blk.ext (by exact blkT) hxe;(try simp only [List.setIfInBounds_toArray,List.set_cons_zero,List.set_cons_succ] at Ke_d0);have CKe_d0:=Ke_d0.cell;have FKe_d0:=Ke_d0.frozen));(try (have Ke_d1:Blk we (wd.heap.size+1) _ _:=Blk.ext (by exact blkT) hxe;(try simp only [List.setIfInBounds_toArray,List.set_cons_zero,List.set_cons_succ] at Ke_d1);have CKe_d1:=Ke_d1.cell;have FKe_d1:=Ke_d1.frozen));(try (have Ke_d2:Blk we (wd.heap.size+1+1) _ _:=Blk.ext (by exact blkT) hxe;(try simp only [List.setIfInBounds_toArray,List.set_cons_zero,List.set_cons_succ] at Ke_d2);have CKe_d2:=Ke_d2.cell;have FKe_d2:=Ke_d2.frozen))))
 all_goals
  go_ret
  refine⟨by first|rfl|(simp [entryOk, *];done)|(simp [entryOk, *];omega)|(simp_all [entryOk,bq,bn];done)|(simp_all [entryOk,bq,bn];omega),?_⟩
  exact xT
theorem l1Max_e (w:World) (x y:Int):Calls Tryz.prog 414 #[.int .i64 x,.int .i64 y] w fun e w'=>e=.returned (.int .i64 (max x y))∧w=w':=by
 by_cases h:y<x
 ·
  go_enter Tryz.func414,Tryz.ntmps414
  go_wp2
  go_ret
  exact⟨by rw [show max x y=x by omega];rfl,rfl⟩
 go_enter Tryz.func414,Tryz.ntmps414
 go_wp2
 go_ret
 exact⟨by rw [show max x y=y by omega];rfl,rfl⟩
end Go.Proofs.YtkpmbocbbgocbaaGreat
namespace Go.G8
open Go.RowKit
theorem find_at {α:Type} {p:α→Bool} {l:List α} {k:Nat} {x:α} (hx:l[k]?=some x) (h:(l.take k).all (fun y=>!p y)=true) (hp:p x=true):l.find? p=some x:=by
 have hk:k<l.length:=(List.getElem?_eq_some_iff.1 hx).1
 have h1:l=l.take k ++ (x :: l.drop (k+1)):=by
  have h2:l.drop k=l[k] :: l.drop (k+1):=List.drop_eq_getElem_cons hk
  have h3:l[k]=x:=(List.getElem?_eq_some_iff.1 hx).2
  rw [h3] at h2
  rw [← h2,List.take_append_drop]
 have h4:(l.take k).find? p=none:=by
  rw [List.find?_eq_none]
  intro y hy
  have:=(List.all_eq_true.1 h) y hy
  simpa using this
 rw [h1,List.find?_append,h4]
 simp [hp]
theorem find_none {α:Type} {p:α→Bool} {l:List α} (h:l.all (fun y=>!p y)=true):l.find? p=none:=by
 rw [List.find?_eq_none]
 intro y hy
 have:=(List.all_eq_true.1 h) y hy
 simpa using this
theorem OwnI.set {B:Nat} {e:TypeId} {n:Nat} {w:World} {g len cap:Nat} {xs:List Int} (h:OwnI B e n w (.slice (some ⟨g,0,none⟩) len cap) xs) {i:Nat} (hi:i<xs.length) (x:Int) :
  OwnI B e n (w.setCell ⟨g,i,none⟩ (.int .i64 x)) (.slice (some ⟨g,0,none⟩) len cap) (xs.set i x):=by
 obtain⟨a,len',cap',e1,h0,h1,h2,h3⟩:=Own.open_ h
 injection e1 with e1 e2 e3
 subst e2;subst e3
 rcases h3 with h3|⟨g',cur,e4,hB,hG,hs,hp⟩
 ·
  subst h3
  simp at h0
  rw [h0] at hi;simp at hi
 rw [e4] at e1
 injection e1 with e1;injection e1 with e1
 subst e1
 refine Own.of_blk (hG.set_ i _) hB (by simpa using hs) (by simpa using h0) h1 h2 (fun j hj=>?_)
 rw [Array.getElem?_setIfInBounds,List.map_set,List.getElem?_set]
 have hl:len * n=xs.length:=by simpa using h0.symm
 have hc:len * n≤cap * n:=Nat.mul_le_mul_right _ h1
 by_cases hij:i=j
 ·
  subst hij
  rw [if_pos rfl,if_pos rfl,if_pos oM,if_pos (by simpa using hi)]
 rw [if_neg hij,if_neg hij]
 exact hp j hj
end Go.G8
namespace Go.Proofs.YtkpmbocbbgocbaaGreat
open Go.RowKit Go.G8
theorem sStateOk_k {w:World} {v:Value} {s:DState} (h:RdState w v s):Calls Tryz.prog 316 #[v] w (RetV w (.bool (stateOk s))):=by
 obtain⟨t2,t3,rfl,h2,h3⟩:=h
 exact sStateOk_c w _ _ _ _ _ _ _ _ _ h2 h3
end Go.Proofs.YtkpmbocbbgocbaaGreat
