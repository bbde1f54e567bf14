/- Ef Gr Gt Rd1 SP SJ SJ2 Nx Fi Eo ApM PJ JA Fi2 JF Gt2. -/
import Derived.Test.YtkpmbocbbgocbaaGreatPGf
set_option linter.unusedSimpArgs false
set_option linter.unusedVariables false
set_option maxHeartbeats 8000000
set_option maxRecDepth 100000
namespace Go.Proofs.YtkpmbocbbgocbaaGreat
open Go.RowKit Go.G8
section
open Go.RowKit Go.Proofs.YtkpmbocbbgocbaaGreat
def low{α:Type}(key:α->Int)(x:Int)(l:List α):List α:=l.filter (fun a=>decide (key a<x))
def at_{α:Type}(key:α->Int)(x:Int)(l:List α):Option α:=l.find? (fun a=>decide (key a=x))
section
variable {α:Type} {key:α->Int} {l:List α} {x:Int} {k:Nat}
end
def cE5(l:MQ)(who epoch time:Int):Bool:=IA l&&(decide (l.Holder≠0)&&(decide (l.Holder=who)&&(decide (l.Epoch=epoch)&&(wZ time&&decide (time<l.Until)))))
def wN(e:Bj):Bool:=inb e.Index 1 2000&&(wZ e.Time&&(inb e.Client 2 5&&(inb e.Seq 1 2000&&NC e.Op)))
def cX4(s:BU)(e:Bj):Bool:=decide (e.Op.Kind=4)&&(match at_ DI.Id e.Op.A s.Jobs with|some j=>decide (j.Fired=0)&&(decide (j.Due<=e.Time)&&cE5 s.Lease e.Client e.Op.B e.Time)|none=>false)
theorem UU{e:Bj}(h:wN e=true):1<=e.Index/\e.Index<=2000/\wZ e.Time=true/\NC e.Op=true:=by
 simp only[wN,Bool.and_eq_true] at h
 have:=AO.1 h.1
 exact⟨this.1,this.2,h.2.1,h.2.2.2.2⟩
end
theorem bB2(w:World)(Ay:Int):Calls Tryz.prog 322 #[.int .i64 Ay] w (fun e w'=>e=.returned (.bool (inb Ay 0 9))/\w=w'):=by
 have rr:=JM
 go_enter Tryz.func322,Tryz.ntmps322
 go_wp2_with (first|(go_at_call 303;refine(wR _ _ _ _  ).mono ?_;rintro e wa ⟨rfl,rfl⟩))
 all_goals
  go_ret
  refine⟨by first|rfl|(simp[*];done)|(simp[*];omega)|(simp_all [bq,bn];done)|(simp_all [bq,bn];omega),by rfl⟩
theorem aF6(w:World)(Ay:Int):Calls Tryz.prog 324 #[.int .i64 Ay] w (fun e w'=>e=.returned (.bool (inb Ay 0 999))/\w=w'):=by
 have rr:=JM
 go_enter Tryz.func324,Tryz.ntmps324
 go_wp2_with (first|(go_at_call 303;refine(wR _ _ _ _  ).mono ?_;rintro e wa ⟨rfl,rfl⟩))
 all_goals
  go_ret
  refine⟨by first|rfl|(simp[*];done)|(simp[*];omega)|(simp_all [bq,bn];done)|(simp_all [bq,bn];omega),by rfl⟩
theorem cJ7(w:World)(Ay:Int):Calls Tryz.prog 391 #[.int .i64 Ay] w (fun e w'=>e=.returned (.bool (SS Ay))/\w=w'):=by
 have rr:=JM
 go_enter Tryz.func391,Tryz.ntmps391
 go_wp2_with (first|(go_at_call 303;refine(wR _ _ _ _  ).mono ?_;rintro e wa ⟨rfl,rfl⟩))
 all_goals
  go_ret
  refine⟨by first|rfl|(simp[SS, *];done)|(simp[SS, *];omega)|(simp_all [SS,bq,bn];done)|(simp_all [SS,bq,bn];omega),by rfl⟩
theorem aJ7(w:World)(Ay:Int):Calls Tryz.prog 394 #[.int .i64 Ay] w (fun e w'=>e=.returned (.bool (inb Ay 1 2000))/\w=w'):=by
 have rr:=JM
 go_enter Tryz.func394,Tryz.ntmps394
 go_wp2_with (first|(go_at_call 303;refine(wR _ _ _ _  ).mono ?_;rintro e wa ⟨rfl,rfl⟩))
 all_goals
  go_ret
  refine⟨by first|rfl|(simp[*];done)|(simp[*];omega)|(simp_all [bq,bn];done)|(simp_all [bq,bn];omega),by rfl⟩
theorem aF7(w:World)(Ay:Int):Calls Tryz.prog 392 #[.int .i64 Ay] w (fun e w'=>e=.returned (.bool (inb Ay 1 2000))/\w=w'):=by
 have rr:=JM
 go_enter Tryz.func392,Tryz.ntmps392
 go_wp2_with (first|(go_at_call 303;refine(wR _ _ _ _  ).mono ?_;rintro e wa ⟨rfl,rfl⟩))
 all_goals
  go_ret
  refine⟨by first|rfl|(simp[*];done)|(simp[*];omega)|(simp_all [bq,bn];done)|(simp_all [bq,bn];omega),by rfl⟩
theorem VK(w:World)(Ay:Int):Calls Tryz.prog 393 #[.int .i64 Ay] w (fun e w'=>e=.returned (.bool (inb Ay 2 5))/\w=w'):=by
 have rr:=JM
 go_enter Tryz.func393,Tryz.ntmps393
 go_wp2_with (first|(go_at_call 303;refine(wR _ _ _ _  ).mono ?_;rintro e wa ⟨rfl,rfl⟩))
 all_goals
  go_ret
  refine⟨by first|rfl|(simp[*];done)|(simp[*];omega)|(simp_all [bq,bn];done)|(simp_all [bq,bn];omega),by rfl⟩
theorem UN(w:World)(Ay:Int):Calls Tryz.prog 411 #[.int .i64 Ay] w (fun e w'=>e=.returned (.bool (inb Ay 1 2000))/\w=w'):=by
 have rr:=JM
 go_enter Tryz.func411,Tryz.ntmps411
 go_wp2_with (first|(go_at_call 176;refine(Og _ _ _ _  ).mono ?_;rintro e wa ⟨rfl,rfl⟩))
 all_goals
  go_ret
  refine⟨by first|rfl|(simp[*];done)|(simp[*];omega)|(simp_all [bq,bn];done)|(simp_all [bq,bn];omega),by rfl⟩
theorem OV(w:World)(Ay:Int):Calls Tryz.prog 412 #[.int .i64 Ay] w (fun e w'=>e=.returned (.bool (inb Ay 1 2000))/\w=w'):=by
 have rr:=JM
 go_enter Tryz.func412,Tryz.ntmps412
 go_wp2_with (first|(go_at_call 176;refine(Og _ _ _ _  ).mono ?_;rintro e wa ⟨rfl,rfl⟩))
 all_goals
  go_ret
  refine⟨by first|rfl|(simp[*];done)|(simp[*];omega)|(simp_all [bq,bn];done)|(simp_all [bq,bn];omega),by rfl⟩
theorem OW(w:World)(Ay:Int):Calls Tryz.prog 410 #[.int .i64 Ay] w (fun e w'=>e=.returned (.bool (inb Ay 2 5))/\w=w'):=by
 have rr:=JM
 go_enter Tryz.func410,Tryz.ntmps410
 go_wp2_with (first|(go_at_call 176;refine(Og _ _ _ _  ).mono ?_;rintro e wa ⟨rfl,rfl⟩))
 all_goals
  go_ret
  refine⟨by first|rfl|(simp[*];done)|(simp[*];omega)|(simp_all [bq,bn];done)|(simp_all [bq,bn];omega),by rfl⟩
theorem aJ8(w:World)(Ay:Int)(Ce:Int)(Uu:Int)(wY:Int)(Em:Int):Calls Tryz.prog 321 #[.agg #[.int .i64 Ay,.int .i64 Ce,.int .i64 Uu,.int .i64 wY,.int .i64 Em]] w (Fz w (.bool (NC (⟨Ay,Ce,Uu,wY,Em⟩:DOp)))):=by
 have rr:=JM
 go_enter Tryz.func321,Tryz.ntmps321
 go_wp2_with (first|(go_at_call 322;refine(bB2 _ _  ).mono ?_;rintro e wa ⟨rfl,rfl⟩)|(go_at_call 324;refine(aF6 _ _  ).mono ?_;rintro e wb ⟨rfl,rfl⟩)|(go_at_call 391;refine(cJ7 _ _  ).mono ?_;rintro e wc ⟨rfl,rfl⟩)|(go_at_call 207;refine(BK _ _  ).mono ?_;rintro e wd ⟨rfl,rfl⟩)|(go_at_call 303;refine(wR _ _ _ _  ).mono ?_;rintro e we ⟨rfl,rfl⟩))
 all_goals
  go_ret
  refine⟨by first|rfl|(simp[NC, *];done)|(simp[NC, *];omega)|(simp_all [NC,bq,bn];done)|(simp_all [NC,bq,bn];omega),?_⟩
  exact xT
theorem bR4(w:World)(Ay:Int)(Ce:Int)(Uu:Int)(wY:Int)(Em:Int):Calls Tryz.prog 265 #[.agg #[.int .i64 Ay,.int .i64 Ce,.int .i64 Uu,.int .i64 wY,.int .i64 Em]] w (Fz w (.bool (NC (⟨Ay,Ce,Uu,wY,Em⟩:DOp)))):=by
 have rr:=JM
 go_enter Tryz.func265,Tryz.ntmps265
 go_wp2_with (first|(go_at_call 266;refine(WA _ _  ).mono ?_;rintro e wa ⟨rfl,rfl⟩)|(go_at_call 346;refine(RN _ _  ).mono ?_;rintro e wb ⟨rfl,rfl⟩)|(go_at_call 347;refine(VG _ _  ).mono ?_;rintro e wc ⟨rfl,rfl⟩)|(go_at_call 177;refine(AT _ _  ).mono ?_;rintro e wd ⟨rfl,rfl⟩)|(go_at_call 176;refine(Og _ _ _ _  ).mono ?_;rintro e we ⟨rfl,rfl⟩))
 all_goals
  go_ret
  refine⟨by first|rfl|(simp[NC, *];done)|(simp[NC, *];omega)|(simp_all [NC,bq,bn];done)|(simp_all [NC,bq,bn];omega),?_⟩
  exact xT
theorem NF(w:World)(Ay:Int)(Ce:Int)(Uu:Int)(wY:Int)(Em:Int)(Ga:Int)(Ih:Int)(XU:Int)(Py:Int):Calls Tryz.prog 327 #[.agg #[.int .i64 Ay,.int .i64 Ce,.int .i64 Uu,.int .i64 wY,.int .i64 Em,.int .i64 Ga,.int .i64 Ih,.int .i64 XU,.int .i64 Py]] w (Fz w (.bool (wN (⟨Ay,Ce,Uu,wY,⟨Em,Ga,Ih,XU,Py⟩⟩:Bj)))):=by
 have rr:=JM
 go_enter Tryz.func327,Tryz.ntmps327
 go_wp2_with (first|(go_at_call 392;refine(aF7 _ _  ).mono ?_;rintro e wa ⟨rfl,rfl⟩)|(go_at_call 207;refine(BK _ _  ).mono ?_;rintro e wb ⟨rfl,rfl⟩)|(go_at_call 393;refine(VK _ _  ).mono ?_;rintro e wc ⟨rfl,rfl⟩)|(go_at_call 394;refine(aJ7 _ _  ).mono ?_;rintro e wd ⟨rfl,rfl⟩)|(go_at_call 321;refine(aJ8 _ _ _ _ _ _  ).mono ?_;rintro e we ⟨rfl,hxe⟩;have hze:=hxe.size;(repeat (first|simp only[World.size_alloc] at hze|simp only[World.size_setCell] at hze|simp only[wV] at hze));(try have hye_a_0:wa.heap.size<we.heap.size:=oM);(try have hye_a_1:wa.heap.size+1<we.heap.size:=oM);(try have hye_a_2:wa.heap.size+1+1<we.heap.size:=oM);(try have hye_b_0:wb.heap.size<we.heap.size:=oM);(try have hye_b_1:wb.heap.size+1<we.heap.size:=oM);(try have hye_b_2:wb.heap.size+1+1<we.heap.size:=oM);(try have hye_c_0:wc.heap.size<we.heap.size:=oM);(try have hye_c_1:wc.heap.size+1<we.heap.size:=oM);(try have hye_c_2:wc.heap.size+1+1<we.heap.size:=oM);(try have hye_d_0:wd.heap.size<we.heap.size:=oM);(try have hye_d_1:wd.heap.size+1<we.heap.size:=oM);(try have hye_d_2:wd.heap.size+1+1<we.heap.size:=oM);have Ke0:Blk we (w.heap.size) 281 _:=Blk.ext (by exact wJ) hxe;(try simp only[EP] at Ke0);have CKe0:=Ke0.cell;have FKe0:=Ke0.frozen;have hye__0:w.heap.size<we.heap.size:=oM;(try(have Ke_a0:Blk we (wa.heap.size) _ _:=Blk.ext (by exact wJ) hxe;(try simp only[EP] at Ke_a0);have CKe_a0:=Ke_a0.cell;have FKe_a0:=Ke_a0.frozen));(try(have Ke_a1:Blk we (wa.heap.size+1) _ _:=Blk.ext (by exact wJ) hxe;(try simp only[EP] at Ke_a1);have CKe_a1:=Ke_a1.cell;have FKe_a1:=Ke_a1.frozen));(try(have Ke_a2:Blk we (wa.heap.size+1+1) _ _:=Blk.ext (by exact wJ) hxe;(try simp only[EP] at Ke_a2);have CKe_a2:=Ke_a2.cell;have FKe_a2:=Ke_a2.frozen));(try(have Ke_b0:Blk we (wb.heap.size) _ _:=Blk.ext (by exact wJ) hxe;(try simp only[EP] at Ke_b0);have CKe_b0:=Ke_b0.cell;have FKe_b0:=Ke_b0.frozen));(try(have Ke_b1:Blk we (wb.heap.size+1) _ _:=Blk.ext (by exact wJ) hxe;(try simp only[EP] at Ke_b1);have CKe_b1:=Ke_b1.cell;have FKe_b1:=Ke_b1.frozen));(try(have Ke_b2:Blk we (wb.heap.size+1+1) _ _:=Blk.ext (by exact wJ) hxe;(try simp only[EP] at Ke_b2);have CKe_b2:=Ke_b2.cell;have FKe_b2:=Ke_b2.frozen));(try(have Ke_c0:Blk we (wc.heap.size) _ _:=Blk.ext (by exact wJ) hxe;(try simp only[EP] at Ke_c0);have CKe_c0:=Ke_c0.cell;have FKe_c0:=Ke_c0.frozen));(try(have Ke_c1:Blk we (wc.heap.size+1) _ _:=Blk.ext (by exact wJ) hxe;(try simp only[EP] at Ke_c1);have CKe_c1:=Ke_c1.cell;have FKe_c1:=Ke_c1.frozen));(try(have Ke_c2:Blk we (wc.heap.size+1+1) _ _:=Blk.ext (by exact wJ) hxe;(try simp only[EP] at Ke_c2);have CKe_c2:=Ke_c2.cell;have FKe_c2:=Ke_c2.frozen));(try(have Ke_d0:Blk we (wd.heap.size) _ _:=Blk.ext (by exact wJ) hxe;(try simp only[EP] at Ke_d0);have CKe_d0:=Ke_d0.cell;have FKe_d0:=Ke_d0.frozen));(try(have Ke_d1:Blk we (wd.heap.size+1) _ _:=Blk.ext (by exact wJ) hxe;(try simp only[EP] at Ke_d1);have CKe_d1:=Ke_d1.cell;have FKe_d1:=Ke_d1.frozen));(try(have Ke_d2:Blk we (wd.heap.size+1+1) _ _:=Blk.ext (by exact wJ) hxe;(try simp only[EP] at Ke_d2);have CKe_d2:=Ke_d2.cell;have FKe_d2:=Ke_d2.frozen))))
 all_goals
  go_ret
  refine⟨by first|rfl|(simp[wN, *];done)|(simp[wN, *];omega)|(simp_all [wN,bq,bn];done)|(simp_all [wN,bq,bn];omega),?_⟩
  exact xT
theorem NG(w:World)(Ay:Int)(Ce:Int)(Uu:Int)(wY:Int)(Em:Int)(Ga:Int)(Ih:Int)(XU:Int)(Py:Int):Calls Tryz.prog 361 #[.agg #[.int .i64 Ay,.int .i64 Ce,.int .i64 Uu,.int .i64 wY,.int .i64 Em,.int .i64 Ga,.int .i64 Ih,.int .i64 XU,.int .i64 Py]] w (Fz w (.bool (wN (⟨Ay,Ce,Uu,wY,⟨Em,Ga,Ih,XU,Py⟩⟩:Bj)))):=by
 have rr:=JM
 go_enter Tryz.func361,Tryz.ntmps361
 go_wp2_with (first|(go_at_call 412;refine(OV _ _  ).mono ?_;rintro e wa ⟨rfl,rfl⟩)|(go_at_call 177;refine(AT _ _  ).mono ?_;rintro e wb ⟨rfl,rfl⟩)|(go_at_call 410;refine(OW _ _  ).mono ?_;rintro e wc ⟨rfl,rfl⟩)|(go_at_call 411;refine(UN _ _  ).mono ?_;rintro e wd ⟨rfl,rfl⟩)|(go_at_call 265;refine(bR4 _ _ _ _ _ _  ).mono ?_;rintro e we ⟨rfl,hxe⟩;have hze:=hxe.size;(repeat (first|simp only[World.size_alloc] at hze|simp only[World.size_setCell] at hze|simp only[wV] at hze));(try have hye_a_0:wa.heap.size<we.heap.size:=oM);(try have hye_a_1:wa.heap.size+1<we.heap.size:=oM);(try have hye_a_2:wa.heap.size+1+1<we.heap.size:=oM);(try have hye_b_0:wb.heap.size<we.heap.size:=oM);(try have hye_b_1:wb.heap.size+1<we.heap.size:=oM);(try have hye_b_2:wb.heap.size+1+1<we.heap.size:=oM);(try have hye_c_0:wc.heap.size<we.heap.size:=oM);(try have hye_c_1:wc.heap.size+1<we.heap.size:=oM);(try have hye_c_2:wc.heap.size+1+1<we.heap.size:=oM);(try have hye_d_0:wd.heap.size<we.heap.size:=oM);(try have hye_d_1:wd.heap.size+1<we.heap.size:=oM);(try have hye_d_2:wd.heap.size+1+1<we.heap.size:=oM);have Ke0:Blk we (w.heap.size) 281 _:=Blk.ext (by exact wJ) hxe;(try simp only[EP] at Ke0);have CKe0:=Ke0.cell;have FKe0:=Ke0.frozen;have hye__0:w.heap.size<we.heap.size:=oM;(try(have Ke_a0:Blk we (wa.heap.size) _ _:=Blk.ext (by exact wJ) hxe;(try simp only[EP] at Ke_a0);have CKe_a0:=Ke_a0.cell;have FKe_a0:=Ke_a0.frozen));(try(have Ke_a1:Blk we (wa.heap.size+1) _ _:=Blk.ext (by exact wJ) hxe;(try simp only[EP] at Ke_a1);have CKe_a1:=Ke_a1.cell;have FKe_a1:=Ke_a1.frozen));(try(have Ke_a2:Blk we (wa.heap.size+1+1) _ _:=Blk.ext (by exact wJ) hxe;(try simp only[EP] at Ke_a2);have CKe_a2:=Ke_a2.cell;have FKe_a2:=Ke_a2.frozen));(try(have Ke_b0:Blk we (wb.heap.size) _ _:=Blk.ext (by exact wJ) hxe;(try simp only[EP] at Ke_b0);have CKe_b0:=Ke_b0.cell;have FKe_b0:=Ke_b0.frozen));(try(have Ke_b1:Blk we (wb.heap.size+1) _ _:=Blk.ext (by exact wJ) hxe;(try simp only[EP] at Ke_b1);have CKe_b1:=Ke_b1.cell;have FKe_b1:=Ke_b1.frozen));(try(have Ke_b2:Blk we (wb.heap.size+1+1) _ _:=Blk.ext (by exact wJ) hxe;(try simp only[EP] at Ke_b2);have CKe_b2:=Ke_b2.cell;have FKe_b2:=Ke_b2.frozen));(try(have Ke_c0:Blk we (wc.heap.size) _ _:=Blk.ext (by exact wJ) hxe;(try simp only[EP] at Ke_c0);have CKe_c0:=Ke_c0.cell;have FKe_c0:=Ke_c0.frozen));(try(have Ke_c1:Blk we (wc.heap.size+1) _ _:=Blk.ext (by exact wJ) hxe;(try simp only[EP] at Ke_c1);have CKe_c1:=Ke_c1.cell;have FKe_c1:=Ke_c1.frozen));(try(have Ke_c2:Blk we (wc.heap.size+1+1) _ _:=Blk.ext (by exact wJ) hxe;(try simp only[EP] at Ke_c2);have CKe_c2:=Ke_c2.cell;have FKe_c2:=Ke_c2.frozen));(try(have Ke_d0:Blk we (wd.heap.size) _ _:=Blk.ext (by exact wJ) hxe;(try simp only[EP] at Ke_d0);have CKe_d0:=Ke_d0.cell;have FKe_d0:=Ke_d0.frozen));(try(have Ke_d1:Blk we (wd.heap.size+1) _ _:=Blk.ext (by exact wJ) hxe;(try simp only[EP] at Ke_d1);have CKe_d1:=Ke_d1.cell;have FKe_d1:=Ke_d1.frozen));(try(have Ke_d2:Blk we (wd.heap.size+1+1) _ _:=Blk.ext (by exact wJ) hxe;(try simp only[EP] at Ke_d2);have CKe_d2:=Ke_d2.cell;have FKe_d2:=Ke_d2.frozen))))
 all_goals
  go_ret
  refine⟨by first|rfl|(simp[wN, *];done)|(simp[wN, *];omega)|(simp_all [wN,bq,bn];done)|(simp_all [wN,bq,bn];omega),?_⟩
  exact xT
theorem cE6(w:World)(x y:Int):Calls Tryz.prog 414 #[.int .i64 x,.int .i64 y] w fun e w'=>e=.returned (.int .i64 (max x y))/\w=w':=by
 by_cases h:y<x
 .
  go_enter Tryz.func414,Tryz.ntmps414
  go_wp2
  go_ret
  exact⟨by rw[show max x y=x by omega];rfl,rfl⟩
 go_enter Tryz.func414,Tryz.ntmps414
 go_wp2
 go_ret
 exact⟨by rw[show max x y=y by omega];rfl,rfl⟩
theorem cE7{α:Type}{p:α->Bool}{l:List α}{k:Nat}{x:α}(hx:l[k]?=some x)(h:(l.take k).all (fun y=>!p y)=true)(hp:p x=true):l.find? p=some x:=by
 have hk:k<l.length:=(List.getElem?_eq_some_iff.1 hx).1
 have h1:l=l.take k++(x::l.drop (k+1)):=by
  have h2:l.drop k=l[k]::l.drop (k+1):=List.drop_eq_getElem_cons hk
  have h3:l[k]=x:=(List.getElem?_eq_some_iff.1 hx).2
  rw[h3] at h2
  rw[<-h2,List.take_append_drop]
 have h4:(l.take k).find? p=none:=by
  rw[List.find?_eq_none]
  intro y hy
  have:=(List.all_eq_true.1 h) y hy
  simpa using this
 rw[h1,List.find?_append,h4]
 simp[hp]
theorem bG8{α:Type}{p:α->Bool}{l:List α}(h:l.all (fun y=>!p y)=true):l.find? p=none:=by
 rw[List.find?_eq_none]
 intro y hy
 have:=(List.all_eq_true.1 h) y hy
 simpa using this
theorem Ba.set{B:Nat}{e:TypeId}{n:Nat}{w:World}{g len cap:Nat}{xs:List Int}(h:Ba B e n w (.slice (some ⟨g,0,none⟩) len cap) xs){i:Nat}(hi:i<xs.length)(x:Int):Ba B e n (w.setCell ⟨g,i,none⟩ (.int .i64 x)) (.slice (some ⟨g,0,none⟩) len cap) (xs.set i x):=by
 obtain⟨a,len',cap',e1,h0,h1,h2,h3⟩:=Own.open_ h
 injection e1 with e1 e2 e3
 subst e2;subst e3
 rcases h3 with h3|⟨g',cur,e4,hB,hG,hs,hp⟩
 .
  subst h3
  simp at h0
  rw[h0] at hi;simp at hi
 rw[e4] at e1
 injection e1 with e1;injection e1 with e1
 subst e1
 refine Own.of_blk (hG.set_ i _) hB (by simpa using hs) (by simpa using h0) h1 h2 (fun j hj=>?_)
 rw[Array.getElem?_setIfInBounds,List.map_set,List.getElem?_set]
 have hl:len*n=xs.length:=by simpa using h0.symm
 have hc:len*n<=cap*n:=Nat.mul_le_mul_right _ h1
 by_cases hij:i=j
 .
  subst hij
  rw[if_pos rfl,if_pos rfl,if_pos oM,if_pos (by simpa using hi)]
 rw[if_neg hij,if_neg hij]
 exact hp j hj
theorem aA4{w:World}{v:Value}{s:BU}(h:LZ w v s):Calls Tryz.prog 316 #[v] w (Fz w (.bool (EA s))):=by
 obtain⟨t2,t3,rfl,h2,h3⟩:=h
 exact VJ w _ _ _ _ _ _ _ _ _ h2 h3
theorem aF8{w:World}{v:Value}{s:BU}(h:LZ w v s):Calls Tryz.prog 242 #[v] w (Fz w (.bool (EA s))):=by
 obtain⟨t2,t3,rfl,h2,h3⟩:=h
 exact XE w _ _ _ _ _ _ _ _ _ h2 h3
end Go.Proofs.YtkpmbocbbgocbaaGreat
