/- Ef Rd1 SP SJ SJ2 Gr Nx Fi Gt Eo ApM PJ JA Fi2 JF Gt2. -/
import Derived.Test.YtkpmbocbbgocbaaGreatQGf
set_option linter.unusedSimpArgs false
set_option linter.unusedVariables false
set_option maxHeartbeats 8000000
set_option maxRecDepth 100000
namespace Go.Proofs.YtkpmbocbbgocbaaGreat
open Go.RowKit Go.G8
section
open Go.RowKit Go.Proofs.YtkpmbocbbgocbaaGreat
def low{α:Type}(key:α->Int)(x:Int)(l:List α):List α:=l.filter (fun a=>decide (key a<x))
def at_{α:Type}(key:α->Int)(x:Int)(l:List α):Option α:=l.find? (fun a=>decide (key a=x))
section
variable {α:Type} {key:α->Int} {l:List α} {x:Int} {k:Nat}
end
def sV(l:Na)(who epoch time:Int):Bool:=Jj l&&(decide (l.Holder≠0)&&(decide (l.Holder=who)&&(decide (l.Epoch=epoch)&&(Ea time&&decide (time<l.Until)))))
def Dt(e:Aq):Bool:=inb e.Index 1 2000&&(Ea e.Time&&(inb e.Client 2 5&&(inb e.Seq 1 2000&&Nn e.Op)))
def xN(s:Fl)(e:Aq):Bool:=decide (e.Op.Kind=4)&&(match at_ Hl.Id e.Op.A s.Jobs with|some j=>decide (j.Fired=0)&&(decide (j.Due<=e.Time)&&sV s.Lease e.Client e.Op.B e.Time)|none=>false)
theorem Uu{e:Aq}(h:Dt e=true):1<=e.Index/\e.Index<=2000/\Ea e.Time=true/\Nn e.Op=true:=by
 simp only[Dt,Bool.and_eq_true] at h
 have:=Dz.1 h.1
 exact⟨this.1,this.2,h.2.1,h.2.2.2.2⟩
theorem sW{α:Type}{p:α->Bool}{l:List α}{k:Nat}{x:α}(hx:l[k]?=some x)(h:(l.take k).all (fun y=>!p y)=true)(hp:p x=true):l.find? p=some x:=by
 have hk:k<l.length:=(List.getElem?_eq_some_iff.1 hx).1
 have h1:l=l.take k++(x::l.drop (k+1)):=by
  have h2:l.drop k=l[k]::l.drop (k+1):=List.drop_eq_getElem_cons hk
  have h3:l[k]=x:=(List.getElem?_eq_some_iff.1 hx).2
  rw[h3] at h2
  rw[<-h2,List.take_append_drop]
 have h4:(l.take k).find? p=none:=by
  rw[List.find?_eq_none]
  intro y hy
  have:=(List.all_eq_true.1 h) y hy
  simpa using this
 rw[h1,List.find?_append,h4]
 simp[hp]
theorem nO{α:Type}{p:α->Bool}{l:List α}(h:l.all (fun y=>!p y)=true):l.find? p=none:=by
 rw[List.find?_eq_none]
 intro y hy
 have:=(List.all_eq_true.1 h) y hy
 simpa using this
theorem Af.lit0(w:World)(e:TypeId)(n:Nat):Af w.heap.size e n (w.alloc (.cells #[] e)) (.slice (some ⟨w.heap.size,0,none⟩) 0 0) [] :=
 Own.of_blk (cap:=0) (Blk.new w e #[]) (Nat.le_refl _) (by simp) (by simp) (Nat.le_refl _) dC (fun j hj=>by rw[Nat.zero_mul] at hj;omega)
theorem Sl.oneAt(w:World)(cur:Array Value)(t:TypeId)(n b:Nat)(hb:b=w.heap.size)(hn:cur.size=n):Sl n (w.alloc (.cells cur t)) (.slice (some ⟨b,0,none⟩) 1 1) cur.toList:=by
 subst hb;exact Sl.one w cur t n hn
theorem Af.set{B:Nat}{e:TypeId}{n:Nat}{w:World}{g len cap:Nat}{xs:List Int}(h:Af B e n w (.slice (some ⟨g,0,none⟩) len cap) xs){i:Nat}(hi:i<xs.length)(x:Int):Af B e n (w.setCell ⟨g,i,none⟩ (.int .i64 x)) (.slice (some ⟨g,0,none⟩) len cap) (xs.set i x):=by
 obtain⟨a,len',cap',e1,h0,h1,h2,h3⟩:=Own.open_ h
 injection e1 with e1 e2 e3
 subst e2;subst e3
 rcases h3 with h3|⟨g',cur,e4,hB,hG,hs,hp⟩
 .
  subst h3
  simp at h0
  rw[h0] at hi;simp at hi
 rw[e4] at e1
 injection e1 with e1;injection e1 with e1
 subst e1
 refine Own.of_blk (hG.set_ i _) hB (by simpa using hs) (by simpa using h0) h1 h2 (fun j hj=>?_)
 rw[Array.getElem?_setIfInBounds,List.map_set,List.getElem?_set]
 have hl:len*n=xs.length:=by simpa using h0.symm
 have hc:len*n<=cap*n:=Nat.mul_le_mul_right _ h1
 by_cases hij:i=j
 .
  subst hij
  rw[if_pos rfl,if_pos rfl,if_pos oM,if_pos (by simpa using hi)]
 rw[if_neg hij,if_neg hij]
 exact hp j hj
end
theorem mJ(w:World)(Ae:Int):Calls Tryz.prog 322 #[.int .i64 Ae] w (fun e w'=>e=.returned (.bool (inb Ae 0 9))/\w=w'):=by
 have rr:=Lc
 go_enter Tryz.func322,Tryz.ntmps322
 go_wp2_with (first|(go_at_call 303;refine(Dv _ _ _ _  ).mono ?_;rintro e wa ⟨rfl,rfl⟩))
 all_goals
  go_ret
  refine⟨by first|rfl|(simp[*];done)|(simp[*];omega)|(simp_all [bq,bn];done)|(simp_all [bq,bn];omega),by rfl⟩
theorem cS(w:World)(Ae:Int):Calls Tryz.prog 324 #[.int .i64 Ae] w (fun e w'=>e=.returned (.bool (inb Ae 0 999))/\w=w'):=by
 have rr:=Lc
 go_enter Tryz.func324,Tryz.ntmps324
 go_wp2_with (first|(go_at_call 303;refine(Dv _ _ _ _  ).mono ?_;rintro e wa ⟨rfl,rfl⟩))
 all_goals
  go_ret
  refine⟨by first|rfl|(simp[*];done)|(simp[*];omega)|(simp_all [bq,bn];done)|(simp_all [bq,bn];omega),by rfl⟩
theorem uR(w:World)(Ae:Int):Calls Tryz.prog 391 #[.int .i64 Ae] w (fun e w'=>e=.returned (.bool (Te Ae))/\w=w'):=by
 have rr:=Lc
 go_enter Tryz.func391,Tryz.ntmps391
 go_wp2_with (first|(go_at_call 303;refine(Dv _ _ _ _  ).mono ?_;rintro e wa ⟨rfl,rfl⟩))
 all_goals
  go_ret
  refine⟨by first|rfl|(simp[Te, *];done)|(simp[Te, *];omega)|(simp_all [Te,bq,bn];done)|(simp_all [Te,bq,bn];omega),by rfl⟩
theorem eM(w:World)(Ae:Int):Calls Tryz.prog 394 #[.int .i64 Ae] w (fun e w'=>e=.returned (.bool (inb Ae 1 2000))/\w=w'):=by
 have rr:=Lc
 go_enter Tryz.func394,Tryz.ntmps394
 go_wp2_with (first|(go_at_call 303;refine(Dv _ _ _ _  ).mono ?_;rintro e wa ⟨rfl,rfl⟩))
 all_goals
  go_ret
  refine⟨by first|rfl|(simp[*];done)|(simp[*];omega)|(simp_all [bq,bn];done)|(simp_all [bq,bn];omega),by rfl⟩
theorem cT(w:World)(Ae:Int):Calls Tryz.prog 392 #[.int .i64 Ae] w (fun e w'=>e=.returned (.bool (inb Ae 1 2000))/\w=w'):=by
 have rr:=Lc
 go_enter Tryz.func392,Tryz.ntmps392
 go_wp2_with (first|(go_at_call 303;refine(Dv _ _ _ _  ).mono ?_;rintro e wa ⟨rfl,rfl⟩))
 all_goals
  go_ret
  refine⟨by first|rfl|(simp[*];done)|(simp[*];omega)|(simp_all [bq,bn];done)|(simp_all [bq,bn];omega),by rfl⟩
theorem Vm(w:World)(Ae:Int):Calls Tryz.prog 393 #[.int .i64 Ae] w (fun e w'=>e=.returned (.bool (inb Ae 2 5))/\w=w'):=by
 have rr:=Lc
 go_enter Tryz.func393,Tryz.ntmps393
 go_wp2_with (first|(go_at_call 303;refine(Dv _ _ _ _  ).mono ?_;rintro e wa ⟨rfl,rfl⟩))
 all_goals
  go_ret
  refine⟨by first|rfl|(simp[*];done)|(simp[*];omega)|(simp_all [bq,bn];done)|(simp_all [bq,bn];omega),by rfl⟩
theorem Ui(w:World)(Ae:Int):Calls Tryz.prog 411 #[.int .i64 Ae] w (fun e w'=>e=.returned (.bool (inb Ae 1 2000))/\w=w'):=by
 have rr:=Lc
 go_enter Tryz.func411,Tryz.ntmps411
 go_wp2_with (first|(go_at_call 176;refine(Cf _ _ _ _  ).mono ?_;rintro e wa ⟨rfl,rfl⟩))
 all_goals
  go_ret
  refine⟨by first|rfl|(simp[*];done)|(simp[*];omega)|(simp_all [bq,bn];done)|(simp_all [bq,bn];omega),by rfl⟩
theorem Pr(w:World)(Ae:Int):Calls Tryz.prog 412 #[.int .i64 Ae] w (fun e w'=>e=.returned (.bool (inb Ae 1 2000))/\w=w'):=by
 have rr:=Lc
 go_enter Tryz.func412,Tryz.ntmps412
 go_wp2_with (first|(go_at_call 176;refine(Cf _ _ _ _  ).mono ?_;rintro e wa ⟨rfl,rfl⟩))
 all_goals
  go_ret
  refine⟨by first|rfl|(simp[*];done)|(simp[*];omega)|(simp_all [bq,bn];done)|(simp_all [bq,bn];omega),by rfl⟩
theorem Pt(w:World)(Ae:Int):Calls Tryz.prog 410 #[.int .i64 Ae] w (fun e w'=>e=.returned (.bool (inb Ae 2 5))/\w=w'):=by
 have rr:=Lc
 go_enter Tryz.func410,Tryz.ntmps410
 go_wp2_with (first|(go_at_call 176;refine(Cf _ _ _ _  ).mono ?_;rintro e wa ⟨rfl,rfl⟩))
 all_goals
  go_ret
  refine⟨by first|rfl|(simp[*];done)|(simp[*];omega)|(simp_all [bq,bn];done)|(simp_all [bq,bn];omega),by rfl⟩
theorem eO(w:World)(Ae:Int)(Ax:Int)(Cw:Int)(Ei:Int)(Bl:Int):Calls Tryz.prog 321 #[.agg #[.int .i64 Ae,.int .i64 Ax,.int .i64 Cw,.int .i64 Ei,.int .i64 Bl]] w (Cp w (.bool (Nn (⟨Ae,Ax,Cw,Ei,Bl⟩:DOp)))):=by
 have rr:=Lc
 go_enter Tryz.func321,Tryz.ntmps321
 go_wp2_with (first|(go_at_call 322;refine(mJ _ _  ).mono ?_;rintro e wa ⟨rfl,rfl⟩)|(go_at_call 324;refine(cS _ _  ).mono ?_;rintro e wb ⟨rfl,rfl⟩)|(go_at_call 391;refine(uR _ _  ).mono ?_;rintro e wc ⟨rfl,rfl⟩)|(go_at_call 207;refine(Fh _ _  ).mono ?_;rintro e wd ⟨rfl,rfl⟩)|(go_at_call 303;refine(Dv _ _ _ _  ).mono ?_;rintro e we ⟨rfl,rfl⟩))
 all_goals
  go_ret
  refine⟨by first|rfl|(simp[Nn, *];done)|(simp[Nn, *];omega)|(simp_all [Nn,bq,bn];done)|(simp_all [Nn,bq,bn];omega),?_⟩
  exact xT
theorem pO(w:World)(Ae:Int)(Ax:Int)(Cw:Int)(Ei:Int)(Bl:Int):Calls Tryz.prog 265 #[.agg #[.int .i64 Ae,.int .i64 Ax,.int .i64 Cw,.int .i64 Ei,.int .i64 Bl]] w (Cp w (.bool (Nn (⟨Ae,Ax,Cw,Ei,Bl⟩:DOp)))):=by
 have rr:=Lc
 go_enter Tryz.func265,Tryz.ntmps265
 go_wp2_with (first|(go_at_call 266;refine(Wi _ _  ).mono ?_;rintro e wa ⟨rfl,rfl⟩)|(go_at_call 346;refine(Sa _ _  ).mono ?_;rintro e wb ⟨rfl,rfl⟩)|(go_at_call 347;refine(Vg _ _  ).mono ?_;rintro e wc ⟨rfl,rfl⟩)|(go_at_call 177;refine(Ey _ _  ).mono ?_;rintro e wd ⟨rfl,rfl⟩)|(go_at_call 176;refine(Cf _ _ _ _  ).mono ?_;rintro e we ⟨rfl,rfl⟩))
 all_goals
  go_ret
  refine⟨by first|rfl|(simp[Nn, *];done)|(simp[Nn, *];omega)|(simp_all [Nn,bq,bn];done)|(simp_all [Nn,bq,bn];omega),?_⟩
  exact xT
theorem Nr(w:World)(Ae:Int)(Ax:Int)(Cw:Int)(Ei:Int)(Bl:Int)(Bp:Int)(Bs:Int)(Ya:Int)(Co:Int):Calls Tryz.prog 327 #[.agg #[.int .i64 Ae,.int .i64 Ax,.int .i64 Cw,.int .i64 Ei,.int .i64 Bl,.int .i64 Bp,.int .i64 Bs,.int .i64 Ya,.int .i64 Co]] w (Cp w (.bool (Dt (⟨Ae,Ax,Cw,Ei,⟨Bl,Bp,Bs,Ya,Co⟩⟩:Aq)))):=by
 have rr:=Lc
 go_enter Tryz.func327,Tryz.ntmps327
 go_wp2_with (first|(go_at_call 392;refine(cT _ _  ).mono ?_;rintro e wa ⟨rfl,rfl⟩)|(go_at_call 207;refine(Fh _ _  ).mono ?_;rintro e wb ⟨rfl,rfl⟩)|(go_at_call 393;refine(Vm _ _  ).mono ?_;rintro e wc ⟨rfl,rfl⟩)|(go_at_call 394;refine(eM _ _  ).mono ?_;rintro e wd ⟨rfl,rfl⟩)|(go_at_call 321;refine(eO _ _ _ _ _ _  ).mono ?_;rintro e we ⟨rfl,hxe⟩;have hze:=hxe.size;(repeat (first|simp only[World.size_alloc] at hze|simp only[World.size_setCell] at hze|simp only[Hh] at hze));(try have hye_a_0:wa.heap.size<we.heap.size:=oM);(try have hye_a_1:wa.heap.size+1<we.heap.size:=oM);(try have hye_a_2:wa.heap.size+1+1<we.heap.size:=oM);(try have hye_b_0:wb.heap.size<we.heap.size:=oM);(try have hye_b_1:wb.heap.size+1<we.heap.size:=oM);(try have hye_b_2:wb.heap.size+1+1<we.heap.size:=oM);(try have hye_c_0:wc.heap.size<we.heap.size:=oM);(try have hye_c_1:wc.heap.size+1<we.heap.size:=oM);(try have hye_c_2:wc.heap.size+1+1<we.heap.size:=oM);(try have hye_d_0:wd.heap.size<we.heap.size:=oM);(try have hye_d_1:wd.heap.size+1<we.heap.size:=oM);(try have hye_d_2:wd.heap.size+1+1<we.heap.size:=oM);have Ke0:Blk we (w.heap.size) 281 _:=Blk.ext (by exact Bv) hxe;(try simp only[Gp] at Ke0);have CKe0:=Ke0.cell;have FKe0:=Ke0.frozen;have hye__0:w.heap.size<we.heap.size:=oM;(try(have Ke_a0:Blk we (wa.heap.size) _ _:=Blk.ext (by exact Bv) hxe;(try simp only[Gp] at Ke_a0);have CKe_a0:=Ke_a0.cell;have FKe_a0:=Ke_a0.frozen));(try(have Ke_a1:Blk we (wa.heap.size+1) _ _:=Blk.ext (by exact Bv) hxe;(try simp only[Gp] at Ke_a1);have CKe_a1:=Ke_a1.cell;have FKe_a1:=Ke_a1.frozen));(try(have Ke_a2:Blk we (wa.heap.size+1+1) _ _:=Blk.ext (by exact Bv) hxe;(try simp only[Gp] at Ke_a2);have CKe_a2:=Ke_a2.cell;have FKe_a2:=Ke_a2.frozen));(try(have Ke_b0:Blk we (wb.heap.size) _ _:=Blk.ext (by exact Bv) hxe;(try simp only[Gp] at Ke_b0);have CKe_b0:=Ke_b0.cell;have FKe_b0:=Ke_b0.frozen));(try(have Ke_b1:Blk we (wb.heap.size+1) _ _:=Blk.ext (by exact Bv) hxe;(try simp only[Gp] at Ke_b1);have CKe_b1:=Ke_b1.cell;have FKe_b1:=Ke_b1.frozen));(try(have Ke_b2:Blk we (wb.heap.size+1+1) _ _:=Blk.ext (by exact Bv) hxe;(try simp only[Gp] at Ke_b2);have CKe_b2:=Ke_b2.cell;have FKe_b2:=Ke_b2.frozen));(try(have Ke_c0:Blk we (wc.heap.size) _ _:=Blk.ext (by exact Bv) hxe;(try simp only[Gp] at Ke_c0);have CKe_c0:=Ke_c0.cell;have FKe_c0:=Ke_c0.frozen));(try(have Ke_c1:Blk we (wc.heap.size+1) _ _:=Blk.ext (by exact Bv) hxe;(try simp only[Gp] at Ke_c1);have CKe_c1:=Ke_c1.cell;have FKe_c1:=Ke_c1.frozen));(try(have Ke_c2:Blk we (wc.heap.size+1+1) _ _:=Blk.ext (by exact Bv) hxe;(try simp only[Gp] at Ke_c2);have CKe_c2:=Ke_c2.cell;have FKe_c2:=Ke_c2.frozen));(try(have Ke_d0:Blk we (wd.heap.size) _ _:=Blk.ext (by exact Bv) hxe;(try simp only[Gp] at Ke_d0);have CKe_d0:=Ke_d0.cell;have FKe_d0:=Ke_d0.frozen));(try(have Ke_d1:Blk we (wd.heap.size+1) _ _:=Blk.ext (by exact Bv) hxe;(try simp only[Gp] at Ke_d1);have CKe_d1:=Ke_d1.cell;have FKe_d1:=Ke_d1.frozen));(try(have Ke_d2:Blk we (wd.heap.size+1+1) _ _:=Blk.ext (by exact Bv) hxe;(try simp only[Gp] at Ke_d2);have CKe_d2:=Ke_d2.cell;have FKe_d2:=Ke_d2.frozen))))
 all_goals
  go_ret
  refine⟨by first|rfl|(simp[Dt, *];done)|(simp[Dt, *];omega)|(simp_all [Dt,bq,bn];done)|(simp_all [Dt,bq,bn];omega),?_⟩
  exact xT
theorem Ns(w:World)(Ae:Int)(Ax:Int)(Cw:Int)(Ei:Int)(Bl:Int)(Bp:Int)(Bs:Int)(Ya:Int)(Co:Int):Calls Tryz.prog 361 #[.agg #[.int .i64 Ae,.int .i64 Ax,.int .i64 Cw,.int .i64 Ei,.int .i64 Bl,.int .i64 Bp,.int .i64 Bs,.int .i64 Ya,.int .i64 Co]] w (Cp w (.bool (Dt (⟨Ae,Ax,Cw,Ei,⟨Bl,Bp,Bs,Ya,Co⟩⟩:Aq)))):=by
 have rr:=Lc
 go_enter Tryz.func361,Tryz.ntmps361
 go_wp2_with (first|(go_at_call 412;refine(Pr _ _  ).mono ?_;rintro e wa ⟨rfl,rfl⟩)|(go_at_call 177;refine(Ey _ _  ).mono ?_;rintro e wb ⟨rfl,rfl⟩)|(go_at_call 410;refine(Pt _ _  ).mono ?_;rintro e wc ⟨rfl,rfl⟩)|(go_at_call 411;refine(Ui _ _  ).mono ?_;rintro e wd ⟨rfl,rfl⟩)|(go_at_call 265;refine(pO _ _ _ _ _ _  ).mono ?_;rintro e we ⟨rfl,hxe⟩;have hze:=hxe.size;(repeat (first|simp only[World.size_alloc] at hze|simp only[World.size_setCell] at hze|simp only[Hh] at hze));(try have hye_a_0:wa.heap.size<we.heap.size:=oM);(try have hye_a_1:wa.heap.size+1<we.heap.size:=oM);(try have hye_a_2:wa.heap.size+1+1<we.heap.size:=oM);(try have hye_b_0:wb.heap.size<we.heap.size:=oM);(try have hye_b_1:wb.heap.size+1<we.heap.size:=oM);(try have hye_b_2:wb.heap.size+1+1<we.heap.size:=oM);(try have hye_c_0:wc.heap.size<we.heap.size:=oM);(try have hye_c_1:wc.heap.size+1<we.heap.size:=oM);(try have hye_c_2:wc.heap.size+1+1<we.heap.size:=oM);(try have hye_d_0:wd.heap.size<we.heap.size:=oM);(try have hye_d_1:wd.heap.size+1<we.heap.size:=oM);(try have hye_d_2:wd.heap.size+1+1<we.heap.size:=oM);have Ke0:Blk we (w.heap.size) 281 _:=Blk.ext (by exact Bv) hxe;(try simp only[Gp] at Ke0);have CKe0:=Ke0.cell;have FKe0:=Ke0.frozen;have hye__0:w.heap.size<we.heap.size:=oM;(try(have Ke_a0:Blk we (wa.heap.size) _ _:=Blk.ext (by exact Bv) hxe;(try simp only[Gp] at Ke_a0);have CKe_a0:=Ke_a0.cell;have FKe_a0:=Ke_a0.frozen));(try(have Ke_a1:Blk we (wa.heap.size+1) _ _:=Blk.ext (by exact Bv) hxe;(try simp only[Gp] at Ke_a1);have CKe_a1:=Ke_a1.cell;have FKe_a1:=Ke_a1.frozen));(try(have Ke_a2:Blk we (wa.heap.size+1+1) _ _:=Blk.ext (by exact Bv) hxe;(try simp only[Gp] at Ke_a2);have CKe_a2:=Ke_a2.cell;have FKe_a2:=Ke_a2.frozen));(try(have Ke_b0:Blk we (wb.heap.size) _ _:=Blk.ext (by exact Bv) hxe;(try simp only[Gp] at Ke_b0);have CKe_b0:=Ke_b0.cell;have FKe_b0:=Ke_b0.frozen));(try(have Ke_b1:Blk we (wb.heap.size+1) _ _:=Blk.ext (by exact Bv) hxe;(try simp only[Gp] at Ke_b1);have CKe_b1:=Ke_b1.cell;have FKe_b1:=Ke_b1.frozen));(try(have Ke_b2:Blk we (wb.heap.size+1+1) _ _:=Blk.ext (by exact Bv) hxe;(try simp only[Gp] at Ke_b2);have CKe_b2:=Ke_b2.cell;have FKe_b2:=Ke_b2.frozen));(try(have Ke_c0:Blk we (wc.heap.size) _ _:=Blk.ext (by exact Bv) hxe;(try simp only[Gp] at Ke_c0);have CKe_c0:=Ke_c0.cell;have FKe_c0:=Ke_c0.frozen));(try(have Ke_c1:Blk we (wc.heap.size+1) _ _:=Blk.ext (by exact Bv) hxe;(try simp only[Gp] at Ke_c1);have CKe_c1:=Ke_c1.cell;have FKe_c1:=Ke_c1.frozen));(try(have Ke_c2:Blk we (wc.heap.size+1+1) _ _:=Blk.ext (by exact Bv) hxe;(try simp only[Gp] at Ke_c2);have CKe_c2:=Ke_c2.cell;have FKe_c2:=Ke_c2.frozen));(try(have Ke_d0:Blk we (wd.heap.size) _ _:=Blk.ext (by exact Bv) hxe;(try simp only[Gp] at Ke_d0);have CKe_d0:=Ke_d0.cell;have FKe_d0:=Ke_d0.frozen));(try(have Ke_d1:Blk we (wd.heap.size+1) _ _:=Blk.ext (by exact Bv) hxe;(try simp only[Gp] at Ke_d1);have CKe_d1:=Ke_d1.cell;have FKe_d1:=Ke_d1.frozen));(try(have Ke_d2:Blk we (wd.heap.size+1+1) _ _:=Blk.ext (by exact Bv) hxe;(try simp only[Gp] at Ke_d2);have CKe_d2:=Ke_d2.cell;have FKe_d2:=Ke_d2.frozen))))
 all_goals
  go_ret
  refine⟨by first|rfl|(simp[Dt, *];done)|(simp[Dt, *];omega)|(simp_all [Dt,bq,bn];done)|(simp_all [Dt,bq,bn];omega),?_⟩
  exact xT
theorem Zy{w:World}{v:Value}{s:Fl}(h:Ml w v s):Calls Tryz.prog 316 #[v] w (Cp w (.bool (Gg s))):=by
 obtain⟨t2,t3,rfl,h2,h3⟩:=h
 exact Vi w _ _ _ _ _ _ _ _ _ h2 h3
theorem cV{w:World}{v:Value}{s:Fl}(h:Ml w v s):Calls Tryz.prog 242 #[v] w (Cp w (.bool (Gg s))):=by
 obtain⟨t2,t3,rfl,h2,h3⟩:=h
 exact Xf w _ _ _ _ _ _ _ _ _ h2 h3
theorem sX(w:World)(x y:Int):Calls Tryz.prog 414 #[.int .i64 x,.int .i64 y] w fun e w'=>e=.returned (.int .i64 (max x y))/\w=w':=by
 by_cases h:y<x
 .
  go_enter Tryz.func414,Tryz.ntmps414
  go_wp2
  go_ret
  exact⟨by rw[show max x y=x by omega];rfl,rfl⟩
 go_enter Tryz.func414,Tryz.ntmps414
 go_wp2
 go_ret
 exact⟨by rw[show max x y=y by omega];rfl,rfl⟩
end Go.Proofs.YtkpmbocbbgocbaaGreat
