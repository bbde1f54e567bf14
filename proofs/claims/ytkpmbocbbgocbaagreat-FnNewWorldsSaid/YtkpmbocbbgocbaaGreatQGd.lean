/- P1 P2 P3 P4 P5. -/
import Derived.Test.YtkpmbocbbgocbaaGreatQGb
set_option linter.unusedSimpArgs false
set_option linter.unusedVariables false
set_option maxHeartbeats 8000000
set_option maxRecDepth 100000
namespace Go.Proofs.YtkpmbocbbgocbaaGreat
open Go.RowKit Go.G8
def Mo(p:Ft):Bool:=inb p.Key 0 9&&inb p.Value 0 999
def Zn(l:List Ft)(i:Nat):Prop:=∀d,l[i]?=some d->Mo d=true/\(∀e,0<i->l[i - 1]?=some e->e.Key<d.Key)
def Kr(l:List Ft):Prop:=∀i,i<l.length->Zn l i
open Classical in
noncomputable def Iu(l:List Ft):Bool:=decide (Kr l)
theorem Pi{l:List Ft}(h:Kr l):Iu l=true:=by simp[Iu,h]
theorem Md{l:List Ft}(h:¬ Kr l):Iu l=false:=by simp[Iu,h]
theorem gR{l:List Ft}:Iu l=true↔Kr l:=by simp[Iu]
theorem Kr.key{l:List Ft}(h:Kr l):∀(i:Nat) (d:Ft),l[i]?=some d->(i:Int)<=d.Key
 | 0,d,hd=>by
  have hlt:0<l.length:=(List.getElem?_eq_some_iff.1 hd).1
  have:=(h 0 hlt d hd).1
  simp only[Mo,Bool.and_eq_true] at this
  have:=(Dz.1 this.1).1
  simpa using this
 | i+1,d,hd=>by
  have hlt:i+1<l.length:=(List.getElem?_eq_some_iff.1 hd).1
  have he:l[i]?=some l[i]:=List.getElem?_eq_getElem oM
  have h1:=(h (i+1) hlt d hd).2 l[i] oM (by simp)
  have h2:=Kr.key h i l[i] he
  omega
theorem Kr.len{l:List Ft}(h:Kr l):l.length<=10:=by
 rcases Nat.lt_or_ge 10 l.length with hlt|hge
 .
  have hd:l[10]?=some l[10]:=List.getElem?_eq_getElem hlt
  have h1:=h.key 10 _ hd
  have:=(h 10 hlt _ hd).1
  simp only[Mo,Bool.and_eq_true] at this
  have:=(Dz.1 this.1).2
  omega
 exact hge
theorem Kr.next{l:List Ft}{k:Nat}{d:Ft}(hd:l[k]?=some d)(h:∀i,i<k->Zn l i)(h1:Mo d=true)(h2:∀e,0<k->l[k - 1]?=some e->e.Key<d.Key):∀i,i<k+1->Zn l i:=by
 intro i hi
 by_cases hik:i=k
 .
  subst hik
  intro d' hd'
  rw[hd] at hd'
  obtain rfl:=Option.some.inj hd'
  exact⟨h1,h2⟩
 exact h i oM
theorem Wi(w:World)(Ae:Int):Calls Tryz.prog 266 #[.int .i64 Ae] w (fun e w'=>e=.returned (.bool (inb Ae 0 9))/\w=w'):=by
 have rr:=Lc
 go_enter Tryz.func266,Tryz.ntmps266
 go_wp2_with (first|(go_at_call 176;refine(Cf _ _ _ _  ).mono ?_;rintro e wa ⟨rfl,rfl⟩))
 all_goals
  go_ret
  refine⟨by first|rfl|(simp[*];done)|(simp[*];omega)|(simp_all [bq,bn];done)|(simp_all [bq,bn];omega),by rfl⟩
theorem Sa(w:World)(Ae:Int):Calls Tryz.prog 346 #[.int .i64 Ae] w (fun e w'=>e=.returned (.bool (inb Ae 0 999))/\w=w'):=by
 have rr:=Lc
 go_enter Tryz.func346,Tryz.ntmps346
 go_wp2_with (first|(go_at_call 176;refine(Cf _ _ _ _  ).mono ?_;rintro e wa ⟨rfl,rfl⟩))
 all_goals
  go_ret
  refine⟨by first|rfl|(simp[*];done)|(simp[*];omega)|(simp_all [bq,bn];done)|(simp_all [bq,bn];omega),by rfl⟩
theorem Zo(w:World)(Ae:Int)(Ax:Int):Calls Tryz.prog 416 #[.agg #[.int .i64 Ae,.int .i64 Ax]] w (Cp w (.bool (Mo (⟨Ae,Ax⟩:Ft)))):=by
 have rr:=Lc
 go_enter Tryz.func416,Tryz.ntmps416
 go_wp2_with (first|(go_at_call 303;refine(Dv _ _ _ _  ).mono ?_;rintro e wa ⟨rfl,rfl⟩))
 all_goals
  go_ret
  refine⟨by first|rfl|(simp[Mo, *];done)|(simp[Mo, *];omega)|(simp_all [Mo,bq,bn];done)|(simp_all [Mo,bq,bn];omega),?_⟩
  exact xT
theorem uN{p:Prop}(h:p:=by intro KQ hKQ;(repeat (first|go_big_quiet_skip|(go_big_quiet_want;first|(refine Br _ _ _ ?_ rfl rfl (fun wq hq=>?_) ?_;rotate_left;(focus((try have y0:=hq.cell x0);(try have y1:=hq.cell x1);(try have y2:=hq.cell e0);go_simp;first|done|rfl));(try simp only[Ab,Act.put]);go_big_quiet_on)|(go_big_quiet_op;first|go_big_quiet_on|(refine⟨_,fun _ _=>rfl,?_⟩;go_big_quiet_on)|(apply Exists.intro;refine⟨fun wq hq=>?_,?_⟩;(focus(exact Cv hq (by have c:=Zo wq d.Key d.Value;rw[show Mo (⟨d.Key,d.Value⟩:Ft)=false from hp] at c;exact c)));go_big_quiet_on)))));exact wpQuiet_nil hKQ):p:=h
theorem jU{p:Prop}(h:p:=by intro KQ hKQ;(repeat (first|go_big_quiet_skip|(go_big_quiet_want;first|(refine Br _ _ _ ?_ rfl rfl (fun wq hq=>?_) ?_;rotate_left;(focus((try have y0:=hq.cell x0);(try have y1:=hq.cell x1);(try have y2:=hq.cell e0);go_simp;first|done|rfl));(try simp only[Ab,Act.put]);go_big_quiet_on)|(go_big_quiet_op;first|go_big_quiet_on|(refine⟨_,fun _ _=>rfl,?_⟩;go_big_quiet_on)|(apply Exists.intro;refine⟨fun wq hq=>?_,?_⟩;(focus(exact Cv hq (by have c:=Zo wq d.Key d.Value;rw[show Mo (⟨d.Key,d.Value⟩:Ft)=true from hp] at c;exact c)));go_big_quiet_on)))));exact wpQuiet_nil hKQ):p:=h
theorem Sb(w:World)(Dl:Value)(Ad:List Ft)(Dk:Aj 2 w Dl (Dp Ad)):Calls Tryz.prog 384 #[Dl] w (Cp w (.bool (Iu Ad))):=by
 obtain⟨a,cap,rfl,hcap,hm,ha⟩:=Dk.recs (f:=Ft.ints) (fun _=>rfl) dC
 have HA:=Lib.hid ha
 clear ha
 unfold maxLen at hm
 by_cases h10:Ad.length<=10
 rotate_left
 .
  go_enter Tryz.func384,Tryz.ntmps384
  go_wp2
  go_ret
  exact⟨congrArg (fun z=>Ending.returned (.bool z)) (Md (fun hh=>h10 hh.len)).symm,Ext.refl _⟩
 go_enter Tryz.func384,Tryz.ntmps384
 go_wp2
 go_loopw [3] (fun i wr=>∃k:Nat,k<=Ad.length/\i=.int .i64 k/\Ext w wr/\Hid (∀i,i<k->Zn Ad i)) (fun i _=>Ad.length - (intOf i).toNat)
 case atStart=>exact⟨0,Nat.zero_le _,rfl,Ext.refl _,Lib.hid (fun i hi=>by omega)⟩
 case round =>
  obtain⟨k,hk,rfl,he,HO⟩:=hrel
  by_cases hlt:k<Ad.length
  .
   obtain⟨d,b1,o1,hd,rfl,hb1,c⟩:=HA.out k hlt
   have d0:=he.cell (c 0 _ dC rfl)
   have d1:=he.cell (c 1 _ dC rfl)
   simp only[Nat.add_zero] at d0
   have HD:=Lib.hid hd
   clear c hd
   cases hp:Mo d
   .
    all_goals
     have x0:=d0;have x1:=d1
     have hEW:Ext w wr:=he
     obtain⟨W,hW⟩:∃W,W=wr:=⟨_,rfl⟩
     rw[<-hW] at x0 x1 hEW
     go_wp2
     rw[<-hW]
     clear hW
     refine rx0 uN fun w1 hx1=>?_
     go_wp2
     go_ret
     exact⟨congrArg (fun z=>Ending.returned (.bool z)) (Md (fun hh=>by have:=(hh k hlt d HD.out).1;rw[hp] at this;cases this)).symm,hEW.trans hx1⟩
   skip
   by_cases hk0:k=0
   .
    subst hk0
    (try simp only[Nat.zero_mul,Nat.add_zero] at d0 d1)
    have x0:=d0;have x1:=d1
    have hEW:Ext w wr:=he
    obtain⟨W,hW⟩:∃W,W=wr:=⟨_,rfl⟩
    rw[<-hW] at x0 x1 hEW
    go_wp2
    rw[<-hW]
    clear hW
    refine rx0 jU fun w1 hx1=>?_
    go_wp2
    go_roundw
    case rel=>exact⟨0+1,by omega,by go_num,hEW.trans hx1,Lib.hid (Kr.next HD.out HO.out hp (fun e h=>by omega))⟩
    case measure=>simp[intOf];omega
   obtain⟨e,b2,o2,hde,hbo,_,c⟩:=HA.out (k - 1) oM
   obtain⟨rfl,rfl⟩:b1=b2/\o1=o2:=by simpa using hbo
   have e00:=he.cell (c 0 _ dC rfl)
   simp only[Nat.add_zero] at e00
   have HE:=Lib.hid hde
   clear c hde hbo
   have hk1:decide (0<k)=true:=by simp;omega
   by_cases hle:d.Key<=e.Key
   .
    have hle':decide (d.Key<=e.Key)=true:=by simpa using hle
    have x0:=d0;have x1:=d1
    have hEW:Ext w wr:=he
    obtain⟨W,hW⟩:∃W,W=wr:=⟨_,rfl⟩
    rw[<-hW] at x0 x1 hEW
    go_wp2
    rw[<-hW]
    have e0:W.cell? ⟨b1,o1+(k - 1)*2,none⟩=some (.int .i64 e.Key):=by rw[hW];exact e00
    clear hW
    refine rx0 jU fun w1 hx1=>?_
    go_wp2
    go_ret
    exact⟨congrArg (fun z=>Ending.returned (.bool z)) (Md (fun hh=>by have:=(hh k hlt d HD.out).2 e oM HE.out;omega)).symm,hEW.trans hx1⟩
   have hle':decide (d.Key<=e.Key)=false:=by simpa using hle
   have x0:=d0;have x1:=d1
   have hEW:Ext w wr:=he
   obtain⟨W,hW⟩:∃W,W=wr:=⟨_,rfl⟩
   rw[<-hW] at x0 x1 hEW
   go_wp2
   rw[<-hW]
   have e0:W.cell? ⟨b1,o1+(k - 1)*2,none⟩=some (.int .i64 e.Key):=by rw[hW];exact e00
   clear hW
   refine rx0 jU fun w1 hx1=>?_
   go_wp2
   go_roundw
   case rel=>exact⟨k+1,by omega,by go_num,hEW.trans hx1,Lib.hid (Kr.next HD.out HO.out hp (fun e' _ hl=>by rw[HE.out] at hl;obtain rfl:=Option.some.inj hl;omega))⟩
   case measure=>simp[intOf];omega
  obtain rfl:k=Ad.length:=by omega
  go_wp2
  go_ret
  exact⟨congrArg (fun z=>Ending.returned (.bool z)) (Pi HO.out).symm,he⟩
theorem dX{p:Prop}(h:p:=by intro KQ hKQ;(repeat (first|go_big_quiet_skip|(go_big_quiet_want;first|(refine Br _ _ _ ?_ rfl rfl (fun wq hq=>?_) ?_;rotate_left;(focus((try have y0:=hq.cell x0);(try have y1:=hq.cell x1);(try have y2:=hq.cell e0);go_simp;first|done|rfl));(try simp only[Ab,Act.put]);go_big_quiet_on)|(go_big_quiet_op;first|go_big_quiet_on|(refine⟨_,fun _ _=>rfl,?_⟩;go_big_quiet_on)|(apply Exists.intro;refine⟨fun wq hq=>?_,?_⟩;(focus(first|exact Ce hq (Wi wq d.Key)|exact Ce hq (Sa wq d.Value)));go_big_quiet_on)))));exact wpQuiet_nil hKQ):p:=h
theorem Xe(w:World)(Dl:Value)(Ad:List Ft)(Dk:Aj 2 w Dl (Dp Ad)):Calls Tryz.prog 337 #[Dl] w (Cp w (.bool (Iu Ad))):=by
 obtain⟨a,cap,rfl,hcap,hm,ha⟩:=Dk.recs (f:=Ft.ints) (fun _=>rfl) dC
 have HA:=Lib.hid ha
 clear ha
 unfold maxLen at hm
 go_enter Tryz.func337,Tryz.ntmps337
 go_wp2
 go_loopw [7] (fun i wr=>∃k:Nat,k<=Ad.length/\i=.int .i64 k/\Ext w wr/\Hid (∀i,i<k->Zn Ad i)) (fun i _=>Ad.length - (intOf i).toNat)
 case atStart=>exact⟨0,Nat.zero_le _,rfl,Ext.refl _,Lib.hid (fun i hi=>by omega)⟩
 case round =>
  obtain⟨k,hk,rfl,he,HO⟩:=hrel
  by_cases hlt:k<Ad.length
  .
   obtain⟨d,b1,o1,hd,rfl,hb1,c⟩:=HA.out k hlt
   have d0:=he.cell (c 0 _ dC rfl)
   have d1:=he.cell (c 1 _ dC rfl)
   simp only[Nat.add_zero] at d0
   have HD:=Lib.hid hd
   clear c hd
   cases hp:Mo d
   .
    cases hky:inb d.Key 0 9
    all_goals
     go_wp2
     obtain⟨W,hW⟩:∃W,W=wr.alloc (.cells #[.int .i64 d.Key,.int .i64 d.Value] 362):=⟨_,rfl⟩
     have x0:W.cell? ⟨wr.heap.size,0,none⟩=some (.int .i64 d.Key):=by rw[hW];simp
     have x1:W.cell? ⟨wr.heap.size,1,none⟩=some (.int .i64 d.Value):=by rw[hW];simp
     have hEW:Ext w W:=by rw[hW];exact he.alloc _
     rw[<-hW]
     clear hW
     (try have hvl:inb d.Value 0 999=false:=by simpa[Mo,hky] using hp)
     refine rx0 dX fun w1 hx1=>?_
     go_wp2
     go_ret
     exact⟨congrArg (fun z=>Ending.returned (.bool z)) (Md (fun hh=>by have:=(hh k hlt d HD.out).1;rw[hp] at this;cases this)).symm,hEW.trans hx1⟩
   have hpp:inb d.Key 0 9=true/\inb d.Value 0 999=true:=by simpa[Mo] using hp
   obtain⟨hky,hvl⟩:=hpp
   by_cases hk0:k=0
   .
    subst hk0
    (try simp only[Nat.zero_mul,Nat.add_zero] at d0 d1)
    go_wp2
    obtain⟨W,hW⟩:∃W,W=wr.alloc (.cells #[.int .i64 d.Key,.int .i64 d.Value] 362):=⟨_,rfl⟩
    have x0:W.cell? ⟨wr.heap.size,0,none⟩=some (.int .i64 d.Key):=by rw[hW];simp
    have x1:W.cell? ⟨wr.heap.size,1,none⟩=some (.int .i64 d.Value):=by rw[hW];simp
    have hEW:Ext w W:=by rw[hW];exact he.alloc _
    rw[<-hW]
    clear hW
    refine rx0 dX fun w1 hx1=>?_
    go_wp2
    go_roundw
    case rel=>exact⟨0+1,by omega,by go_num,hEW.trans hx1,Lib.hid (Kr.next HD.out HO.out hp (fun e h=>by omega))⟩
    case measure=>simp[intOf];omega
   obtain⟨e,b2,o2,hde,hbo,_,c⟩:=HA.out (k - 1) oM
   obtain⟨rfl,rfl⟩:b1=b2/\o1=o2:=by simpa using hbo
   have e00:=he.cell (c 0 _ dC rfl)
   simp only[Nat.add_zero] at e00
   have HE:=Lib.hid hde
   clear c hde hbo
   have hk1:decide (0<k)=true:=by simp;omega
   by_cases hle:d.Key<=e.Key
   .
    have hle':decide (d.Key<=e.Key)=true:=by simpa using hle
    go_wp2
    obtain⟨W,hW⟩:∃W,W=wr.alloc (.cells #[.int .i64 d.Key,.int .i64 d.Value] 362):=⟨_,rfl⟩
    have x0:W.cell? ⟨wr.heap.size,0,none⟩=some (.int .i64 d.Key):=by rw[hW];simp
    have x1:W.cell? ⟨wr.heap.size,1,none⟩=some (.int .i64 d.Value):=by rw[hW];simp
    have hEW:Ext w W:=by rw[hW];exact he.alloc _
    rw[<-hW]
    have e0:W.cell? ⟨b1,o1+(k - 1)*2,none⟩=some (.int .i64 e.Key):=by rw[hW];exact((Ext.refl wr).alloc _).cell e00
    clear hW
    refine rx0 dX fun w1 hx1=>?_
    go_wp2
    go_ret
    exact⟨congrArg (fun z=>Ending.returned (.bool z)) (Md (fun hh=>by have:=(hh k hlt d HD.out).2 e oM HE.out;omega)).symm,hEW.trans hx1⟩
   have hle':decide (d.Key<=e.Key)=false:=by simpa using hle
   go_wp2
   obtain⟨W,hW⟩:∃W,W=wr.alloc (.cells #[.int .i64 d.Key,.int .i64 d.Value] 362):=⟨_,rfl⟩
   have x0:W.cell? ⟨wr.heap.size,0,none⟩=some (.int .i64 d.Key):=by rw[hW];simp
   have x1:W.cell? ⟨wr.heap.size,1,none⟩=some (.int .i64 d.Value):=by rw[hW];simp
   have hEW:Ext w W:=by rw[hW];exact he.alloc _
   rw[<-hW]
   have e0:W.cell? ⟨b1,o1+(k - 1)*2,none⟩=some (.int .i64 e.Key):=by rw[hW];exact((Ext.refl wr).alloc _).cell e00
   clear hW
   refine rx0 dX fun w1 hx1=>?_
   go_wp2
   go_roundw
   case rel=>exact⟨k+1,by omega,by go_num,hEW.trans hx1,Lib.hid (Kr.next HD.out HO.out hp (fun e' _ hl=>by rw[HE.out] at hl;obtain rfl:=Option.some.inj hl;omega))⟩
   case measure=>simp[intOf];omega
  obtain rfl:k=Ad.length:=by omega
  go_wp2
  go_ret
  exact⟨congrArg (fun z=>Ending.returned (.bool z)) (Pi HO.out).symm,he⟩
def Mx(j:Hl):Bool:=Te j.Id&&(Ea j.Due&&(inb j.Key 0 9&&(inb j.Value 0 999&&inb j.Fired 0 2000)))
def Sc(l:Na):Bool:=decide (l.Holder=0)&&(decide (l.Epoch=0)&&decide (l.Until=0))
def Jj(l:Na):Bool:=Sc l||(Ga l.Holder&&(inb l.Epoch 1 1000&&inb l.Until 1 1001000))
theorem nD(w:World)(Ae:Int):Calls Tryz.prog 175 #[.int .i64 Ae] w (fun e w'=>e=.returned (.bool (Ga Ae))/\w=w'):=by
 have rr:=Lc
 go_enter Tryz.func175,Tryz.ntmps175
 go_wp2
 all_goals
  go_ret
  refine⟨by first|rfl|(simp[Ga, *];done)|(simp[Ga, *];omega)|(simp_all [Ga,bq,bn];done)|(simp_all [Ga,bq,bn];omega),by rfl⟩
theorem jV(w:World)(Ae:Int):Calls Tryz.prog 170 #[.int .i64 Ae] w (fun e w'=>e=.returned (.bool (Ga Ae))/\w=w'):=by
 have rr:=Lc
 go_enter Tryz.func170,Tryz.ntmps170
 go_wp2
 all_goals
  go_ret
  refine⟨by first|rfl|(simp[Ga, *];done)|(simp[Ga, *];omega)|(simp_all [Ga,bq,bn];done)|(simp_all [Ga,bq,bn];omega),by rfl⟩
theorem gU(w:World)(Ae:Int)(Ax:Int)(Cw:Int)(Ei:Int)(Bl:Int):Calls Tryz.prog 417 #[.agg #[.int .i64 Ae,.int .i64 Ax,.int .i64 Cw,.int .i64 Ei,.int .i64 Bl]] w (Cp w (.bool (Mx (⟨Ae,Ax,Cw,Ei,Bl⟩:Hl)))):=by
 have rr:=Lc
 go_enter Tryz.func417,Tryz.ntmps417
 go_wp2_with (first|(go_at_call 303;refine(Dv _ _ _ _  ).mono ?_;rintro e wa ⟨rfl,rfl⟩))
 all_goals
  go_ret
  refine⟨by first|rfl|(simp[Mx,Te,Ea, *];done)|(simp[Mx,Te,Ea, *];omega)|(simp_all [Mx,Te,Ea,bq,bn];done)|(simp_all [Mx,Te,Ea,bq,bn];omega),?_⟩
  exact xT
theorem mH(w:World)(Ae:Int)(Ax:Int)(Cw:Int)(Ei:Int)(Bl:Int):Calls Tryz.prog 396 #[.agg #[.int .i64 Ae,.int .i64 Ax,.int .i64 Cw,.int .i64 Ei,.int .i64 Bl]] w (Cp w (.bool (Mx (⟨Ae,Ax,Cw,Ei,Bl⟩:Hl)))):=by
 have rr:=Lc
 go_enter Tryz.func396,Tryz.ntmps396
 go_wp2_with (first|(go_at_call 347;refine(Vg _ _  ).mono ?_;rintro e wa ⟨rfl,rfl⟩)|(go_at_call 177;refine(Ey _ _  ).mono ?_;rintro e wb ⟨rfl,rfl⟩)|(go_at_call 266;refine(Wi _ _  ).mono ?_;rintro e wc ⟨rfl,rfl⟩)|(go_at_call 346;refine(Sa _ _  ).mono ?_;rintro e wd ⟨rfl,rfl⟩)|(go_at_call 176;refine(Cf _ _ _ _  ).mono ?_;rintro e we ⟨rfl,rfl⟩))
 all_goals
  go_ret
  refine⟨by first|rfl|(simp[Mx, *];done)|(simp[Mx, *];omega)|(simp_all [Mx,bq,bn];done)|(simp_all [Mx,bq,bn];omega),?_⟩
  exact xT
theorem gV(w:World)(Ae:Int)(Ax:Int)(Cw:Int)(Ei:Int)(Bl:Int):Calls Tryz.prog 397 #[.agg #[.int .i64 Ae,.int .i64 Ax,.int .i64 Cw,.int .i64 Ei,.int .i64 Bl]] w (Cp w (.bool ((!decide ((⟨Ae,Ax,Cw,Ei,Bl⟩:Hl).Fired=0))))):=by
 have rr:=Lc
 go_enter Tryz.func397,Tryz.ntmps397
 go_wp2
 all_goals
  go_ret
  refine⟨by first|rfl|(simp[*];done)|(simp[*];omega)|(simp_all [bq,bn];done)|(simp_all [bq,bn];omega),?_⟩
  exact xT
theorem Zp(w:World)(Ae:Int)(Ax:Int)(Cw:Int):Calls Tryz.prog 386 #[.agg #[.int .i64 Ae,.int .i64 Ax,.int .i64 Cw]] w (Cp w (.bool (Jj (⟨Ae,Ax,Cw⟩:Na)))):=by
 have rr:=Lc
 go_enter Tryz.func386,Tryz.ntmps386
 go_wp2_with (first|(go_at_call 175;refine(nD _ _  ).mono ?_;rintro e wa ⟨rfl,rfl⟩)|(go_at_call 303;refine(Dv _ _ _ _  ).mono ?_;rintro e wb ⟨rfl,rfl⟩))
 all_goals
  go_ret
  refine⟨by first|rfl|(simp[Jj,Sc, *];done)|(simp[Jj,Sc, *];omega)|(simp_all [Jj,Sc,bq,bn];done)|(simp_all [Jj,Sc,bq,bn];omega),?_⟩
  exact xT
theorem nE(w:World)(Ae:Int)(Ax:Int)(Cw:Int):Calls Tryz.prog 339 #[.agg #[.int .i64 Ae,.int .i64 Ax,.int .i64 Cw]] w (Cp w (.bool (Jj (⟨Ae,Ax,Cw⟩:Na)))):=by
 have rr:=Lc
 go_enter Tryz.func339,Tryz.ntmps339
 go_wp2_with (first|(go_at_call 170;refine(jV _ _  ).mono ?_;rintro e wa ⟨rfl,rfl⟩)|(go_at_call 176;refine(Cf _ _ _ _  ).mono ?_;rintro e wb ⟨rfl,rfl⟩))
 all_goals
  go_ret
  refine⟨by first|rfl|(simp[Jj,Sc, *];done)|(simp[Jj,Sc, *];omega)|(simp_all [Jj,Sc,bq,bn];done)|(simp_all [Jj,Sc,bq,bn];omega),?_⟩
  exact xT
def gW(l:List Hl)(i:Nat):Prop:=∀d,l[i]?=some d->Mx d=true/\(∀e,0<i->l[i - 1]?=some e->e.Id<d.Id)/\(0<d.Fired->∀k e,k<i->l[k]?=some e->e.Fired≠d.Fired)
def Pf(l:List Hl):Prop:=l.length<=8/\∀i,i<l.length->gW l i
open Classical in
noncomputable def Kd(l:List Hl):Bool:=decide (Pf l)
theorem Om{l:List Hl}(h:Pf l):Kd l=true:=by simp[Kd,h]
theorem Hy{l:List Hl}(h:¬ Pf l):Kd l=false:=by simp[Kd,h]
theorem jW{l:List Hl}:Kd l=true↔Pf l:=by simp[Kd]
theorem Pf.next{l:List Hl}{k:Nat}{d:Hl}(hd:l[k]?=some d)(h:∀i,i<k->gW l i)(h1:Mx d=true)(h2:∀e,0<k->l[k - 1]?=some e->e.Id<d.Id)
  (h3:0<d.Fired->∀i e,i<k->l[i]?=some e->e.Fired≠d.Fired):∀i,i<k+1->gW l i:=by
 intro i hi
 by_cases hik:i=k
 .
  subst hik
  intro d' hd'
  rw[hd] at hd'
  obtain rfl:=Option.some.inj hd'
  exact⟨h1,h2,h3⟩
 exact h i oM
theorem uO{p:Prop}(h:p:=by intro KQ hKQ;(repeat (first|go_big_quiet_skip|(go_big_quiet_want;first|(refine Br _ _ _ ?_ rfl rfl (fun wq hq=>?_) ?_;rotate_left;(focus((try have y0:=hq.cell d0);(try have y1:=hq.cell d1);(try have y2:=hq.cell d2);(try have y3:=hq.cell d3);(try have y4:=hq.cell d4);(try have y5:=hq.cell e0);go_simp;first|done|rfl));(try simp only[Ab,Act.put]);go_big_quiet_on)|(go_big_quiet_op;first|go_big_quiet_on|(refine⟨_,fun _ _=>rfl,?_⟩;go_big_quiet_on)|(apply Exists.intro;refine⟨fun wq hq=>?_,?_⟩;(focus(exact Cv hq (by have c:=gU wq d.Id d.Due d.Key d.Value d.Fired;rw[show Mx (⟨d.Id,d.Due,d.Key,d.Value,d.Fired⟩:Hl)=false from hp] at c;exact c)));go_big_quiet_on)))));exact wpQuiet_nil hKQ):p:=h
theorem jX{p:Prop}(h:p:=by intro KQ hKQ;(repeat (first|go_big_quiet_skip|(go_big_quiet_want;first|(refine Br _ _ _ ?_ rfl rfl (fun wq hq=>?_) ?_;rotate_left;(focus((try have y0:=hq.cell d0);(try have y1:=hq.cell d1);(try have y2:=hq.cell d2);(try have y3:=hq.cell d3);(try have y4:=hq.cell d4);(try have y5:=hq.cell e0);go_simp;first|done|rfl));(try simp only[Ab,Act.put]);go_big_quiet_on)|(go_big_quiet_op;first|go_big_quiet_on|(refine⟨_,fun _ _=>rfl,?_⟩;go_big_quiet_on)|(apply Exists.intro;refine⟨fun wq hq=>?_,?_⟩;(focus(exact Cv hq (by have c:=gU wq d.Id d.Due d.Key d.Value d.Fired;rw[show Mx (⟨d.Id,d.Due,d.Key,d.Value,d.Fired⟩:Hl)=true from hp] at c;exact c)));go_big_quiet_on)))));exact wpQuiet_nil hKQ):p:=h
theorem Ue(w:World)(Dl:Value)(Ad:List Hl)(Dk:Aj 5 w Dl (Fj Ad)):Calls Tryz.prog 385 #[Dl] w (Cp w (.bool (Kd Ad))):=by
 obtain⟨a,cap,rfl,hcap,hm,ha⟩:=Dk.recs (f:=Hl.ints) (fun _=>rfl) dC
 have HA:=Lib.hid ha
 clear ha
 unfold maxLen at hm
 by_cases h8:Ad.length<=8
 rotate_left
 .
  go_enter Tryz.func385,Tryz.ntmps385
  go_wp2
  go_ret
  exact⟨congrArg (fun z=>Ending.returned (.bool z)) (Hy (fun hh=>h8 hh.1)).symm,Ext.refl _⟩
 go_enter Tryz.func385,Tryz.ntmps385
 go_wp2
 go_loopw [3] (fun i wr=>∃k:Nat,k<=Ad.length/\i=.int .i64 k/\Ext w wr/\Hid (∀i,i<k->gW Ad i)) (fun i _=>Ad.length - (intOf i).toNat)
 case atStart=>exact⟨0,Nat.zero_le _,rfl,Ext.refl _,Lib.hid (fun i hi=>by omega)⟩
 case round =>
  obtain⟨k,hk,rfl,he,HO⟩:=hrel
  by_cases hlt:k<Ad.length
  .
   obtain⟨d,b1,o1,hd,rfl,hb1,c⟩:=HA.out k hlt
   have d0:=he.cell (c 0 _ dC rfl)
   have d1:=he.cell (c 1 _ dC rfl)
   have d2:=he.cell (c 2 _ dC rfl)
   have d3:=he.cell (c 3 _ dC rfl)
   have d4:=he.cell (c 4 _ dC rfl)
   simp only[Nat.add_zero] at d0
   have HD:=Lib.hid hd
   clear c hd
   cases hp:Mx d
   .
    go_wp2
    refine rx0 uO fun w1 hx1=>?_
    go_wp2
    go_ret
    exact⟨congrArg (fun z=>Ending.returned (.bool z)) (Hy (fun hh=>by have:=(hh.2 k hlt d HD.out).1;rw[hp] at this;cases this)).symm,he.trans hx1⟩
   by_cases hk0:k=0
   .
    have hk1:decide (0<k)=false:=by simp;omega
    have HK:=Lib.hid hk0
    clear hk0
    go_wp2
    refine rx0 jX fun w1 hx1=>?_
    go_wp2
    go_loopw [4] (fun i wr'=>∃m:Nat,m<=k/\i=.int .i64 m/\Ext wr wr'/\Hid (0<d.Fired->∀i e,i<m->Ad[i]?=some e->e.Fired≠d.Fired)) (fun i _=>k - (intOf i).toNat)
    case atStart=>exact⟨0,by omega,rfl,hx1,Lib.hid (fun _ i e h=>by omega)⟩
    case round =>
     obtain⟨m,hm',rfl,he',HM⟩:=hrel
     by_cases hmk:m<k
     .
      obtain⟨g,b2,o2,hdg,hbo,_,c⟩:=HA.out m oM
      obtain⟨rfl,rfl⟩:b1=b2/\o1=o2:=by simpa using hbo
      have g4:=(he.trans he').cell (c 4 _ dC rfl)
      have f4:=he'.cell d4
      have HG:=Lib.hid hdg
      clear c hdg hbo
      by_cases hf:0<d.Fired
      .
       have hf':decide (0<d.Fired)=true:=by simpa using hf
       by_cases heq:g.Fired=d.Fired
       .
        have hb:(g.Fired == d.Fired)=true:=by simpa using heq
        have HEQ:=Lib.hid heq
        clear heq
        go_wp2
        go_quiet (fail)
        go_wp2
        go_ret
        exact⟨congrArg (fun z=>Ending.returned (.bool z)) (Hy (fun hh=>(hh.2 k hlt d HD.out).2.2 hf m g hmk HG.out HEQ.out)).symm,(he.trans he').drewN _⟩
       have hb:(g.Fired == d.Fired)=false:=by simpa using heq
       go_wp2
       go_quiet (fail)
       go_wp2
       go_roundw
       case rel =>
        refine⟨m+1,by omega,by go_num,he'.drewN _,Lib.hid (fun _ i e' hi hl=>?_)⟩
        by_cases him:i=m
        .
         subst him
         rw[HG.out] at hl
         obtain rfl:=Option.some.inj hl
         exact heq
        exact HM.out hf i e' oM hl
       case measure=>simp[intOf];omega
      have hf':decide (0<d.Fired)=false:=by simpa using hf
      go_wp2
      go_quiet (fail)
      go_wp2
      go_roundw
      case rel=>exact⟨m+1,by omega,by go_num,he'.drewN _,Lib.hid (fun h=>absurd h oM)⟩
      case measure=>simp[intOf];omega
     obtain rfl:m=k:=by omega
     go_wp2
     go_roundw
     case rel=>exact⟨m+1,by omega,by go_num,he.trans he',Lib.hid (Pf.next HD.out HO.out hp (fun e h=>by have:=HK.out;omega) HM.out)⟩
     case measure=>simp[intOf];omega
   obtain⟨e,b2,o2,hde,hbo,_,c⟩:=HA.out (k - 1) oM
   obtain⟨rfl,rfl⟩:b1=b2/\o1=o2:=by simpa using hbo
   have e0:=he.cell (c 0 _ dC rfl)
   simp only[Nat.add_zero] at e0
   have HE:=Lib.hid hde
   clear c hde hbo
   have hk1:decide (0<k)=true:=by simp;omega
   by_cases hle:d.Id<=e.Id
   .
    have hle':decide (d.Id<=e.Id)=true:=by simpa using hle
    go_wp2
    refine rx0 jX fun w1 hx1=>?_
    go_wp2
    go_ret
    exact⟨congrArg (fun z=>Ending.returned (.bool z)) (Hy (fun hh=>by have:=(hh.2 k hlt d HD.out).2.1 e oM HE.out;omega)).symm,he.trans hx1⟩
   have hle':decide (d.Id<=e.Id)=false:=by simpa using hle
   go_wp2
   refine rx0 jX fun w1 hx1=>?_
   go_wp2
   go_loopw [4] (fun i wr'=>∃m:Nat,m<=k/\i=.int .i64 m/\Ext wr wr'/\Hid (0<d.Fired->∀i e,i<m->Ad[i]?=some e->e.Fired≠d.Fired)) (fun i _=>k - (intOf i).toNat)
   case atStart=>exact⟨0,by omega,rfl,hx1,Lib.hid (fun _ i e h=>by omega)⟩
   case round =>
    obtain⟨m,hm',rfl,he',HM⟩:=hrel
    by_cases hmk:m<k
    .
     obtain⟨g,b2,o2,hdg,hbo,_,c⟩:=HA.out m oM
     obtain⟨rfl,rfl⟩:b1=b2/\o1=o2:=by simpa using hbo
     have g4:=(he.trans he').cell (c 4 _ dC rfl)
     have f4:=he'.cell d4
     have HG:=Lib.hid hdg
     clear c hdg hbo
     by_cases hf:0<d.Fired
     .
      have hf':decide (0<d.Fired)=true:=by simpa using hf
      by_cases heq:g.Fired=d.Fired
      .
       have hb:(g.Fired == d.Fired)=true:=by simpa using heq
       have HEQ:=Lib.hid heq
       clear heq
       go_wp2
       go_quiet (fail)
       go_wp2
       go_ret
       exact⟨congrArg (fun z=>Ending.returned (.bool z)) (Hy (fun hh=>(hh.2 k hlt d HD.out).2.2 hf m g hmk HG.out HEQ.out)).symm,(he.trans he').drewN _⟩
      have hb:(g.Fired == d.Fired)=false:=by simpa using heq
      go_wp2
      go_quiet (fail)
      go_wp2
      go_roundw
      case rel =>
       refine⟨m+1,by omega,by go_num,he'.drewN _,Lib.hid (fun _ i e' hi hl=>?_)⟩
       by_cases him:i=m
       .
        subst him
        rw[HG.out] at hl
        obtain rfl:=Option.some.inj hl
        exact heq
       exact HM.out hf i e' oM hl
      case measure=>simp[intOf];omega
     have hf':decide (0<d.Fired)=false:=by simpa using hf
     go_wp2
     go_quiet (fail)
     go_wp2
     go_roundw
     case rel=>exact⟨m+1,by omega,by go_num,he'.drewN _,Lib.hid (fun h=>absurd h oM)⟩
     case measure=>simp[intOf];omega
    obtain rfl:m=k:=by omega
    go_wp2
    go_roundw
    case rel=>exact⟨m+1,by omega,by go_num,he.trans he',Lib.hid (Pf.next HD.out HO.out hp (fun e' _ hl=>by rw[HE.out] at hl;obtain rfl:=Option.some.inj hl;omega) HM.out)⟩
    case measure=>simp[intOf];omega
  obtain rfl:k=Ad.length:=by omega
  go_wp2
  go_ret
  exact⟨congrArg (fun z=>Ending.returned (.bool z)) (Om ⟨by omega,HO.out⟩).symm,he⟩
theorem zbP(w:World):(zeroValue 4).run Tryz.prog w=.ok (.bool false) w:=by kernel_rfl
theorem Uf{l:List Hl}{k:Nat}{d:Hl}{S:List Int}(hd:l[k]?=some d)(hS:∀x,x ∈ S↔∃i e,i<k/\l[i]?=some e/\e.Fired=x):∀x,x ∈ d.Fired::S↔∃i e,i<k+1/\l[i]?=some e/\e.Fired=x:=by
 intro x
 rw[List.mem_cons,hS x]
 constructor
 .
  rintro(rfl|⟨i,e,hi,h1,h2⟩)
  .
   exact⟨k,d,by omega,hd,rfl⟩
  exact⟨i,e,by omega,h1,h2⟩
 rintro⟨i,e,hi,h1,h2⟩
 by_cases hik:i=k
 .
  subst hik
  rw[hd] at h1
  obtain rfl:=Option.some.inj h1
  exact .inl h2.symm
 exact .inr ⟨i,e,by omega,h1,h2⟩
theorem dY{p:Prop}(h:p:=by intro KQ hKQ;(repeat (first|go_big_quiet_skip|(go_big_quiet_want;first|(refine Br _ _ _ ?_ rfl rfl (fun wq hq=>?_) ?_;rotate_left;(focus((try have y0:=hq.cell x0);(try have y1:=hq.cell x1);(try have y2:=hq.cell x2);(try have y3:=hq.cell x3);(try have y4:=hq.cell x4);(try have y5:=hq.cell e0);go_simp;first|done|rfl));(try simp only[Ab,Act.put]);go_big_quiet_on)|(refine Ls _ _ _ _ _ ?_ rfl rfl rfl (fun wq hq=>?_) ?_;rotate_left;(focus(fail));(try simp only[Ab,Act.put]);go_big_quiet_on)|(go_big_quiet_op;first|go_big_quiet_on|(refine⟨_,fun _ _=>rfl,?_⟩;go_big_quiet_on)|(apply Exists.intro;refine⟨fun wq hq=>?_,?_⟩;(focus(first|exact Cv hq (by have c:=mH wq d.Id d.Due d.Key d.Value d.Fired;rw[hp'] at c;exact c)|exact Cv hq (by have c:=gV wq d.Id d.Due d.Key d.Value d.Fired;rw[hcl] at c;exact c)));go_big_quiet_on)))));exact wpQuiet_nil hKQ):p:=h
theorem dZ{p:Prop}(h:p:=by intro KQ hKQ;(repeat (first|go_big_quiet_skip|(go_big_quiet_want;first|(refine Br _ _ _ ?_ rfl rfl (fun wq hq=>?_) ?_;rotate_left;(focus((try have y0:=hq.cell x0);(try have y1:=hq.cell x1);(try have y2:=hq.cell x2);(try have y3:=hq.cell x3);(try have y4:=hq.cell x4);(try have y5:=hq.cell e0);go_simp;first|done|rfl));(try simp only[Ab,Act.put]);go_big_quiet_on)|(refine Ls _ _ _ _ _ ?_ rfl rfl rfl (fun wq hq=>?_) ?_;rotate_left;(focus(exact(by have c:=(hset'.ext hq).look (t:=407) Tryz.underlying2 Tryz.underlying407 Tryz.underlying4 (zbP _) hw;rw[hnu] at c;exact c)));(try simp only[Ab,Act.put]);go_big_quiet_on)|(go_big_quiet_op;first|go_big_quiet_on|(refine⟨_,fun _ _=>rfl,?_⟩;go_big_quiet_on)|(apply Exists.intro;refine⟨fun wq hq=>?_,?_⟩;(focus(first|exact Cv hq (by have c:=mH wq d.Id d.Due d.Key d.Value d.Fired;rw[hp'] at c;exact c)|exact Cv hq (by have c:=gV wq d.Id d.Due d.Key d.Value d.Fired;rw[hcl] at c;exact c)));go_big_quiet_on)))));exact wpQuiet_nil hKQ):p:=h
theorem Zq(w:World)(Dl:Value)(Ad:List Hl)(Dk:Aj 5 w Dl (Fj Ad)):Calls Tryz.prog 338 #[Dl] w (Cp w (.bool (Kd Ad))):=by
 obtain⟨a,cap,rfl,hcap,hm,ha⟩:=Dk.recs (f:=Hl.ints) (fun _=>rfl) dC
 have HA:=Lib.hid ha
 clear ha
 unfold maxLen at hm
 have hmm:=@run_makeMap Tryz.prog
 by_cases h8:Ad.length<=8
 rotate_left
 .
  go_enter Tryz.func338,Tryz.ntmps338
  go_wp2
  go_ret
  exact⟨congrArg (fun z=>Ending.returned (.bool z)) (Hy (fun hh=>h8 hh.1)).symm,Ext.refl _⟩
 go_enter Tryz.func338,Tryz.ntmps338
 go_wp2
 clear hmm
 go_loopw [12] (fun i wr=>∃k:Nat,k<=Ad.length/\i=.int .i64 k/\Ext w wr/\∃S,Mz Tryz.prog 2 4 wr w.heap.size k S/\Hid (∀i,i<k->gW Ad i)/\Hid (∀x,x ∈ S↔∃i e,i<k/\Ad[i]?=some e/\e.Fired=x)) (fun i _=>Ad.length - (intOf i).toNat)
 case atStart=>exact⟨0,Nat.zero_le _,rfl,(Ext.refl _).alloc _,[],Mz.made Tryz.prog 2 4 w,Lib.hid (fun i hi=>by omega),Lib.hid (fun x=>by simp)⟩
 case round =>
  obtain⟨k,hk,rfl,he,S,hset,HO,HM⟩:=hrel
  have hsz:=he.size
  have hset0:=hset.lt
  by_cases hlt:k<Ad.length
  .
   obtain⟨d,b1,o1,hd,rfl,hb1,c⟩:=HA.out k hlt
   have d0:=he.cell (c 0 _ dC rfl)
   have d1:=he.cell (c 1 _ dC rfl)
   have d2:=he.cell (c 2 _ dC rfl)
   have d3:=he.cell (c 3 _ dC rfl)
   have d4:=he.cell (c 4 _ dC rfl)
   simp only[Nat.add_zero] at d0
   have HD:=Lib.hid hd
   clear c hd
   go_wp2
   obtain⟨W,hW⟩:∃W,W=wr.alloc (.cells #[.int .i64 d.Id,.int .i64 d.Due,.int .i64 d.Key,.int .i64 d.Value,.int .i64 d.Fired] 366):=⟨_,rfl⟩
   have x0:W.cell? ⟨wr.heap.size,0,none⟩=some (.int .i64 d.Id):=by rw[hW];simp
   have x1:W.cell? ⟨wr.heap.size,1,none⟩=some (.int .i64 d.Due):=by rw[hW];simp
   have x2:W.cell? ⟨wr.heap.size,2,none⟩=some (.int .i64 d.Key):=by rw[hW];simp
   have x3:W.cell? ⟨wr.heap.size,3,none⟩=some (.int .i64 d.Value):=by rw[hW];simp
   have x4:W.cell? ⟨wr.heap.size,4,none⟩=some (.int .i64 d.Fired):=by rw[hW];simp
   have hset':Mz Tryz.prog 2 4 W w.heap.size k S:=by rw[hW];exact hset.ext ((Ext.refl wr).alloc _)
   have heW:Ext w W:=by rw[hW];exact he.alloc _
   have heR:Ext wr W:=by rw[hW];exact(Ext.refl wr).alloc _
   rw[<-hW]
   clear hW
   cases hp:Mx d
   .
    have hp':Mx (⟨d.Id,d.Due,d.Key,d.Value,d.Fired⟩:Hl)=false:=hp
    have hcl:true=true:=rfl
    refine rx0 dY fun w1 hx1=>?_
    go_wp2
    go_ret
    exact⟨congrArg (fun z=>Ending.returned (.bool z)) (Hy (fun hh=>by have:=(hh.2 k hlt d HD.out).1;rw[hp] at this;cases this)).symm,heW.trans hx1⟩
   have hp':Mx (⟨d.Id,d.Due,d.Key,d.Value,d.Fired⟩:Hl)=true:=hp
   have hw:(Lit.int .i64 d.Fired).wf=true:=by
    have h1:=hp
    simp only[Mx,Bool.and_eq_true] at h1
    have:=Dz.1 h1.2.2.2.2
    exact WalkArith.wf_i64 oM
   have hge:0<=d.Fired:=by
    have h1:=hp
    simp only[Mx,Bool.and_eq_true] at h1
    exact(Dz.1 h1.2.2.2.2).1
   by_cases hk0:k=0
   .
    have hk1:decide (0<k)=false:=by simp;omega
    have HK:=Lib.hid hk0
    clear hk0
    by_cases hf:d.Fired=0
    .
     have hcl:(!decide (d.Fired=0))=false:=by simp[hf]
     have HF:=Lib.hid hf
     clear hf
     refine rx0 dY fun w1 hx1=>?_
     have x4':=hx1.cell x4
     go_wp2_with (at_mapUpdate;refine Jt rfl _ _ _ 407 rfl 2 4 Tryz.underlying2 Tryz.underlying407 Tryz.underlying4 _ _ _ _ rfl rfl rfl (hset'.ext hx1) (by unfold maxLen;omega) hw ?_;intro w2 hset2 hgr2)
     have hx2:=(heW.trans hx1).grownOwn hgr2 oM
     go_roundw
     case rel=>exact⟨k+1,by omega,by go_num,hx2,_,hset2,Lib.hid (Pf.next HD.out HO.out hp (fun e h=>by have:=HK.out;omega) (fun h=>by have:=HF.out;omega)),Lib.hid (Uf HD.out HM.out)⟩
     case measure=>simp[intOf];omega
    have hcl:(!decide (d.Fired=0))=true:=by simp[hf]
    have HF:=Lib.hid hf
    clear hf
    by_cases hmem:d.Fired ∈ S
    .
     have hnu:decide (d.Fired ∈ S)=true:=by simpa using hmem
     have HMM:=Lib.hid hmem
     clear hmem
     refine rx0 dZ fun w1 hx1=>?_
     go_wp2
     go_ret
     exact⟨congrArg (fun z=>Ending.returned (.bool z)) (Hy (fun hh=>by obtain⟨i,e,hi,h1,h2⟩:=(HM.out d.Fired).1 HMM.out;exact(hh.2 k hlt d HD.out).2.2 (by have:=HF.out;omega) i e hi h1 h2)).symm,heW.trans hx1⟩
    have hnu:decide (d.Fired ∈ S)=false:=by simpa using hmem
    have HMM:=Lib.hid hmem
    clear hmem
    refine rx0 dZ fun w1 hx1=>?_
    have x4':=hx1.cell x4
    go_wp2_with (at_mapUpdate;refine Jt rfl _ _ _ 407 rfl 2 4 Tryz.underlying2 Tryz.underlying407 Tryz.underlying4 _ _ _ _ rfl rfl rfl (hset'.ext hx1) (by unfold maxLen;omega) hw ?_;intro w2 hset2 hgr2)
    have hx2:=(heW.trans hx1).grownOwn hgr2 oM
    go_roundw
    case rel=>exact⟨k+1,by omega,by go_num,hx2,_,hset2,Lib.hid (Pf.next HD.out HO.out hp (fun e h=>by have:=HK.out;omega) (fun _ i e hi h1 h2=>HMM.out ((HM.out d.Fired).2 ⟨i,e,hi,h1,h2⟩))),Lib.hid (Uf HD.out HM.out)⟩
    case measure=>simp[intOf];omega
   obtain⟨e,b2,o2,hde,hbo,_,c⟩:=HA.out (k - 1) oM
   obtain⟨rfl,rfl⟩:b1=b2/\o1=o2:=by simpa using hbo
   have e0:=heW.cell (c 0 _ dC rfl)
   simp only[Nat.add_zero] at e0
   have HE:=Lib.hid hde
   clear c hde hbo
   have hk1:decide (0<k)=true:=by simp;omega
   by_cases hle:d.Id<=e.Id
   .
    have hle':decide (d.Id<=e.Id)=true:=by simpa using hle
    have hcl:true=true:=rfl
    refine rx0 dY fun w1 hx1=>?_
    go_wp2
    go_ret
    exact⟨congrArg (fun z=>Ending.returned (.bool z)) (Hy (fun hh=>by have:=(hh.2 k hlt d HD.out).2.1 e oM HE.out;omega)).symm,heW.trans hx1⟩
   have hle':decide (d.Id<=e.Id)=false:=by simpa using hle
   by_cases hf:d.Fired=0
   .
    have hcl:(!decide (d.Fired=0))=false:=by simp[hf]
    have HF:=Lib.hid hf
    clear hf
    refine rx0 dY fun w1 hx1=>?_
    have x4':=hx1.cell x4
    go_wp2_with (at_mapUpdate;refine Jt rfl _ _ _ 407 rfl 2 4 Tryz.underlying2 Tryz.underlying407 Tryz.underlying4 _ _ _ _ rfl rfl rfl (hset'.ext hx1) (by unfold maxLen;omega) hw ?_;intro w2 hset2 hgr2)
    have hx2:=(heW.trans hx1).grownOwn hgr2 oM
    go_roundw
    case rel=>exact⟨k+1,by omega,by go_num,hx2,_,hset2,Lib.hid (Pf.next HD.out HO.out hp (fun e' _ hl=>by rw[HE.out] at hl;obtain rfl:=Option.some.inj hl;omega) (fun h=>by have:=HF.out;omega)),Lib.hid (Uf HD.out HM.out)⟩
    case measure=>simp[intOf];omega
   have hcl:(!decide (d.Fired=0))=true:=by simp[hf]
   have HF:=Lib.hid hf
   clear hf
   by_cases hmem:d.Fired ∈ S
   .
    have hnu:decide (d.Fired ∈ S)=true:=by simpa using hmem
    have HMM:=Lib.hid hmem
    clear hmem
    refine rx0 dZ fun w1 hx1=>?_
    go_wp2
    go_ret
    exact⟨congrArg (fun z=>Ending.returned (.bool z)) (Hy (fun hh=>by obtain⟨i,e,hi,h1,h2⟩:=(HM.out d.Fired).1 HMM.out;exact(hh.2 k hlt d HD.out).2.2 (by have:=HF.out;omega) i e hi h1 h2)).symm,heW.trans hx1⟩
   have hnu:decide (d.Fired ∈ S)=false:=by simpa using hmem
   have HMM:=Lib.hid hmem
   clear hmem
   refine rx0 dZ fun w1 hx1=>?_
   have x4':=hx1.cell x4
   go_wp2_with (at_mapUpdate;refine Jt rfl _ _ _ 407 rfl 2 4 Tryz.underlying2 Tryz.underlying407 Tryz.underlying4 _ _ _ _ rfl rfl rfl (hset'.ext hx1) (by unfold maxLen;omega) hw ?_;intro w2 hset2 hgr2)
   have hx2:=(heW.trans hx1).grownOwn hgr2 oM
   go_roundw
   case rel=>exact⟨k+1,by omega,by go_num,hx2,_,hset2,Lib.hid (Pf.next HD.out HO.out hp (fun e' _ hl=>by rw[HE.out] at hl;obtain rfl:=Option.some.inj hl;omega) (fun _ i e hi h1 h2=>HMM.out ((HM.out d.Fired).2 ⟨i,e,hi,h1,h2⟩))),Lib.hid (Uf HD.out HM.out)⟩
   case measure=>simp[intOf];omega
  obtain rfl:k=Ad.length:=by omega
  go_wp2
  go_ret
  exact⟨congrArg (fun z=>Ending.returned (.bool z)) (Om ⟨by omega,HO.out⟩).symm,he⟩
noncomputable def Gg(s:Fl):Bool:=inb s.Index 0 2000&&(Ea s.Time&&(Iu s.Pairs&&(Kd s.Jobs&&(Jj s.Lease&&s.Jobs.all (fun j=>decide (j.Fired<=s.Index))))))
theorem cP{α:Type}{p:α->Bool}{l:List α}{k:Nat}{d:α}(h:l[k]?=some d)(h1:(l.take k).all p=true)(h2:p d=true):(l.take (k+1)).all p=true:=by
 rw[List.take_add_one,h,List.all_append,h1];simp[h2]
theorem mI{α:Type}{p:α->Bool}{l:List α}{k:Nat}{d:α}(h:l[k]?=some d)(h2:p d=false):l.all p=false:=by
 rw[Bool.eq_false_iff];intro hh
 rw[List.all_eq_true] at hh
 have:=hh d (List.mem_of_getElem? h)
 rw[h2] at this;cases this
theorem jY(w:World)(Ae:Int):Calls Tryz.prog 383 #[.int .i64 Ae] w (fun e w'=>e=.returned (.bool (Ea Ae))/\w=w'):=by
 have rr:=Lc
 go_enter Tryz.func383,Tryz.ntmps383
 go_wp2_with (first|(go_at_call 303;refine(Dv _ _ _ _  ).mono ?_;rintro e wa ⟨rfl,rfl⟩))
 all_goals
  go_ret
  refine⟨by first|rfl|(simp[Ea, *];done)|(simp[Ea, *];omega)|(simp_all [Ea,bq,bn];done)|(simp_all [Ea,bq,bn];omega),by rfl⟩
theorem Vi(w:World)(Ae:Int)(Ax:Int)(Fy:Value)(Ao:List Ft)(Iq:Value)(Bm:List Hl)(Bl:Int)(Bp:Int)(Bs:Int)(Ek:Aj 2 w Fy (Dp Ao))(Gm:Aj 5 w Iq (Fj Bm)):Calls Tryz.prog 316 #[.agg #[.int .i64 Ae,.int .i64 Ax,Fy,Iq,.int .i64 Bl,.int .i64 Bp,.int .i64 Bs]] w (Cp w (.bool (Gg (⟨Ae,Ax,Ao,Bm,⟨Bl,Bp,Bs⟩⟩:Fl)))):=by
 obtain⟨lW,lX,cK,rfl⟩:=Ek.shape
 obtain⟨a3,cap3,rfl,hcap,hm,ha⟩:=Gm.recs (f:=Hl.ints) (fun _=>rfl) dC
 have HA:=Lib.hid ha
 clear ha
 unfold maxLen at hm
 have hst:Gg (⟨Ae,Ax,Ao,Bm,⟨Bl,Bp,Bs⟩⟩:Fl)=(inb Ae 0 2000&&(Ea Ax&&(Iu Ao&&(Kd Bm&&(Jj (⟨Bl,Bp,Bs⟩:Na)&&Bm.all (fun j=>decide (j.Fired<=Ae))))))):=rfl
 have HST:=Lib.hid hst
 clear hst
 go_enter Tryz.func316,Tryz.ntmps316
 go_wp2_with fail
 refine(Dv _ _ _ _).mono ?_
 rintro e w9⟨rfl,rfl⟩
 cases g1:inb Ae 0 2000
 .
  go_wp2_with fail
  go_ret
  exact⟨by rw[HST.out,g1];rfl,by exact Aa⟩
 go_wp2_with fail
 refine(jY _ _).mono ?_
 rintro e w9⟨rfl,rfl⟩
 cases g2:Ea Ax
 .
  go_wp2_with fail
  go_ret
  exact⟨by rw[HST.out,g1,g2];rfl,by exact Aa⟩
 go_wp2_with fail
 refine(Sb _ _ _ (Ek.ext Aa)).mono ?_
 rintro e w3⟨rfl,hx3⟩
 have K3:Blk w3 w.heap.size 86 #[.int .i64 Ae,.int .i64 Ax,.slice lW lX cK,.slice a3 Bm.length cap3,.int .i64 Bl,.int .i64 Bp,.int .i64 Bs]:=Blk.ext (by exact Bv) hx3
 obtain⟨C3,F3,L3⟩:=K3.cfl
 cases g3:Iu Ao
 .
  go_wp2_with fail
  go_ret
  exact⟨by rw[HST.out,g1,g2,g3];rfl,by exact Aa⟩
 go_wp2_with fail
 refine(Ue _ _ _ (Gm.ext Aa)).mono ?_
 rintro e w4⟨rfl,hx4⟩
 have K4:Blk w4 w.heap.size 86 #[.int .i64 Ae,.int .i64 Ax,.slice lW lX cK,.slice a3 Bm.length cap3,.int .i64 Bl,.int .i64 Bp,.int .i64 Bs]:=Blk.ext (by exact Bv) hx4
 clear C3 F3 L3
 obtain⟨C4,F4,L4⟩:=K4.cfl
 cases g4:Kd Bm
 .
  go_wp2_with fail
  go_ret
  exact⟨by rw[HST.out,g1,g2,g3,g4];rfl,by exact Aa⟩
 go_wp2_with fail
 refine(Zp _ _ _ _).mono ?_
 rintro e w5⟨rfl,hx5⟩
 have K5:Blk w5 w.heap.size 86 #[.int .i64 Ae,.int .i64 Ax,.slice lW lX cK,.slice a3 Bm.length cap3,.int .i64 Bl,.int .i64 Bp,.int .i64 Bs]:=Blk.ext (by exact Bv) hx5
 clear C4 F4 L4
 obtain⟨C5,F5,L5⟩:=K5.cfl
 cases g5:Jj (⟨Bl,Bp,Bs⟩:Na)
 .
  go_wp2_with fail
  go_ret
  exact⟨by rw[HST.out,g1,g2,g3,g4,g5];rfl,by exact Aa⟩
 go_wp2_with fail
 have hst2:Gg (⟨Ae,Ax,Ao,Bm,⟨Bl,Bp,Bs⟩⟩:Fl)=Bm.all (fun j=>decide (j.Fired<=Ae)):=by rw[HST.out,g1,g2,g3,g4,g5];rfl
 have HS2:=Lib.hid hst2
 have I0:w5.cell? ⟨w.heap.size,0,none⟩=some (.int .i64 Ae):=by rw[K5.cell];rfl
 have I3:w5.cell? ⟨w.heap.size,3,none⟩=some (.slice a3 Bm.length cap3):=by rw[K5.cell];rfl
 have E0:Ext w w5:=by exact Aa
 clear g1 g2 g3 g4 g5 C5 F5 L5 hx3 hx4 hx5 hst2 HST K3 K4 K5
 go_loopw [3] (fun i wr=>∃k:Nat,k<=Bm.length/\i=.int .i64 k/\Ext w5 wr/\Hid ((Bm.take k).all (fun j=>decide (j.Fired<=Ae))=true)) (fun i _=>Bm.length - (intOf i).toNat)
 case atStart=>exact⟨0,Nat.zero_le _,rfl,Ext.refl _,Lib.hid (by simp)⟩
 case round =>
  obtain⟨k,hk,rfl,he,hp⟩:=hrel
  have J0:=he.cell I0;have J3:=he.cell I3
  have hbl:w.heap.size<wr.heap.size:=World.block_lt_of_cell? _ _ J0
  by_cases hlt:k<Bm.length
  .
   obtain⟨d,b1,o1,hd,rfl,hb1,c⟩:=HA.out k hlt
   have d0:=(E0.trans he).cell (c 0 _ dC rfl)
   have d1:=(E0.trans he).cell (c 1 _ dC rfl)
   have d2:=(E0.trans he).cell (c 2 _ dC rfl)
   have d3:=(E0.trans he).cell (c 3 _ dC rfl)
   have d4:=(E0.trans he).cell (c 4 _ dC rfl)
   simp only[Nat.add_zero] at d0
   have HD:=Lib.hid hd
   clear c hd
   by_cases hf:Ae<d.Fired
   .
    have hf':decide (Ae<d.Fired)=true:=by simpa using hf
    have HF:=Lib.hid hf
    clear hf
    go_wp2;go_quiet (fail);go_wp2
    go_ret
    exact⟨congrArg (fun z=>Ending.returned (.bool z)) (HS2.out.trans (mI HD.out (by have:=HF.out;simp;omega))).symm,by exact Aa⟩
   have hf':decide (Ae<d.Fired)=false:=by simpa using hf
   have HF:=Lib.hid hf
   clear hf
   go_wp2;go_quiet (fail);go_wp2
   go_roundw
   case rel=>exact⟨k+1,by omega,by go_num,by exact Aa,Lib.hid (cP HD.out hp.out (by have:=HF.out;simp;omega))⟩
   case measure=>simp[intOf];omega
  obtain rfl:k=Bm.length:=by omega
  go_wp2
  go_ret
  have hp':=hp.out
  rw[List.take_length] at hp'
  exact⟨congrArg (fun z=>Ending.returned (.bool z)) (HS2.out.trans hp').symm,by exact Aa⟩
theorem Xf(w:World)(Ae:Int)(Ax:Int)(Fy:Value)(Ao:List Ft)(Iq:Value)(Bm:List Hl)(Bl:Int)(Bp:Int)(Bs:Int)(Ek:Aj 2 w Fy (Dp Ao))(Gm:Aj 5 w Iq (Fj Bm)):Calls Tryz.prog 242 #[.agg #[.int .i64 Ae,.int .i64 Ax,Fy,Iq,.int .i64 Bl,.int .i64 Bp,.int .i64 Bs]] w (Cp w (.bool (Gg (⟨Ae,Ax,Ao,Bm,⟨Bl,Bp,Bs⟩⟩:Fl)))):=by
 obtain⟨lW,lX,cK,rfl⟩:=Ek.shape
 obtain⟨a3,cap3,rfl,hcap,hm,ha⟩:=Gm.recs (f:=Hl.ints) (fun _=>rfl) dC
 have HA:=Lib.hid ha
 clear ha
 unfold maxLen at hm
 have hst:Gg (⟨Ae,Ax,Ao,Bm,⟨Bl,Bp,Bs⟩⟩:Fl)=(inb Ae 0 2000&&(Ea Ax&&(Iu Ao&&(Kd Bm&&(Jj (⟨Bl,Bp,Bs⟩:Na)&&Bm.all (fun j=>decide (j.Fired<=Ae))))))):=rfl
 have HST:=Lib.hid hst
 clear hst
 go_enter Tryz.func242,Tryz.ntmps242
 go_wp2_with fail
 refine(Cf _ _ _ _).mono ?_
 rintro e w9⟨rfl,rfl⟩
 cases g1:inb Ae 0 2000
 .
  go_wp2_with fail
  go_ret
  exact⟨by rw[HST.out,g1];rfl,by exact Aa⟩
 go_wp2_with fail
 refine(Ey _ _).mono ?_
 rintro e w9⟨rfl,rfl⟩
 cases g2:Ea Ax
 .
  go_wp2_with fail
  go_ret
  exact⟨by rw[HST.out,g1,g2];rfl,by exact Aa⟩
 go_wp2_with fail
 refine(Xe _ _ _ (Ek.ext Aa)).mono ?_
 rintro e w3⟨rfl,hx3⟩
 have K3:Blk w3 w.heap.size 86 #[.int .i64 Ae,.int .i64 Ax,.slice lW lX cK,.slice a3 Bm.length cap3,.int .i64 Bl,.int .i64 Bp,.int .i64 Bs]:=Blk.ext (by exact Bv) hx3
 obtain⟨C3,F3,L3⟩:=K3.cfl
 cases g3:Iu Ao
 .
  go_wp2_with fail
  go_ret
  exact⟨by rw[HST.out,g1,g2,g3];rfl,by exact Aa⟩
 go_wp2_with fail
 refine(Zq _ _ _ (Gm.ext Aa)).mono ?_
 rintro e w4⟨rfl,hx4⟩
 have K4:Blk w4 w.heap.size 86 #[.int .i64 Ae,.int .i64 Ax,.slice lW lX cK,.slice a3 Bm.length cap3,.int .i64 Bl,.int .i64 Bp,.int .i64 Bs]:=Blk.ext (by exact Bv) hx4
 clear C3 F3 L3
 obtain⟨C4,F4,L4⟩:=K4.cfl
 cases g4:Kd Bm
 .
  go_wp2_with fail
  go_ret
  exact⟨by rw[HST.out,g1,g2,g3,g4];rfl,by exact Aa⟩
 go_wp2_with fail
 refine(nE _ _ _ _).mono ?_
 rintro e w5⟨rfl,hx5⟩
 have K5:Blk w5 w.heap.size 86 #[.int .i64 Ae,.int .i64 Ax,.slice lW lX cK,.slice a3 Bm.length cap3,.int .i64 Bl,.int .i64 Bp,.int .i64 Bs]:=Blk.ext (by exact Bv) hx5
 clear C4 F4 L4
 obtain⟨C5,F5,L5⟩:=K5.cfl
 cases g5:Jj (⟨Bl,Bp,Bs⟩:Na)
 .
  go_wp2_with fail
  go_ret
  exact⟨by rw[HST.out,g1,g2,g3,g4,g5];rfl,by exact Aa⟩
 go_wp2_with fail
 have hst2:Gg (⟨Ae,Ax,Ao,Bm,⟨Bl,Bp,Bs⟩⟩:Fl)=Bm.all (fun j=>decide (j.Fired<=Ae)):=by rw[HST.out,g1,g2,g3,g4,g5];rfl
 have HS2:=Lib.hid hst2
 have I0:w5.cell? ⟨w.heap.size,0,none⟩=some (.int .i64 Ae):=by rw[K5.cell];rfl
 have I3:w5.cell? ⟨w.heap.size,3,none⟩=some (.slice a3 Bm.length cap3):=by rw[K5.cell];rfl
 have E0:Ext w w5:=by exact Aa
 clear g1 g2 g3 g4 g5 C5 F5 L5 hx3 hx4 hx5 hst2 HST K3 K4 K5
 go_loopw [36] (fun i wr=>∃k:Nat,k<=Bm.length/\i=.int .i64 k/\Ext w5 wr/\Hid ((Bm.take k).all (fun j=>decide (j.Fired<=Ae))=true)) (fun i _=>Bm.length - (intOf i).toNat)
 case atStart=>exact⟨0,Nat.zero_le _,rfl,Ext.refl _,Lib.hid (by simp)⟩
 case round =>
  obtain⟨k,hk,rfl,he,hp⟩:=hrel
  have J0:=he.cell I0;have J3:=he.cell I3
  have hbl:w.heap.size<wr.heap.size:=World.block_lt_of_cell? _ _ J0
  by_cases hlt:k<Bm.length
  .
   obtain⟨d,b1,o1,hd,rfl,hb1,c⟩:=HA.out k hlt
   have d0:=(E0.trans he).cell (c 0 _ dC rfl)
   have d1:=(E0.trans he).cell (c 1 _ dC rfl)
   have d2:=(E0.trans he).cell (c 2 _ dC rfl)
   have d3:=(E0.trans he).cell (c 3 _ dC rfl)
   have d4:=(E0.trans he).cell (c 4 _ dC rfl)
   simp only[Nat.add_zero] at d0
   have HD:=Lib.hid hd
   clear c hd
   by_cases hf:Ae<d.Fired
   .
    have hf':decide (Ae<d.Fired)=true:=by simpa using hf
    have HF:=Lib.hid hf
    clear hf
    go_wp2;(repeat (go_quiet (fail);go_wp2))
    go_ret
    exact⟨congrArg (fun z=>Ending.returned (.bool z)) (HS2.out.trans (mI HD.out (by have:=HF.out;simp;omega))).symm,by exact Aa⟩
   have hf':decide (Ae<d.Fired)=false:=by simpa using hf
   have HF:=Lib.hid hf
   clear hf
   go_wp2;(repeat (go_quiet (fail);go_wp2))
   go_roundw
   case rel=>exact⟨k+1,by omega,by go_num,by exact Aa,Lib.hid (cP HD.out hp.out (by have:=HF.out;simp;omega))⟩
   case measure=>simp[intOf];omega
  obtain rfl:k=Bm.length:=by omega
  go_wp2
  go_ret
  have hp':=hp.out
  rw[List.take_length] at hp'
  exact⟨congrArg (fun z=>Ending.returned (.bool z)) (HS2.out.trans hp').symm,by exact Aa⟩
end Go.Proofs.YtkpmbocbbgocbaaGreat
