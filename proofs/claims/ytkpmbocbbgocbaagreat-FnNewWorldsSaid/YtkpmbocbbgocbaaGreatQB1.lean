/- HelpM KM V2 V3 V4a V4b V4c V4 V5 V6 V7 V12 V13 V8 V9 V10 V11 V14 KSc. -/
import Derived.Test.YtkpmbocbbgocbaaGreatQGe
import Derived.Test.YtkpmbocbbgocbaaGreatQGw
set_option linter.unusedSimpArgs false
set_option linter.unusedVariables false
set_option maxHeartbeats 8000000
set_option maxRecDepth 100000
namespace Go.Proofs.YtkpmbocbbgocbaaGreat
open Go.RowKit Go.G8
theorem Bi.lit0(w:World)(e e1:TypeId)(n:Nat):Bi w.heap.size e e1 n (w.alloc (.cells #[] e)) (.slice (some ⟨w.heap.size,0,none⟩) 0 0) [] [] :=
 ⟨by intro x hx;simp at hx,rfl,Own.of_blk (cap:=0) (Blk.new w e #[]) (Nat.le_refl _) (by simp) (by simp[Je]) (Nat.le_refl _) dC (by simpa using Pre.zero _ _),fun i s r h1 h2=>by simp at h1,fun i j s t k h1 h2 h3=>by simp at h3,fun i s k h1=>by simp at h1⟩
def Sf(w:World)(v:Value)(l:List Gn):Prop:=Ck 2 w v l
def Iw(B:Nat)(w:World)(v:Value)(l:List Gn)(F:List Nat):Prop:=∃ss:List Value,Bi B 255 2 2 w v l ss/\F=Be (v::ss)
def sQ(l:List Gn):Nat:=tot 2 l
def Zv(B:Nat)(w:World)(v:Value)(l:List Gn)(F:List Nat)(q:Int):Prop:=∃ss:List Value,Bi B 255 2 2 w v (Zl 2 q l) ss/\F=Be (v::ss)
section
variable {B B':Nat} {w w':World} {v:Value} {l:List Gn} {F:List Nat} {q:Int}
theorem Sf.shape(h:Sf w v l):∃a n k,v=.slice a n k:=Ck.shape h
theorem Sf.ext(h:Sf w v l)(x:Ext w w'):Sf w' v l:=Ck.ext h x
theorem Iw.of(h:Hw B 255 2 2 w v l):∃F,Iw B w v l F:=let ⟨ss,h⟩:=h;⟨_,ss,h,rfl⟩
theorem Iw.rd(h:Iw B w v l F):Sf w v l:=let ⟨_,h,_⟩:=h;h.nest
theorem Iw.ext(h:Iw B w v l F)(x:Ext w w'):Iw B w' v l F:=let ⟨s,h,e⟩:=h;⟨s,h.ext x,e⟩
theorem Iw.keep(h:Iw B w v l F)(x:Chg B w w'):Iw B w' v l F:=let ⟨s,h,e⟩:=h;⟨s,h.keep x,e⟩
theorem Iw.mono(h:Iw B w v l F)(x:B'<=B):Iw B' w v l F:=let ⟨s,h,e⟩:=h;⟨s,h.mono x,e⟩
theorem Iw.upd(h:Iw B w v l F){fs:List Nat}(x:Upd w w' fs)(hn:∀k,k ∈ F->k ∈ fs->False):Iw B w' v l F:=by
 obtain⟨s,h,rfl⟩:=h
 exact⟨s,h.upd x hn,rfl⟩
theorem Iw.low(h:Iw B w v l F):∀k,k ∈ F->B<=k/\k<w.heap.size:=by
 obtain⟨s,h,rfl⟩:=h
 exact h.foot
theorem Zv.ext(h:Zv B w v l F q)(x:Ext w w'):Zv B w' v l F q:=let ⟨s,h,e⟩:=h;⟨s,h.ext x,e⟩
end
theorem uP{p:Prop}(h:p:=by intro KQ hKQ;(repeat (first|go_big_quiet_skip|(go_big_quiet_want;first|(refine Br _ _ _ ?_ rfl rfl (fun wq hq=>?_) ?_;rotate_left;(focus(have q0:=hq.cell d0;have q1:=hq.cell d1;go_simp;first|done|rfl));(try simp only[Ab,Act.put]);go_big_quiet_on)|(go_big_quiet_op;first|go_big_quiet_on|(refine⟨_,fun _ _=>rfl,?_⟩;go_big_quiet_on)|(apply Exists.intro;refine⟨fun wq hq=>?_,?_⟩;(focus(first|exact Ce hq (by have c:=dW wq d.Id;rw[hid] at c;exact c)));go_big_quiet_on)))));exact wpQuiet_nil hKQ):p:=h
theorem pH{p:Prop}(h:p:=by intro KQ hKQ;(repeat (first|go_big_quiet_skip|(go_big_quiet_want;first|(refine Br _ _ _ ?_ rfl rfl (fun wq hq=>?_) ?_;rotate_left;(focus(have q0:=hq.cell d0;have q1:=hq.cell d1;go_simp;first|done|rfl));(try simp only[Ab,Act.put]);go_big_quiet_on)|(go_big_quiet_op;first|go_big_quiet_on|(refine⟨_,fun _ _=>rfl,?_⟩;go_big_quiet_on)|(apply Exists.intro;refine⟨fun wq hq=>?_,?_⟩;(focus(first|exact Ce hq (by have c:=dW wq d.Id;rw[hid] at c;exact c)|exact Ce hq (by have c:=Fh wq d.Due;rw[htm] at c;exact c)));go_big_quiet_on)))));exact wpQuiet_nil hKQ):p:=h
theorem pI{p:Prop}(h:p:=by intro KQ hKQ;(repeat (first|go_big_quiet_skip|(go_big_quiet_want;first|(refine Br _ _ _ ?_ rfl rfl (fun wq hq=>?_) ?_;rotate_left;(focus(have q0:=hq.cell d0;have q1:=hq.cell d1;have p0:=hq.cell e0;have p1:=hq.cell e1;go_simp;first|done|rfl));(try simp only[Ab,Act.put]);go_big_quiet_on)|(go_big_quiet_op;first|go_big_quiet_on|(refine⟨_,fun _ _=>rfl,?_⟩;go_big_quiet_on)|(apply Exists.intro;refine⟨fun wq hq=>?_,?_⟩;(focus(first|exact Ce hq (by have c:=dW wq d.Id;rw[hid] at c;exact c)|exact Ce hq (by have c:=Fh wq d.Due;rw[htm] at c;exact c)|exact Cv hq (by have c:=dV wq e d;rw[hls] at c;exact c)));go_big_quiet_on)))));exact wpQuiet_nil hKQ):p:=h
theorem cR(w:World)(v:Value)(l:List Hu)(h:Aj 2 w v (Nm l)):Calls Tryz.prog 419 #[v] w (Cp w (.bool (Pz l))):=by
 obtain⟨a,cap,rfl,hcap,hm,ha⟩:=h.recs (f:=Hu.ints) (fun _=>rfl) dC
 have HA:=Lib.hid ha
 clear ha
 unfold maxLen at hm
 by_cases h8:8<l.length
 .
  rw[Fv (fun hh=>by have:=hh.1;omega)]
  go_enter Tryz.func419,Tryz.ntmps419
  go_wp2
  go_ret
  exact⟨rfl,Ext.refl _⟩
 have h8':decide ((8:Int)<(l.length:Int))=false:=by simp;omega
 go_enter Tryz.func419,Tryz.ntmps419
 go_wp2
 go_loopw [3] (fun i wr=>∃k:Nat,k<=l.length/\i=.int .i64 k/\Ext w wr/\∀i,i<k->Vf l i) (fun i _=>l.length - (intOf i).toNat)
 case atStart=>exact⟨0,Nat.zero_le _,rfl,Ext.refl _,fun i hi=>by omega⟩
 case round =>
  obtain⟨k,hk,rfl,he,hok⟩:=hrel
  have HO:=Lib.hid hok
  clear hok
  by_cases hlt:k<l.length
  .
   obtain⟨d,b1,o1,hd,rfl,hb1,c⟩:=HA.out k hlt
   have d0:=he.cell (c 0 _ dC rfl)
   have d1:=he.cell (c 1 _ dC rfl)
   simp only[Nat.add_zero] at d0
   have HD:=Lib.hid hd
   clear c hd
   cases hid:Te d.Id
   .
    go_wp2
    refine rx0 uP fun w1 hx1=>?_
    go_wp2
    go_ret
    exact⟨congrArg (fun z=>Ending.returned (.bool z)) (Fv (fun hh=>by have:=(hh.2 k hlt d HD.out).1;rw[hid] at this;cases this)).symm,he.trans hx1⟩
   cases htm:Ea d.Due
   .
    go_wp2
    refine rx0 pH fun w1 hx1=>?_
    go_wp2
    go_ret
    exact⟨congrArg (fun z=>Ending.returned (.bool z)) (Fv (fun hh=>by have:=(hh.2 k hlt d HD.out).2.1;rw[htm] at this;cases this)).symm,he.trans hx1⟩
   have hnext:(∀e,0<k->l[k - 1]?=some e->Jp e d=true)->(∀i e,i<k->l[i]?=some e->e.Id≠d.Id)->∀i,i<k+1->Vf l i:=by
    intro n1 n2 i hi
    by_cases hik:i=k
    .
     subst hik
     intro d' hd'
     rw[HD.out] at hd'
     obtain rfl:=Option.some.inj hd'
     exact⟨hid,htm,n1,n2⟩
    exact HO.out i oM
   have HN:=Lib.hid hnext
   clear hnext
   have hdup:∀i e,i<k->l[i]?=some e->e.Id=d.Id->Pz l=false:=fun i e hi he' hh=>Fv (fun ho=>(ho.2 k hlt d HD.out).2.2.2 i e hi he' hh)
   have HU:=Lib.hid hdup
   clear hdup
   by_cases hk0:k=0
   .
    subst hk0
    simp only[Nat.zero_mul,Nat.add_zero] at d0 d1
    go_wp2
    refine rx0 pH fun w1 hx1=>?_
    go_wp2
    go_loopw [4] (fun i wr'=>i=.int .i64 0/\Ext wr wr') (fun _ _=>0)
    case atStart=>exact⟨rfl,hx1⟩
    case round =>
     obtain⟨rfl,he'⟩:=hrel
     go_wp2
     go_roundw
     case rel=>exact⟨1,by omega,rfl,he.trans he',HN.out (fun e h=>by omega) (fun i e h=>by omega)⟩
     case measure=>simp[intOf];omega
   obtain⟨e,b2,o2,hde,hbo,_,c⟩:=HA.out (k - 1) oM
   obtain⟨rfl,rfl⟩:b1=b2/\o1=o2:=by simpa using hbo
   have e0:=he.cell (c 0 _ dC rfl)
   have e1:=he.cell (c 1 _ dC rfl)
   simp only[Nat.add_zero] at e0
   have HE:=Lib.hid hde
   clear c hde hbo
   have hk1:decide (0<k)=true:=by simp;omega
   cases hls:Jp e d
   .
    go_wp2
    refine rx0 pI fun w1 hx1=>?_
    go_wp2
    go_ret
    exact⟨congrArg (fun z=>Ending.returned (.bool z)) (Fv (fun hh=>by have:=(hh.2 k hlt d HD.out).2.2.1 e oM HE.out;rw[hls] at this;cases this)).symm,he.trans hx1⟩
   go_wp2
   refine rx0 pI fun w1 hx1=>?_
   go_wp2
   go_loopw [4] (fun i wr'=>∃m:Nat,m<=k/\i=.int .i64 m/\Ext wr wr'/\∀i e,i<m->l[i]?=some e->e.Id≠d.Id) (fun i _=>k - (intOf i).toNat)
   case atStart=>exact⟨0,by omega,rfl,hx1,fun i e h=>by omega⟩
   case round =>
    obtain⟨m,hm',rfl,he',hno⟩:=hrel
    have HM:=Lib.hid hno
    clear hno
    by_cases hmk:m<k
    .
     obtain⟨g,b2,o2,hdg,hbo,_,c⟩:=HA.out m oM
     obtain⟨rfl,rfl⟩:b1=b2/\o1=o2:=by simpa using hbo
     have g0:=(he.trans he').cell (c 0 _ dC rfl)
     have f0:=he'.cell d0
     simp only[Nat.add_zero] at g0
     have HG:=Lib.hid hdg
     clear c hdg hbo
     by_cases heq:g.Id=d.Id
     .
      have hb:(g.Id == d.Id)=true:=by simpa using heq
      have HEQ:=Lib.hid heq
      clear heq
      go_wp2
      go_quiet (fail)
      go_wp2
      go_ret
      exact⟨congrArg (fun z=>Ending.returned (.bool z)) (HU.out m g hmk HG.out HEQ.out).symm,(he.trans he').drewN _⟩
     have hb:(g.Id == d.Id)=false:=by simpa using heq
     go_wp2
     go_quiet (fail)
     go_wp2
     go_roundw
     case rel=>
      refine⟨m+1,by omega,by go_num,he'.drewN _,fun i e' hi hl=>?_⟩
      by_cases him:i=m
      .
       subst him
       rw[HG.out] at hl
       obtain rfl:=Option.some.inj hl
       exact heq
      exact HM.out i e' oM hl
     case measure=>simp[intOf];omega
    obtain rfl:m=k:=by omega
    go_wp2
    go_roundw
    case rel=>exact⟨m+1,by omega,by go_num,he.trans he',HN.out (fun e' _ hl=>by rw[HE.out] at hl;obtain rfl:=Option.some.inj hl;exact hls) HM.out⟩
    case measure=>simp[intOf];omega
  obtain rfl:k=l.length:=by omega
  go_wp2
  go_ret
  exact⟨congrArg (fun z=>Ending.returned (.bool z)) (Qt ⟨by omega,HO.out⟩).symm,he⟩
theorem Zw(w:World)(x:Int):Calls Tryz.prog 418 #[.int .i64 x] w fun e w'=>e=.returned (.bool (Ga x))/\w=w':=by
 by_cases h2:x=2
 .
  subst h2
  go_enter Tryz.func418,Tryz.ntmps418
  go_wp2
  go_ret
  exact⟨rfl,rfl⟩
 have e2:(x == 2)=false:=by simpa using h2
 by_cases h3:x=3
 .
  subst h3
  go_enter Tryz.func418,Tryz.ntmps418
  go_wp2
  go_ret
  exact⟨rfl,rfl⟩
 have e3:(x == 3)=false:=by simpa using h3
 go_enter Tryz.func418,Tryz.ntmps418
 go_wp2
 go_ret
 exact⟨by simp[Ga,e2,e3],rfl⟩
theorem gZ(w:World)(x:Int):Calls Tryz.prog 175 #[.int .i64 x] w fun e w'=>e=.returned (.bool (Ga x))/\w=w':=by
 by_cases h2:x=2
 .
  subst h2
  go_enter Tryz.func175,Tryz.ntmps175
  go_wp2
  go_ret
  exact⟨rfl,rfl⟩
 have e2:(x == 2)=false:=by simpa using h2
 by_cases h3:x=3
 .
  subst h3
  go_enter Tryz.func175,Tryz.ntmps175
  go_wp2
  go_ret
  exact⟨rfl,rfl⟩
 have e3:(x == 3)=false:=by simpa using h3
 go_enter Tryz.func175,Tryz.ntmps175
 go_wp2
 go_ret
 exact⟨by simp[Ga,e2,e3],rfl⟩
theorem Pq(w:World)(x:Int):Calls Tryz.prog 170 #[.int .i64 x] w fun e w'=>e=.returned (.bool (Ga x))/\w=w':=by
 by_cases h2:x=2
 .
  subst h2
  go_enter Tryz.func170,Tryz.ntmps170
  go_wp2
  go_ret
  exact⟨rfl,rfl⟩
 have e2:(x == 2)=false:=by simpa using h2
 by_cases h3:x=3
 .
  subst h3
  go_enter Tryz.func170,Tryz.ntmps170
  go_wp2
  go_ret
  exact⟨rfl,rfl⟩
 have e3:(x == 3)=false:=by simpa using h3
 go_enter Tryz.func170,Tryz.ntmps170
 go_wp2
 go_ret
 exact⟨by simp[Ga,e2,e3],rfl⟩
theorem kK(w:World)(j:Wd)(s:Value)(h:Aj 2 w s (Nm j.Open)):Calls Tryz.prog 390 #[.agg #[.int .i64 j.Index,.int .i64 j.Time,.int .i64 j.Holder,.int .i64 j.Epoch,.int .i64 j.Until,s]] w (Cp w (.bool (Ir j))):=by
 obtain⟨a,n,c,rfl⟩:=h.shape
 by_cases hH:j.Holder=0
 .
  have hH':(j.Holder == 0)=true:=by simpa using hH
  clear hH
  go_enter Tryz.func390,Tryz.ntmps390
  go_wp2_with (first|(go_at_call 303;refine(Dv _ _ _ _).mono ?_;rintro e w1 ⟨rfl,rfl⟩)|(go_at_call 207;refine(Fh _ _).mono ?_;rintro e w1 ⟨rfl,rfl⟩)|(go_at_call 418;refine(Zw _ _).mono ?_;rintro e w1 ⟨rfl,rfl⟩)|(go_at_call 419;refine(cR _ _ _ (h.ext xT)).mono ?_;rintro e w1 ⟨rfl,hx1⟩))
  all_goals
   go_ret
   refine⟨congrArg (fun z=>Ending.returned (.bool z)) ?_,?_⟩
   .
    simp[Ir, *]
   exact xT
 have hH':(j.Holder == 0)=false:=by simpa using hH
 clear hH
 go_enter Tryz.func390,Tryz.ntmps390
 go_wp2_with (first|(go_at_call 303;refine(Dv _ _ _ _).mono ?_;rintro e w1 ⟨rfl,rfl⟩)|(go_at_call 207;refine(Fh _ _).mono ?_;rintro e w1 ⟨rfl,rfl⟩)|(go_at_call 418;refine(Zw _ _).mono ?_;rintro e w1 ⟨rfl,rfl⟩)|(go_at_call 419;refine(cR _ _ _ (h.ext xT)).mono ?_;rintro e w1 ⟨rfl,hx1⟩))
 all_goals
  go_ret
  refine⟨congrArg (fun z=>Ending.returned (.bool z)) ?_,?_⟩
  .
   simp[Ir, *]
  exact xT
theorem zb(w:World):(zeroValue 4).run Tryz.prog w=.ok (.bool false) w:=by kernel_rfl
theorem hO(w:World)(j:Wd)(s:Value)(h:Aj 2 w s (Nm j.Open))(hbad:¬ (inb j.Index 0 2000=true/\Ea j.Time=true/\(j.Holder == 0||Ga j.Holder)=true/\inb j.Epoch 0 1000=true/\inb j.Until 0 1001000=true/\j.Open.length<=8)):Calls Tryz.prog 408 #[.agg #[.int .i64 j.Index,.int .i64 j.Time,.int .i64 j.Holder,.int .i64 j.Epoch,.int .i64 j.Until,s]] w (Cp w (.bool (Ir j))):=by
 obtain⟨a,cap,rfl,hcap,hm,ha⟩:=h.recs (f:=Hu.ints) (fun _=>rfl) dC
 have HA:=Lib.hid ha
 clear ha
 unfold maxLen at hm
 have hmm:=@run_makeMap Tryz.prog
 have hb0:Ir j=false:=by
  have e8:¬ j.Open.length<=8->Pz j.Open=false:=fun hn=>Fv (fun hh=>hn hh.1)
  cases h1:inb j.Index 0 2000 <;> cases h2:Ea j.Time <;> cases h3:(j.Holder == 0||Ga j.Holder) <;> cases h4:inb j.Epoch 0 1000 <;> cases h5:inb j.Until 0 1001000 <;> simp only[Ir,h1,h2,h3,h4,h5,Bool.false_and,Bool.and_false,Bool.true_and]
  exact e8 (fun h8=>hbad ⟨h1,h2,h3,h4,h5,h8⟩)
 rw[hb0]
 have HBD:=Lib.hid hbad
 clear hb0 hbad
 by_cases hH:j.Holder=0
 .
  have hH':(j.Holder == 0)=true:=by simpa using hH
  have hH2:(j.Holder != 0)=false:=by simpa using hH
  clear hH
  go_enter Tryz.func408,Tryz.ntmps408
  go_wp2_with (first|(go_at_call 176;refine(Cf _ _ _ _).mono ?_;rintro e w1 ⟨rfl,rfl⟩)|(go_at_call 177;refine(Ey _ _).mono ?_;rintro e w1 ⟨rfl,rfl⟩)|(go_at_call 170;refine(Pq _ _).mono ?_;rintro e w1 ⟨rfl,rfl⟩))
  all_goals try(go_ret;refine⟨rfl,?_⟩;(exact xT);done)
  exfalso
  refine HBD.out ⟨?_,?_,?_,?_,?_,?_⟩
  all_goals first|assumption|omega|(rw[Bool.or_eq_true];first|exact .inl hH'|exact .inr (by simpa using ‹(!Ga j.Holder)=false›))
 have hH':(j.Holder == 0)=false:=by simpa using hH
 have hH2:(j.Holder != 0)=true:=by simpa using hH
 clear hH
 go_enter Tryz.func408,Tryz.ntmps408
 go_wp2_with (first|(go_at_call 176;refine(Cf _ _ _ _).mono ?_;rintro e w1 ⟨rfl,rfl⟩)|(go_at_call 177;refine(Ey _ _).mono ?_;rintro e w1 ⟨rfl,rfl⟩)|(go_at_call 170;refine(Pq _ _).mono ?_;rintro e w1 ⟨rfl,rfl⟩))
 all_goals try(go_ret;refine⟨rfl,?_⟩;(exact xT);done)
 exfalso
 refine HBD.out ⟨?_,?_,?_,?_,?_,?_⟩
 all_goals first|assumption|omega|(rw[Bool.or_eq_true];first|exact .inl hH'|exact .inr (by simpa using ‹(!Ga j.Holder)=false›))
theorem pJ{p:Prop}(h:p:=by intro KQ hKQ;(repeat (first|go_big_quiet_skip|(go_big_quiet_want;first|(refine Br _ _ _ ?_ rfl rfl (fun wq hq=>?_) ?_;rotate_left;(focus(have q0:=hq.cell x0;have q1:=hq.cell x1;go_simp;first|done|rfl));(try simp only[Ab,Act.put]);go_big_quiet_on)|(refine Ls _ _ _ _ _ ?_ rfl rfl rfl (fun wq hq=>?_) ?_;rotate_left;(focus(fail));(try simp only[Ab,Act.put]);go_big_quiet_on)|(go_big_quiet_op;first|go_big_quiet_on|(refine⟨_,fun _ _=>rfl,?_⟩;go_big_quiet_on)|(apply Exists.intro;refine⟨fun wq hq=>?_,?_⟩;(focus(first|exact Ce hq (by have c:=Vg wq d.Id;rw[hid] at c;exact c)));go_big_quiet_on)))));exact wpQuiet_nil hKQ):p:=h
theorem pK{p:Prop}(h:p:=by intro KQ hKQ;(repeat (first|go_big_quiet_skip|(go_big_quiet_want;first|(refine Br _ _ _ ?_ rfl rfl (fun wq hq=>?_) ?_;rotate_left;(focus(have q0:=hq.cell x0;have q1:=hq.cell x1;go_simp;first|done|rfl));(try simp only[Ab,Act.put]);go_big_quiet_on)|(refine Ls _ _ _ _ _ ?_ rfl rfl rfl (fun wq hq=>?_) ?_;rotate_left;(focus(fail));(try simp only[Ab,Act.put]);go_big_quiet_on)|(go_big_quiet_op;first|go_big_quiet_on|(refine⟨_,fun _ _=>rfl,?_⟩;go_big_quiet_on)|(apply Exists.intro;refine⟨fun wq hq=>?_,?_⟩;(focus(first|exact Ce hq (by have c:=Vg wq d.Id;rw[hid] at c;exact c)|exact Ce hq (by have c:=Ey wq d.Due;rw[htm] at c;exact c)));go_big_quiet_on)))));exact wpQuiet_nil hKQ):p:=h
theorem eH{p:Prop}(h:p:=by intro KQ hKQ;(repeat (first|go_big_quiet_skip|(go_big_quiet_want;first|(refine Br _ _ _ ?_ rfl rfl (fun wq hq=>?_) ?_;rotate_left;(focus(have q0:=hq.cell x0;have q1:=hq.cell x1;go_simp;first|done|rfl));(try simp only[Ab,Act.put]);go_big_quiet_on)|(refine Ls _ _ _ _ _ ?_ rfl rfl rfl (fun wq hq=>?_) ?_;rotate_left;(focus(exact(by have c:=(hset'.ext hq).look (t:=407) Tryz.underlying2 Tryz.underlying407 Tryz.underlying4 (zb _) hw;rw[hnu] at c;exact c)));(try simp only[Ab,Act.put]);go_big_quiet_on)|(go_big_quiet_op;first|go_big_quiet_on|(refine⟨_,fun _ _=>rfl,?_⟩;go_big_quiet_on)|(apply Exists.intro;refine⟨fun wq hq=>?_,?_⟩;(focus(first|exact Ce hq (by have c:=Vg wq d.Id;rw[hid] at c;exact c)|exact Ce hq (by have c:=Ey wq d.Due;rw[htm] at c;exact c)));go_big_quiet_on)))));exact wpQuiet_nil hKQ):p:=h
theorem eI{p:Prop}(h:p:=by intro KQ hKQ;(repeat (first|go_big_quiet_skip|(go_big_quiet_want;first|(refine Br _ _ _ ?_ rfl rfl (fun wq hq=>?_) ?_;rotate_left;(focus(have q0:=hq.cell x0;have q1:=hq.cell x1;have q2:=hq.cell jb';have p0:=hq.cell e0';have p1:=hq.cell e1';go_simp;first|done|rfl));(try simp only[Ab,Act.put]);go_big_quiet_on)|(refine Ls _ _ _ _ _ ?_ rfl rfl rfl (fun wq hq=>?_) ?_;rotate_left;(focus(exact(by have c:=(hset'.ext hq).look (t:=407) Tryz.underlying2 Tryz.underlying407 Tryz.underlying4 (zb _) hw;rw[hnu] at c;exact c)));(try simp only[Ab,Act.put]);go_big_quiet_on)|(go_big_quiet_op;first|go_big_quiet_on|(refine⟨_,fun _ _=>rfl,?_⟩;go_big_quiet_on)|(apply Exists.intro;refine⟨fun wq hq=>?_,?_⟩;(focus(first|exact Ce hq (by have c:=Vg wq d.Id;rw[hid] at c;exact c)|exact Ce hq (by have c:=Ey wq d.Due;rw[htm] at c;exact c)|exact Cv hq (by have c:=nC wq e d;rw[hls] at c;exact c)));go_big_quiet_on)))));exact wpQuiet_nil hKQ):p:=h
theorem eJ(w:World)(j:Wd)(s:Value)(h:Aj 2 w s (Nm j.Open))(h1:inb j.Index 0 2000=true)(h2:Ea j.Time=true)(h3:(j.Holder == 0)=true)(h4:inb j.Epoch 0 1000=true)(h5:inb j.Until 0 1001000=true)(h8:j.Open.length<=8):Calls Tryz.prog 408 #[.agg #[.int .i64 j.Index,.int .i64 j.Time,.int .i64 j.Holder,.int .i64 j.Epoch,.int .i64 j.Until,s]] w (Cp w (.bool (Ir j))):=by
 obtain⟨a,cap,rfl,hcap,hm,ha⟩:=h.recs (f:=Hu.ints) (fun _=>rfl) dC
 have HA:=Lib.hid ha
 clear ha
 unfold maxLen at hm
 have hmm:=@run_makeMap Tryz.prog
 have hb0:Ir j=Pz j.Open:=by simp[Ir, *]
 have HB0:=Lib.hid hb0
 clear hb0
 have h8':decide ((8:Int)<(j.Open.length:Int))=false:=by simp;omega
 have h3':(j.Holder != 0)=false:=by simpa using h3
 go_enter Tryz.func408,Tryz.ntmps408
 go_wp2_with (first|(go_at_call 176;refine(Cf _ _ _ _).mono ?_;rintro e w1 ⟨rfl,rfl⟩)|(go_at_call 177;refine(Ey _ _).mono ?_;rintro e w1 ⟨rfl,rfl⟩)|(go_at_call 170;refine(Pq _ _).mono ?_;rintro e w1 ⟨rfl,rfl⟩))
 clear hmm
 go_loopw [47] (fun i wr=>∃k:Nat,k<=j.Open.length/\i=.int .i64 k/\Ext w wr/\wr.cell? ⟨w.heap.size,5,none⟩=some (.slice a j.Open.length cap)/\(∃S,Mz Tryz.prog 2 4 wr (w.heap.size+1) k S/\(∀i,i<k->Vf j.Open i)/\(∀x,x ∈ S↔∃i e,i<k/\j.Open[i]?=some e/\e.Id=x))) (fun i _=>j.Open.length - (intOf i).toNat)
 case atStart=>exact⟨0,Nat.zero_le _,rfl,((Ext.refl _).alloc _).alloc _,by simp,[],by simpa using Mz.made Tryz.prog 2 4 (w.alloc _),fun i hi=>by omega,fun x=>by simp⟩
 case round =>
  obtain⟨k,hk,rfl,he,jb,S,hset,hok,hS⟩:=hrel
  have HO:=Lib.hid hok
  have HM:=Lib.hid hS
  clear hok hS
  have hsz:=he.size
  by_cases hlt:k<j.Open.length
  .
   obtain⟨d,b1,o1,hd,rfl,hb1,c⟩:=HA.out k hlt
   have d0:=he.cell (c 0 _ dC rfl)
   have d1:=he.cell (c 1 _ dC rfl)
   simp only[Nat.add_zero] at d0
   have HD:=Lib.hid hd
   clear c hd
   go_wp2
   obtain⟨W,hW⟩:∃W,W=wr.alloc (.cells #[.int .i64 d.Id,.int .i64 d.Due] 286):=⟨_,rfl⟩
   have x0:W.cell? ⟨wr.heap.size,0,none⟩=some (.int .i64 d.Id):=by rw[hW];simp
   have x1:W.cell? ⟨wr.heap.size,1,none⟩=some (.int .i64 d.Due):=by rw[hW];simp
   have jb':W.cell? ⟨w.heap.size,5,none⟩=some (.slice (some ⟨b1,o1,none⟩) j.Open.length cap):=by rw[hW];exact((Ext.refl wr).alloc _).cell jb
   have hset':Mz Tryz.prog 2 4 W (w.heap.size+1) k S:=by rw[hW];exact hset.ext ((Ext.refl wr).alloc _)
   have heW:Ext w W:=by rw[hW];exact he.alloc _
   have heR:Ext wr W:=by rw[hW];exact(Ext.refl wr).alloc _
   rw[<-hW]
   clear hW
   cases hid:Te d.Id
   .
    refine rx0 pJ fun w1 hx1=>?_
    go_wp2
    go_ret
    exact⟨congrArg (fun z=>Ending.returned (.bool z)) (HB0.out.trans (Fv (fun hh=>by have:=(hh.2 k hlt d HD.out).1;rw[hid] at this;cases this))).symm,heW.trans hx1⟩
   have hw:(Lit.int .i64 d.Id).wf=true:=by
    have:=Dz.1 hid
    exact WalkArith.wf_i64 oM
   cases htm:Ea d.Due
   .
    refine rx0 pK fun w1 hx1=>?_
    go_wp2
    go_ret
    exact⟨congrArg (fun z=>Ending.returned (.bool z)) (HB0.out.trans (Fv (fun hh=>by have:=(hh.2 k hlt d HD.out).2.1;rw[htm] at this;cases this))).symm,heW.trans hx1⟩
   by_cases hmem:d.Id ∈ S
   .
    have hnu:decide (d.Id ∈ S)=true:=by simpa using hmem
    have HMM:=Lib.hid hmem
    clear hmem
    refine rx0 eH fun w1 hx1=>?_
    go_wp2
    go_ret
    exact⟨congrArg (fun z=>Ending.returned (.bool z)) (HB0.out.trans (Fv (fun hh=>by obtain⟨i,e,hi,he',hid'⟩:=(HM.out d.Id).1 HMM.out;exact(hh.2 k hlt d HD.out).2.2.2 i e hi he' hid'))).symm,heW.trans hx1⟩
   have hnu:decide (d.Id ∈ S)=false:=by simpa using hmem
   have hnd:∀i e,i<k->j.Open[i]?=some e->e.Id≠d.Id:=fun i e hi he' hid'=>hmem ((HM.out d.Id).2 ⟨i,e,hi,he',hid'⟩)
   have HND:=Lib.hid hnd
   clear hmem hnd
   have hnext:(∀e,0<k->j.Open[k - 1]?=some e->Jp e d=true)->∀i,i<k+1->Vf j.Open i:=by
    intro n1 i hi
    by_cases hik:i=k
    .
     subst hik
     intro d' hd'
     rw[HD.out] at hd'
     obtain rfl:=Option.some.inj hd'
     exact⟨hid,htm,n1,HND.out⟩
    exact HO.out i oM
   have HN:=Lib.hid hnext
   clear hnext
   have hs2:∀x,x ∈ d.Id::S↔∃i e,i<k+1/\j.Open[i]?=some e/\e.Id=x:=by
    intro x
    rw[List.mem_cons,HM.out x]
    constructor
    .
     rintro(rfl|⟨i,e,hi,h1,h2⟩)
     .
      exact⟨k,d,by omega,HD.out,rfl⟩
     exact⟨i,e,by omega,h1,h2⟩
    rintro⟨i,e,hi,h1,h2⟩
    by_cases hik:i=k
    .
     subst hik
     rw[HD.out] at h1
     obtain rfl:=Option.some.inj h1
     exact .inl h2.symm
    exact .inr ⟨i,e,by omega,h1,h2⟩
   have HS:=Lib.hid hs2
   clear hs2
   by_cases hk0:k=0
   .
    subst hk0
    refine rx0 eH fun w1 hx1=>?_
    have x0':=hx1.cell x0
    go_wp2_with (at_mapUpdate;refine Jt rfl _ _ _ 407 rfl 2 4 Tryz.underlying2 Tryz.underlying407 Tryz.underlying4 _ _ _ _ rfl rfl rfl (hset'.ext hx1) (by unfold maxLen;omega) hw ?_;intro w2 hset2 hgr2)
    have hx2:=(heW.trans hx1).grownOwn hgr2 oM
    go_roundw
    case rel=>exact⟨0+1,by omega,by go_num,hx2,hgr2.cell (hx1.cell jb') (by first|(simp;done)|(simp;omega)),_,hset2,HN.out (fun e h=>by omega),HS.out⟩
    case measure=>simp[intOf];omega
   obtain⟨e,b2,o2,hde,hbo,_,c⟩:=HA.out (k - 1) oM
   obtain⟨rfl,rfl⟩:b1=b2/\o1=o2:=by simpa using hbo
   have e0':=heW.cell (c 0 _ dC rfl)
   have e1':=heW.cell (c 1 _ dC rfl)
   simp only[Nat.add_zero] at e0'
   have HE:=Lib.hid hde
   clear c hde hbo
   have hk1:decide (0<k)=true:=by simp;omega
   cases hls:Jp e d
   .
    refine rx0 eI fun w1 hx1=>?_
    go_wp2
    go_ret
    exact⟨congrArg (fun z=>Ending.returned (.bool z)) (HB0.out.trans (Fv (fun hh=>by have:=(hh.2 k hlt d HD.out).2.2.1 e oM HE.out;rw[hls] at this;cases this))).symm,heW.trans hx1⟩
   refine rx0 eI fun w1 hx1=>?_
   have x0':=hx1.cell x0
   go_wp2_with (at_mapUpdate;refine Jt rfl _ _ _ 407 rfl 2 4 Tryz.underlying2 Tryz.underlying407 Tryz.underlying4 _ _ _ _ rfl rfl rfl (hset'.ext hx1) (by unfold maxLen;omega) hw ?_;intro w2 hset2 hgr2)
   have hx2:=(heW.trans hx1).grownOwn hgr2 oM
   go_roundw
   case rel=>exact⟨k+1,by omega,by go_num,hx2,hgr2.cell (hx1.cell jb') (by first|(simp;done)|(simp;omega)),_,hset2,HN.out (fun e' _ hl=>by rw[HE.out] at hl;obtain rfl:=Option.some.inj hl;exact hls),HS.out⟩
   case measure=>simp[intOf];omega
  obtain rfl:k=j.Open.length:=by omega
  go_wp2
  go_ret
  exact⟨congrArg (fun z=>Ending.returned (.bool z)) (HB0.out.trans (Qt ⟨by omega,HO.out⟩)).symm,he⟩
theorem eK(w:World)(j:Wd)(s:Value)(h:Aj 2 w s (Nm j.Open))(h1:inb j.Index 0 2000=true)(h2:Ea j.Time=true)(h3:(j.Holder == 0)=false)(h6:Ga j.Holder=true)(h4:inb j.Epoch 0 1000=true)(h5:inb j.Until 0 1001000=true)(h8:j.Open.length<=8):Calls Tryz.prog 408 #[.agg #[.int .i64 j.Index,.int .i64 j.Time,.int .i64 j.Holder,.int .i64 j.Epoch,.int .i64 j.Until,s]] w (Cp w (.bool (Ir j))):=by
 obtain⟨a,cap,rfl,hcap,hm,ha⟩:=h.recs (f:=Hu.ints) (fun _=>rfl) dC
 have HA:=Lib.hid ha
 clear ha
 unfold maxLen at hm
 have hmm:=@run_makeMap Tryz.prog
 have hb0:Ir j=Pz j.Open:=by simp[Ir, *]
 have HB0:=Lib.hid hb0
 clear hb0
 have h8':decide ((8:Int)<(j.Open.length:Int))=false:=by simp;omega
 have h3':(j.Holder != 0)=true:=by simpa using h3
 go_enter Tryz.func408,Tryz.ntmps408
 go_wp2_with (first|(go_at_call 176;refine(Cf _ _ _ _).mono ?_;rintro e w1 ⟨rfl,rfl⟩)|(go_at_call 177;refine(Ey _ _).mono ?_;rintro e w1 ⟨rfl,rfl⟩)|(go_at_call 170;refine(Pq _ _).mono ?_;rintro e w1 ⟨rfl,rfl⟩))
 clear hmm
 go_loopw [47] (fun i wr=>∃k:Nat,k<=j.Open.length/\i=.int .i64 k/\Ext w wr/\wr.cell? ⟨w.heap.size,5,none⟩=some (.slice a j.Open.length cap)/\(∃S,Mz Tryz.prog 2 4 wr (w.heap.size+1) k S/\(∀i,i<k->Vf j.Open i)/\(∀x,x ∈ S↔∃i e,i<k/\j.Open[i]?=some e/\e.Id=x))) (fun i _=>j.Open.length - (intOf i).toNat)
 case atStart=>exact⟨0,Nat.zero_le _,rfl,((Ext.refl _).alloc _).alloc _,by simp,[],by simpa using Mz.made Tryz.prog 2 4 (w.alloc _),fun i hi=>by omega,fun x=>by simp⟩
 case round =>
  obtain⟨k,hk,rfl,he,jb,S,hset,hok,hS⟩:=hrel
  have HO:=Lib.hid hok
  have HM:=Lib.hid hS
  clear hok hS
  have hsz:=he.size
  by_cases hlt:k<j.Open.length
  .
   obtain⟨d,b1,o1,hd,rfl,hb1,c⟩:=HA.out k hlt
   have d0:=he.cell (c 0 _ dC rfl)
   have d1:=he.cell (c 1 _ dC rfl)
   simp only[Nat.add_zero] at d0
   have HD:=Lib.hid hd
   clear c hd
   go_wp2
   obtain⟨W,hW⟩:∃W,W=wr.alloc (.cells #[.int .i64 d.Id,.int .i64 d.Due] 286):=⟨_,rfl⟩
   have x0:W.cell? ⟨wr.heap.size,0,none⟩=some (.int .i64 d.Id):=by rw[hW];simp
   have x1:W.cell? ⟨wr.heap.size,1,none⟩=some (.int .i64 d.Due):=by rw[hW];simp
   have jb':W.cell? ⟨w.heap.size,5,none⟩=some (.slice (some ⟨b1,o1,none⟩) j.Open.length cap):=by rw[hW];exact((Ext.refl wr).alloc _).cell jb
   have hset':Mz Tryz.prog 2 4 W (w.heap.size+1) k S:=by rw[hW];exact hset.ext ((Ext.refl wr).alloc _)
   have heW:Ext w W:=by rw[hW];exact he.alloc _
   have heR:Ext wr W:=by rw[hW];exact(Ext.refl wr).alloc _
   rw[<-hW]
   clear hW
   cases hid:Te d.Id
   .
    refine rx0 pJ fun w1 hx1=>?_
    go_wp2
    go_ret
    exact⟨congrArg (fun z=>Ending.returned (.bool z)) (HB0.out.trans (Fv (fun hh=>by have:=(hh.2 k hlt d HD.out).1;rw[hid] at this;cases this))).symm,heW.trans hx1⟩
   have hw:(Lit.int .i64 d.Id).wf=true:=by
    have:=Dz.1 hid
    exact WalkArith.wf_i64 oM
   cases htm:Ea d.Due
   .
    refine rx0 pK fun w1 hx1=>?_
    go_wp2
    go_ret
    exact⟨congrArg (fun z=>Ending.returned (.bool z)) (HB0.out.trans (Fv (fun hh=>by have:=(hh.2 k hlt d HD.out).2.1;rw[htm] at this;cases this))).symm,heW.trans hx1⟩
   by_cases hmem:d.Id ∈ S
   .
    have hnu:decide (d.Id ∈ S)=true:=by simpa using hmem
    have HMM:=Lib.hid hmem
    clear hmem
    refine rx0 eH fun w1 hx1=>?_
    go_wp2
    go_ret
    exact⟨congrArg (fun z=>Ending.returned (.bool z)) (HB0.out.trans (Fv (fun hh=>by obtain⟨i,e,hi,he',hid'⟩:=(HM.out d.Id).1 HMM.out;exact(hh.2 k hlt d HD.out).2.2.2 i e hi he' hid'))).symm,heW.trans hx1⟩
   have hnu:decide (d.Id ∈ S)=false:=by simpa using hmem
   have hnd:∀i e,i<k->j.Open[i]?=some e->e.Id≠d.Id:=fun i e hi he' hid'=>hmem ((HM.out d.Id).2 ⟨i,e,hi,he',hid'⟩)
   have HND:=Lib.hid hnd
   clear hmem hnd
   have hnext:(∀e,0<k->j.Open[k - 1]?=some e->Jp e d=true)->∀i,i<k+1->Vf j.Open i:=by
    intro n1 i hi
    by_cases hik:i=k
    .
     subst hik
     intro d' hd'
     rw[HD.out] at hd'
     obtain rfl:=Option.some.inj hd'
     exact⟨hid,htm,n1,HND.out⟩
    exact HO.out i oM
   have HN:=Lib.hid hnext
   clear hnext
   have hs2:∀x,x ∈ d.Id::S↔∃i e,i<k+1/\j.Open[i]?=some e/\e.Id=x:=by
    intro x
    rw[List.mem_cons,HM.out x]
    constructor
    .
     rintro(rfl|⟨i,e,hi,h1,h2⟩)
     .
      exact⟨k,d,by omega,HD.out,rfl⟩
     exact⟨i,e,by omega,h1,h2⟩
    rintro⟨i,e,hi,h1,h2⟩
    by_cases hik:i=k
    .
     subst hik
     rw[HD.out] at h1
     obtain rfl:=Option.some.inj h1
     exact .inl h2.symm
    exact .inr ⟨i,e,by omega,h1,h2⟩
   have HS:=Lib.hid hs2
   clear hs2
   by_cases hk0:k=0
   .
    subst hk0
    refine rx0 eH fun w1 hx1=>?_
    have x0':=hx1.cell x0
    go_wp2_with (at_mapUpdate;refine Jt rfl _ _ _ 407 rfl 2 4 Tryz.underlying2 Tryz.underlying407 Tryz.underlying4 _ _ _ _ rfl rfl rfl (hset'.ext hx1) (by unfold maxLen;omega) hw ?_;intro w2 hset2 hgr2)
    have hx2:=(heW.trans hx1).grownOwn hgr2 oM
    go_roundw
    case rel=>exact⟨0+1,by omega,by go_num,hx2,hgr2.cell (hx1.cell jb') (by first|(simp;done)|(simp;omega)),_,hset2,HN.out (fun e h=>by omega),HS.out⟩
    case measure=>simp[intOf];omega
   obtain⟨e,b2,o2,hde,hbo,_,c⟩:=HA.out (k - 1) oM
   obtain⟨rfl,rfl⟩:b1=b2/\o1=o2:=by simpa using hbo
   have e0':=heW.cell (c 0 _ dC rfl)
   have e1':=heW.cell (c 1 _ dC rfl)
   simp only[Nat.add_zero] at e0'
   have HE:=Lib.hid hde
   clear c hde hbo
   have hk1:decide (0<k)=true:=by simp;omega
   cases hls:Jp e d
   .
    refine rx0 eI fun w1 hx1=>?_
    go_wp2
    go_ret
    exact⟨congrArg (fun z=>Ending.returned (.bool z)) (HB0.out.trans (Fv (fun hh=>by have:=(hh.2 k hlt d HD.out).2.2.1 e oM HE.out;rw[hls] at this;cases this))).symm,heW.trans hx1⟩
   refine rx0 eI fun w1 hx1=>?_
   have x0':=hx1.cell x0
   go_wp2_with (at_mapUpdate;refine Jt rfl _ _ _ 407 rfl 2 4 Tryz.underlying2 Tryz.underlying407 Tryz.underlying4 _ _ _ _ rfl rfl rfl (hset'.ext hx1) (by unfold maxLen;omega) hw ?_;intro w2 hset2 hgr2)
   have hx2:=(heW.trans hx1).grownOwn hgr2 oM
   go_roundw
   case rel=>exact⟨k+1,by omega,by go_num,hx2,hgr2.cell (hx1.cell jb') (by first|(simp;done)|(simp;omega)),_,hset2,HN.out (fun e' _ hl=>by rw[HE.out] at hl;obtain rfl:=Option.some.inj hl;exact hls),HS.out⟩
   case measure=>simp[intOf];omega
  obtain rfl:k=j.Open.length:=by omega
  go_wp2
  go_ret
  exact⟨congrArg (fun z=>Ending.returned (.bool z)) (HB0.out.trans (Qt ⟨by omega,HO.out⟩)).symm,he⟩
theorem nJ(w:World)(j:Wd)(s:Value)(h:Aj 2 w s (Nm j.Open)):Calls Tryz.prog 408 #[.agg #[.int .i64 j.Index,.int .i64 j.Time,.int .i64 j.Holder,.int .i64 j.Epoch,.int .i64 j.Until,s]] w (Cp w (.bool (Ir j))):=by
 by_cases hg:inb j.Index 0 2000=true/\Ea j.Time=true/\(j.Holder == 0||Ga j.Holder)=true/\inb j.Epoch 0 1000=true/\inb j.Until 0 1001000=true/\j.Open.length<=8
 .
  obtain⟨h1,h2,h3,h4,h5,h8⟩:=hg
  cases h6:(j.Holder == 0)
  .
   exact eK w j s h h1 h2 h6 (by simpa[h6] using h3) h4 h5 h8
  exact eJ w j s h h1 h2 h6 h4 h5 h8
 exact hO w j s h hg
theorem nK(w:World)(v:Ge)(s:Value)(h:Aj 2 w s (Nm v.Jobs.Open)):Calls Tryz.prog 320 #[.agg #[.int .i64 v.Jobs.Index,.int .i64 v.Jobs.Time,.int .i64 v.Jobs.Holder,.int .i64 v.Jobs.Epoch,.int .i64 v.Jobs.Until,s]] w (Cp w (.bool (Ir v.Jobs))):=by
 obtain⟨a,n,c,rfl⟩:=h.shape
 go_enter Tryz.func320,Tryz.ntmps320
 go_wp2_with (first|(go_at_call 390;refine(kK _ v.Jobs _ (h.ext xT)).mono ?_;rintro e w1 ⟨rfl,hx1⟩;have hz1:=hx1.size;obtain⟨hc1,hf1⟩:=hx1.cells;(repeat (first|simp only[World.size_alloc] at hz1 hc1 hf1|simp only[World.size_setCell] at hz1 hc1 hf1));have vV:w.heap.size<w1.heap.size:=oM))
 go_ret
 refine⟨rfl,?_⟩
 exact xT
theorem pL(w:World)(v:Ge)(s:Value)(h:Aj 2 w s (Nm v.Jobs.Open)):Calls Tryz.prog 355 #[.agg #[.int .i64 v.Jobs.Index,.int .i64 v.Jobs.Time,.int .i64 v.Jobs.Holder,.int .i64 v.Jobs.Epoch,.int .i64 v.Jobs.Until,s]] w (Cp w (.bool (Ir v.Jobs))):=by
 obtain⟨a,n,c,rfl⟩:=h.shape
 go_enter Tryz.func355,Tryz.ntmps355
 go_wp2_with (first|(go_at_call 408;refine(nJ _ v.Jobs _ (h.ext xT)).mono ?_;rintro e w1 ⟨rfl,hx1⟩;have hz1:=hx1.size;obtain⟨hc1,hf1⟩:=hx1.cells;(repeat (first|simp only[World.size_alloc] at hz1 hc1 hf1|simp only[World.size_setCell] at hz1 hc1 hf1));have vV:w.heap.size<w1.heap.size:=oM))
 go_ret
 refine⟨rfl,?_⟩
 exact xT
def opZ(o:DOp):Bool:=decide (o.Kind=0/\o.A=0/\o.B=0/\o.C=0/\o.D=0)
noncomputable def Hd(s:De):Bool:=Ga s.Id&&(inb s.Seq 0 2000&&(Ir s.View.Jobs&&(inb s.Index 0 2000&&(if s.Busy then decide (0<s.Seq)&&(Nn s.Op&&(decide (s.Op.Kind=4)||decide (s.Op.Kind=5))) else opZ s.Op))))
theorem nL(w:World)(Ae:Int)(Ax:Int)(Cw:Int)(Ei:Int)(Bl:Int)(Xz:Value)(Wc:List Hu)(lY:Aj 2 w Xz (Nm Wc)):Calls Tryz.prog 320 #[.agg #[.int .i64 Ae,.int .i64 Ax,.int .i64 Cw,.int .i64 Ei,.int .i64 Bl,Xz]] w (Cp w (.bool (Ir (⟨⟨Ae,Ax,Cw,Ei,Bl,Wc⟩⟩:Ge).Jobs))):=nK w (⟨⟨Ae,Ax,Cw,Ei,Bl,Wc⟩⟩:Ge) Xz lY
theorem pM(w:World)(Ae:Int)(Ax:Int)(Cw:Int)(Ei:Int)(Bl:Int)(Xz:Value)(Wc:List Hu)(lY:Aj 2 w Xz (Nm Wc)):Calls Tryz.prog 355 #[.agg #[.int .i64 Ae,.int .i64 Ax,.int .i64 Cw,.int .i64 Ei,.int .i64 Bl,Xz]] w (Cp w (.bool (Ir (⟨⟨Ae,Ax,Cw,Ei,Bl,Wc⟩⟩:Ge).Jobs))):=pL w (⟨⟨Ae,Ax,Cw,Ei,Bl,Wc⟩⟩:Ge) Xz lY
theorem sS(w:World)(Ae:Int):Calls Tryz.prog 322 #[.int .i64 Ae] w (fun e w'=>e=.returned (.bool (inb Ae 0 9))/\w=w'):=by
 go_enter Tryz.func322,Tryz.ntmps322
 go_wp2_with (first|(go_at_call 303;refine(Dv _ _ _ _  ).mono ?_;rintro e wa ⟨rfl,rfl⟩))
 all_goals
  go_ret
  refine⟨by first|rfl|(simp[*];done)|(simp[*];omega)|(simp_all [bq,bn];done)|(simp_all [bq,bn];omega),by rfl⟩
theorem nM(w:World)(Ae:Int):Calls Tryz.prog 324 #[.int .i64 Ae] w (fun e w'=>e=.returned (.bool (inb Ae 0 999))/\w=w'):=by
 go_enter Tryz.func324,Tryz.ntmps324
 go_wp2_with (first|(go_at_call 303;refine(Dv _ _ _ _  ).mono ?_;rintro e wa ⟨rfl,rfl⟩))
 all_goals
  go_ret
  refine⟨by first|rfl|(simp[*];done)|(simp[*];omega)|(simp_all [bq,bn];done)|(simp_all [bq,bn];omega),by rfl⟩
theorem sT(w:World)(Ae:Int):Calls Tryz.prog 266 #[.int .i64 Ae] w (fun e w'=>e=.returned (.bool (inb Ae 0 9))/\w=w'):=by
 go_enter Tryz.func266,Tryz.ntmps266
 go_wp2_with (first|(go_at_call 176;refine(Cf _ _ _ _  ).mono ?_;rintro e wa ⟨rfl,rfl⟩))
 all_goals
  go_ret
  refine⟨by first|rfl|(simp[*];done)|(simp[*];omega)|(simp_all [bq,bn];done)|(simp_all [bq,bn];omega),by rfl⟩
theorem nN(w:World)(Ae:Int):Calls Tryz.prog 346 #[.int .i64 Ae] w (fun e w'=>e=.returned (.bool (inb Ae 0 999))/\w=w'):=by
 go_enter Tryz.func346,Tryz.ntmps346
 go_wp2_with (first|(go_at_call 176;refine(Cf _ _ _ _  ).mono ?_;rintro e wa ⟨rfl,rfl⟩))
 all_goals
  go_ret
  refine⟨by first|rfl|(simp[*];done)|(simp[*];omega)|(simp_all [bq,bn];done)|(simp_all [bq,bn];omega),by rfl⟩
theorem sU(w:World)(Ae:Int)(Ax:Int)(Cw:Int)(Ei:Int)(Bl:Int):Calls Tryz.prog 321 #[.agg #[.int .i64 Ae,.int .i64 Ax,.int .i64 Cw,.int .i64 Ei,.int .i64 Bl]] w (Cp w (.bool (Nn (⟨Ae,Ax,Cw,Ei,Bl⟩:DOp)))):=by
 go_enter Tryz.func321,Tryz.ntmps321
 go_wp2_with (first|(go_at_call 322;refine(sS _ _  ).mono ?_;rintro e wa ⟨rfl,rfl⟩)|(go_at_call 324;refine(nM _ _  ).mono ?_;rintro e wb ⟨rfl,rfl⟩)|(go_at_call 391;refine(dW _ _  ).mono ?_;rintro e wc ⟨rfl,rfl⟩)|(go_at_call 207;refine(Fh _ _  ).mono ?_;rintro e wd ⟨rfl,rfl⟩)|(go_at_call 303;refine(Dv _ _ _ _  ).mono ?_;rintro e we ⟨rfl,rfl⟩))
 all_goals
  go_ret
  refine⟨by first|rfl|(simp[Nn, *];done)|(simp[Nn, *];omega)|(simp_all [Nn,bq,bn];done)|(simp_all [Nn,bq,bn];omega),?_⟩
  exact xT
theorem uQ(w:World)(Ae:Int)(Ax:Int)(Cw:Int)(Ei:Int)(Bl:Int):Calls Tryz.prog 265 #[.agg #[.int .i64 Ae,.int .i64 Ax,.int .i64 Cw,.int .i64 Ei,.int .i64 Bl]] w (Cp w (.bool (Nn (⟨Ae,Ax,Cw,Ei,Bl⟩:DOp)))):=by
 go_enter Tryz.func265,Tryz.ntmps265
 go_wp2_with (first|(go_at_call 266;refine(sT _ _  ).mono ?_;rintro e wa ⟨rfl,rfl⟩)|(go_at_call 346;refine(nN _ _  ).mono ?_;rintro e wb ⟨rfl,rfl⟩)|(go_at_call 347;refine(Vg _ _  ).mono ?_;rintro e wc ⟨rfl,rfl⟩)|(go_at_call 177;refine(Ey _ _  ).mono ?_;rintro e wd ⟨rfl,rfl⟩)|(go_at_call 176;refine(Cf _ _ _ _  ).mono ?_;rintro e we ⟨rfl,rfl⟩))
 all_goals
  go_ret
  refine⟨by first|rfl|(simp[Nn, *];done)|(simp[Nn, *];omega)|(simp_all [Nn,bq,bn];done)|(simp_all [Nn,bq,bn];omega),?_⟩
  exact xT
theorem kL(w:World)(Ae:Int)(Ax:Int)(Cw:Int)(Ei:Int)(Bl:Int)(Bp:Int)(Bs:Int)(Qq:Value)(Dd:List Hu)(Co:Bool)(Cj:Int)(Bg:Int)(Ud:Int)(Cn:Int)(Ay:Int)(Bc:Int)(Lx:Aj 2 w Qq (Nm Dd)):Calls Tryz.prog 212 #[.agg #[.int .i64 Ae,.int .i64 Ax,.int .i64 Cw,.int .i64 Ei,.int .i64 Bl,.int .i64 Bp,.int .i64 Bs,Qq,.bool Co,.int .i64 Cj,.int .i64 Bg,.int .i64 Ud,.int .i64 Cn,.int .i64 Ay,.int .i64 Bc]] w (Cp w (.bool (Hd (⟨Ae,Ax,⟨⟨Cw,Ei,Bl,Bp,Bs,Dd⟩⟩,Co,⟨Cj,Bg,Ud,Cn,Ay⟩,Bc⟩:De)))):=by
 obtain⟨wU,wY,xA,rfl⟩:=Lx.shape
 go_enter Tryz.func212,Tryz.ntmps212
 go_wp2_with (first|(go_at_call 175;refine(gZ _ _  ).mono ?_;rintro e wa ⟨rfl,rfl⟩)|(go_at_call 303;refine(Dv _ _ _ _  ).mono ?_;rintro e wb ⟨rfl,rfl⟩)|(go_at_call 320;refine(nL _ _ _ _ _ _ _ _ (by first|(with_reducible exact Aj.ext (by assumption) xT)|(with_reducible exact Aj.ext (Af.ints (by assumption)) xT)|with_reducible exact cN _ _) ).mono ?_;rintro e wc ⟨rfl,hxc⟩;have hzc:=hxc.size;obtain⟨hcc,hfc⟩:=hxc.cells;(repeat (first|simp only[World.size_alloc] at hzc hcc hfc|simp only[World.size_setCell] at hzc hcc hfc));(try have hcrc_a:=fun u v (h0:wa.heap.size<=u) h=>hcc u v h);(try have hfrc_a:=fun u v (h0:wa.heap.size<=u) h=>hfc u v h);(try have hyc_a_0:wa.heap.size<wc.heap.size:=oM);(try have hyc_a_1:wa.heap.size+1<wc.heap.size:=oM);(try have hyc_a_2:wa.heap.size+1+1<wc.heap.size:=oM);(try have hcrc_b:=fun u v (h0:wb.heap.size<=u) h=>hcc u v h);(try have hfrc_b:=fun u v (h0:wb.heap.size<=u) h=>hfc u v h);(try have hyc_b_0:wb.heap.size<wc.heap.size:=oM);(try have hyc_b_1:wb.heap.size+1<wc.heap.size:=oM);(try have hyc_b_2:wb.heap.size+1+1<wc.heap.size:=oM);(try have hcrc_d:=fun u v (h0:wd.heap.size<=u) h=>hcc u v h);(try have hfrc_d:=fun u v (h0:wd.heap.size<=u) h=>hfc u v h);(try have hyc_d_0:wd.heap.size<wc.heap.size:=oM);(try have hyc_d_1:wd.heap.size+1<wc.heap.size:=oM);(try have hyc_d_2:wd.heap.size+1+1<wc.heap.size:=oM);have Pc0_0:=hcc (w.heap.size) 0 oM;have Rc0_0:=hfc (w.heap.size) 0 oM;have Pc0_1:=hcc (w.heap.size) 1 oM;have Rc0_1:=hfc (w.heap.size) 1 oM;have Pc0_2:=hcc (w.heap.size) 2 oM;have Rc0_2:=hfc (w.heap.size) 2 oM;have Pc0_3:=hcc (w.heap.size) 3 oM;have Rc0_3:=hfc (w.heap.size) 3 oM;have Pc0_4:=hcc (w.heap.size) 4 oM;have Rc0_4:=hfc (w.heap.size) 4 oM;have Pc0_5:=hcc (w.heap.size) 5 oM;have Rc0_5:=hfc (w.heap.size) 5 oM;have Pc0_6:=hcc (w.heap.size) 6 oM;have Rc0_6:=hfc (w.heap.size) 6 oM;have Pc0_7:=hcc (w.heap.size) 7 oM;have Rc0_7:=hfc (w.heap.size) 7 oM;have Pc0_8:=hcc (w.heap.size) 8 oM;have Rc0_8:=hfc (w.heap.size) 8 oM;have Pc0_9:=hcc (w.heap.size) 9 oM;have Rc0_9:=hfc (w.heap.size) 9 oM;have Pc0_10:=hcc (w.heap.size) 10 oM;have Rc0_10:=hfc (w.heap.size) 10 oM;have Pc0_11:=hcc (w.heap.size) 11 oM;have Rc0_11:=hfc (w.heap.size) 11 oM;have Pc0_12:=hcc (w.heap.size) 12 oM;have Rc0_12:=hfc (w.heap.size) 12 oM;have Pc0_13:=hcc (w.heap.size) 13 oM;have Rc0_13:=hfc (w.heap.size) 13 oM;have Pc0_14:=hcc (w.heap.size) 14 oM;have Rc0_14:=hfc (w.heap.size) 14 oM;have hyc__0:w.heap.size<wc.heap.size:=oM;clear hcc hfc;(try simp[*] at Pc0_0);(try simp[*] at Rc0_0);(try simp[*] at Pc0_1);(try simp[*] at Rc0_1);(try simp[*] at Pc0_2);(try simp[*] at Rc0_2);(try simp[*] at Pc0_3);(try simp[*] at Rc0_3);(try simp[*] at Pc0_4);(try simp[*] at Rc0_4);(try simp[*] at Pc0_5);(try simp[*] at Rc0_5);(try simp[*] at Pc0_6);(try simp[*] at Rc0_6);(try simp[*] at Pc0_7);(try simp[*] at Rc0_7);(try simp[*] at Pc0_8);(try simp[*] at Rc0_8);(try simp[*] at Pc0_9);(try simp[*] at Rc0_9);(try simp[*] at Pc0_10);(try simp[*] at Rc0_10);(try simp[*] at Pc0_11);(try simp[*] at Rc0_11);(try simp[*] at Pc0_12);(try simp[*] at Rc0_12);(try simp[*] at Pc0_13);(try simp[*] at Rc0_13);(try simp[*] at Pc0_14);(try simp[*] at Rc0_14))|(go_at_call 321;refine(sU _ _ _ _ _ _  ).mono ?_;rintro e wd ⟨rfl,hxd⟩;have hzd:=hxd.size;obtain⟨hcd,hfd⟩:=hxd.cells;(repeat (first|simp only[World.size_alloc] at hzd hcd hfd|simp only[World.size_setCell] at hzd hcd hfd));(try have hcrd_a:=fun u v (h0:wa.heap.size<=u) h=>hcd u v h);(try have hfrd_a:=fun u v (h0:wa.heap.size<=u) h=>hfd u v h);(try have hyd_a_0:wa.heap.size<wd.heap.size:=oM);(try have hyd_a_1:wa.heap.size+1<wd.heap.size:=oM);(try have hyd_a_2:wa.heap.size+1+1<wd.heap.size:=oM);(try have hcrd_b:=fun u v (h0:wb.heap.size<=u) h=>hcd u v h);(try have hfrd_b:=fun u v (h0:wb.heap.size<=u) h=>hfd u v h);(try have hyd_b_0:wb.heap.size<wd.heap.size:=oM);(try have hyd_b_1:wb.heap.size+1<wd.heap.size:=oM);(try have hyd_b_2:wb.heap.size+1+1<wd.heap.size:=oM);(try have hcrd_c:=fun u v (h0:wc.heap.size<=u) h=>hcd u v h);(try have hfrd_c:=fun u v (h0:wc.heap.size<=u) h=>hfd u v h);(try have hyd_c_0:wc.heap.size<wd.heap.size:=oM);(try have hyd_c_1:wc.heap.size+1<wd.heap.size:=oM);(try have hyd_c_2:wc.heap.size+1+1<wd.heap.size:=oM);have Pd0_0:=hcd (w.heap.size) 0 oM;have Rd0_0:=hfd (w.heap.size) 0 oM;have Pd0_1:=hcd (w.heap.size) 1 oM;have Rd0_1:=hfd (w.heap.size) 1 oM;have Pd0_2:=hcd (w.heap.size) 2 oM;have Rd0_2:=hfd (w.heap.size) 2 oM;have Pd0_3:=hcd (w.heap.size) 3 oM;have Rd0_3:=hfd (w.heap.size) 3 oM;have Pd0_4:=hcd (w.heap.size) 4 oM;have Rd0_4:=hfd (w.heap.size) 4 oM;have Pd0_5:=hcd (w.heap.size) 5 oM;have Rd0_5:=hfd (w.heap.size) 5 oM;have Pd0_6:=hcd (w.heap.size) 6 oM;have Rd0_6:=hfd (w.heap.size) 6 oM;have Pd0_7:=hcd (w.heap.size) 7 oM;have Rd0_7:=hfd (w.heap.size) 7 oM;have Pd0_8:=hcd (w.heap.size) 8 oM;have Rd0_8:=hfd (w.heap.size) 8 oM;have Pd0_9:=hcd (w.heap.size) 9 oM;have Rd0_9:=hfd (w.heap.size) 9 oM;have Pd0_10:=hcd (w.heap.size) 10 oM;have Rd0_10:=hfd (w.heap.size) 10 oM;have Pd0_11:=hcd (w.heap.size) 11 oM;have Rd0_11:=hfd (w.heap.size) 11 oM;have Pd0_12:=hcd (w.heap.size) 12 oM;have Rd0_12:=hfd (w.heap.size) 12 oM;have Pd0_13:=hcd (w.heap.size) 13 oM;have Rd0_13:=hfd (w.heap.size) 13 oM;have Pd0_14:=hcd (w.heap.size) 14 oM;have Rd0_14:=hfd (w.heap.size) 14 oM;have hyd__0:w.heap.size<wd.heap.size:=oM;clear hcd hfd;(try simp[*] at Pd0_0);(try simp[*] at Rd0_0);(try simp[*] at Pd0_1);(try simp[*] at Rd0_1);(try simp[*] at Pd0_2);(try simp[*] at Rd0_2);(try simp[*] at Pd0_3);(try simp[*] at Rd0_3);(try simp[*] at Pd0_4);(try simp[*] at Rd0_4);(try simp[*] at Pd0_5);(try simp[*] at Rd0_5);(try simp[*] at Pd0_6);(try simp[*] at Rd0_6);(try simp[*] at Pd0_7);(try simp[*] at Rd0_7);(try simp[*] at Pd0_8);(try simp[*] at Rd0_8);(try simp[*] at Pd0_9);(try simp[*] at Rd0_9);(try simp[*] at Pd0_10);(try simp[*] at Rd0_10);(try simp[*] at Pd0_11);(try simp[*] at Rd0_11);(try simp[*] at Pd0_12);(try simp[*] at Rd0_12);(try simp[*] at Pd0_13);(try simp[*] at Rd0_13);(try simp[*] at Pd0_14);(try simp[*] at Rd0_14)))
 all_goals
  go_ret
  refine⟨by first|rfl|(simp[Hd,opZ,inb, *];done)|(simp[Hd,opZ,inb, *];omega)|(simp_all [Hd,opZ,inb,bq,bn];done)|(simp_all [Hd,opZ,inb,bq,bn];omega),?_⟩
  exact xT
theorem kM(w:World)(Ae:Int)(Ax:Int)(Cw:Int)(Ei:Int)(Bl:Int)(Bp:Int)(Bs:Int)(Qq:Value)(Dd:List Hu)(Co:Bool)(Cj:Int)(Bg:Int)(Ud:Int)(Cn:Int)(Ay:Int)(Bc:Int)(Lx:Aj 2 w Qq (Nm Dd)):Calls Tryz.prog 277 #[.agg #[.int .i64 Ae,.int .i64 Ax,.int .i64 Cw,.int .i64 Ei,.int .i64 Bl,.int .i64 Bp,.int .i64 Bs,Qq,.bool Co,.int .i64 Cj,.int .i64 Bg,.int .i64 Ud,.int .i64 Cn,.int .i64 Ay,.int .i64 Bc]] w (Cp w (.bool (Hd (⟨Ae,Ax,⟨⟨Cw,Ei,Bl,Bp,Bs,Dd⟩⟩,Co,⟨Cj,Bg,Ud,Cn,Ay⟩,Bc⟩:De)))):=by
 obtain⟨wU,wY,xA,rfl⟩:=Lx.shape
 go_enter Tryz.func277,Tryz.ntmps277
 go_wp2_with (first|(go_at_call 170;refine(Pq _ _  ).mono ?_;rintro e wa ⟨rfl,rfl⟩)|(go_at_call 176;refine(Cf _ _ _ _  ).mono ?_;rintro e wb ⟨rfl,rfl⟩)|(go_at_call 355;refine(pM _ _ _ _ _ _ _ _ (by first|(with_reducible exact Aj.ext (by assumption) xT)|(with_reducible exact Aj.ext (Af.ints (by assumption)) xT)|with_reducible exact cN _ _) ).mono ?_;rintro e wc ⟨rfl,hxc⟩;have hzc:=hxc.size;obtain⟨hcc,hfc⟩:=hxc.cells;(repeat (first|simp only[World.size_alloc] at hzc hcc hfc|simp only[World.size_setCell] at hzc hcc hfc));(try have hcrc_a:=fun u v (h0:wa.heap.size<=u) h=>hcc u v h);(try have hfrc_a:=fun u v (h0:wa.heap.size<=u) h=>hfc u v h);(try have hyc_a_0:wa.heap.size<wc.heap.size:=oM);(try have hyc_a_1:wa.heap.size+1<wc.heap.size:=oM);(try have hyc_a_2:wa.heap.size+1+1<wc.heap.size:=oM);(try have hcrc_b:=fun u v (h0:wb.heap.size<=u) h=>hcc u v h);(try have hfrc_b:=fun u v (h0:wb.heap.size<=u) h=>hfc u v h);(try have hyc_b_0:wb.heap.size<wc.heap.size:=oM);(try have hyc_b_1:wb.heap.size+1<wc.heap.size:=oM);(try have hyc_b_2:wb.heap.size+1+1<wc.heap.size:=oM);(try have hcrc_d:=fun u v (h0:wd.heap.size<=u) h=>hcc u v h);(try have hfrc_d:=fun u v (h0:wd.heap.size<=u) h=>hfc u v h);(try have hyc_d_0:wd.heap.size<wc.heap.size:=oM);(try have hyc_d_1:wd.heap.size+1<wc.heap.size:=oM);(try have hyc_d_2:wd.heap.size+1+1<wc.heap.size:=oM);have Pc0_0:=hcc (w.heap.size) 0 oM;have Rc0_0:=hfc (w.heap.size) 0 oM;have Pc0_1:=hcc (w.heap.size) 1 oM;have Rc0_1:=hfc (w.heap.size) 1 oM;have Pc0_2:=hcc (w.heap.size) 2 oM;have Rc0_2:=hfc (w.heap.size) 2 oM;have Pc0_3:=hcc (w.heap.size) 3 oM;have Rc0_3:=hfc (w.heap.size) 3 oM;have Pc0_4:=hcc (w.heap.size) 4 oM;have Rc0_4:=hfc (w.heap.size) 4 oM;have Pc0_5:=hcc (w.heap.size) 5 oM;have Rc0_5:=hfc (w.heap.size) 5 oM;have Pc0_6:=hcc (w.heap.size) 6 oM;have Rc0_6:=hfc (w.heap.size) 6 oM;have Pc0_7:=hcc (w.heap.size) 7 oM;have Rc0_7:=hfc (w.heap.size) 7 oM;have Pc0_8:=hcc (w.heap.size) 8 oM;have Rc0_8:=hfc (w.heap.size) 8 oM;have Pc0_9:=hcc (w.heap.size) 9 oM;have Rc0_9:=hfc (w.heap.size) 9 oM;have Pc0_10:=hcc (w.heap.size) 10 oM;have Rc0_10:=hfc (w.heap.size) 10 oM;have Pc0_11:=hcc (w.heap.size) 11 oM;have Rc0_11:=hfc (w.heap.size) 11 oM;have Pc0_12:=hcc (w.heap.size) 12 oM;have Rc0_12:=hfc (w.heap.size) 12 oM;have Pc0_13:=hcc (w.heap.size) 13 oM;have Rc0_13:=hfc (w.heap.size) 13 oM;have Pc0_14:=hcc (w.heap.size) 14 oM;have Rc0_14:=hfc (w.heap.size) 14 oM;have hyc__0:w.heap.size<wc.heap.size:=oM;clear hcc hfc;(try simp[*] at Pc0_0);(try simp[*] at Rc0_0);(try simp[*] at Pc0_1);(try simp[*] at Rc0_1);(try simp[*] at Pc0_2);(try simp[*] at Rc0_2);(try simp[*] at Pc0_3);(try simp[*] at Rc0_3);(try simp[*] at Pc0_4);(try simp[*] at Rc0_4);(try simp[*] at Pc0_5);(try simp[*] at Rc0_5);(try simp[*] at Pc0_6);(try simp[*] at Rc0_6);(try simp[*] at Pc0_7);(try simp[*] at Rc0_7);(try simp[*] at Pc0_8);(try simp[*] at Rc0_8);(try simp[*] at Pc0_9);(try simp[*] at Rc0_9);(try simp[*] at Pc0_10);(try simp[*] at Rc0_10);(try simp[*] at Pc0_11);(try simp[*] at Rc0_11);(try simp[*] at Pc0_12);(try simp[*] at Rc0_12);(try simp[*] at Pc0_13);(try simp[*] at Rc0_13);(try simp[*] at Pc0_14);(try simp[*] at Rc0_14))|(go_at_call 265;refine(uQ _ _ _ _ _ _  ).mono ?_;rintro e wd ⟨rfl,hxd⟩;have hzd:=hxd.size;obtain⟨hcd,hfd⟩:=hxd.cells;(repeat (first|simp only[World.size_alloc] at hzd hcd hfd|simp only[World.size_setCell] at hzd hcd hfd));(try have hcrd_a:=fun u v (h0:wa.heap.size<=u) h=>hcd u v h);(try have hfrd_a:=fun u v (h0:wa.heap.size<=u) h=>hfd u v h);(try have hyd_a_0:wa.heap.size<wd.heap.size:=oM);(try have hyd_a_1:wa.heap.size+1<wd.heap.size:=oM);(try have hyd_a_2:wa.heap.size+1+1<wd.heap.size:=oM);(try have hcrd_b:=fun u v (h0:wb.heap.size<=u) h=>hcd u v h);(try have hfrd_b:=fun u v (h0:wb.heap.size<=u) h=>hfd u v h);(try have hyd_b_0:wb.heap.size<wd.heap.size:=oM);(try have hyd_b_1:wb.heap.size+1<wd.heap.size:=oM);(try have hyd_b_2:wb.heap.size+1+1<wd.heap.size:=oM);(try have hcrd_c:=fun u v (h0:wc.heap.size<=u) h=>hcd u v h);(try have hfrd_c:=fun u v (h0:wc.heap.size<=u) h=>hfd u v h);(try have hyd_c_0:wc.heap.size<wd.heap.size:=oM);(try have hyd_c_1:wc.heap.size+1<wd.heap.size:=oM);(try have hyd_c_2:wc.heap.size+1+1<wd.heap.size:=oM);have Pd0_0:=hcd (w.heap.size) 0 oM;have Rd0_0:=hfd (w.heap.size) 0 oM;have Pd0_1:=hcd (w.heap.size) 1 oM;have Rd0_1:=hfd (w.heap.size) 1 oM;have Pd0_2:=hcd (w.heap.size) 2 oM;have Rd0_2:=hfd (w.heap.size) 2 oM;have Pd0_3:=hcd (w.heap.size) 3 oM;have Rd0_3:=hfd (w.heap.size) 3 oM;have Pd0_4:=hcd (w.heap.size) 4 oM;have Rd0_4:=hfd (w.heap.size) 4 oM;have Pd0_5:=hcd (w.heap.size) 5 oM;have Rd0_5:=hfd (w.heap.size) 5 oM;have Pd0_6:=hcd (w.heap.size) 6 oM;have Rd0_6:=hfd (w.heap.size) 6 oM;have Pd0_7:=hcd (w.heap.size) 7 oM;have Rd0_7:=hfd (w.heap.size) 7 oM;have Pd0_8:=hcd (w.heap.size) 8 oM;have Rd0_8:=hfd (w.heap.size) 8 oM;have Pd0_9:=hcd (w.heap.size) 9 oM;have Rd0_9:=hfd (w.heap.size) 9 oM;have Pd0_10:=hcd (w.heap.size) 10 oM;have Rd0_10:=hfd (w.heap.size) 10 oM;have Pd0_11:=hcd (w.heap.size) 11 oM;have Rd0_11:=hfd (w.heap.size) 11 oM;have Pd0_12:=hcd (w.heap.size) 12 oM;have Rd0_12:=hfd (w.heap.size) 12 oM;have Pd0_13:=hcd (w.heap.size) 13 oM;have Rd0_13:=hfd (w.heap.size) 13 oM;have Pd0_14:=hcd (w.heap.size) 14 oM;have Rd0_14:=hfd (w.heap.size) 14 oM;have hyd__0:w.heap.size<wd.heap.size:=oM;clear hcd hfd;(try simp[*] at Pd0_0);(try simp[*] at Rd0_0);(try simp[*] at Pd0_1);(try simp[*] at Rd0_1);(try simp[*] at Pd0_2);(try simp[*] at Rd0_2);(try simp[*] at Pd0_3);(try simp[*] at Rd0_3);(try simp[*] at Pd0_4);(try simp[*] at Rd0_4);(try simp[*] at Pd0_5);(try simp[*] at Rd0_5);(try simp[*] at Pd0_6);(try simp[*] at Rd0_6);(try simp[*] at Pd0_7);(try simp[*] at Rd0_7);(try simp[*] at Pd0_8);(try simp[*] at Rd0_8);(try simp[*] at Pd0_9);(try simp[*] at Rd0_9);(try simp[*] at Pd0_10);(try simp[*] at Rd0_10);(try simp[*] at Pd0_11);(try simp[*] at Rd0_11);(try simp[*] at Pd0_12);(try simp[*] at Rd0_12);(try simp[*] at Pd0_13);(try simp[*] at Rd0_13);(try simp[*] at Pd0_14);(try simp[*] at Rd0_14)))
 all_goals
  go_ret
  refine⟨by first|rfl|(simp[Hd,opZ,inb, *];done)|(simp[Hd,opZ,inb, *];omega)|(simp_all [Hd,opZ,inb,bq,bn];done)|(simp_all [Hd,opZ,inb,bq,bn];omega),?_⟩
  exact xT
noncomputable def Sg:De:=⟨0,0,⟨⟨0,0,0,0,0,[]⟩⟩,false,⟨0,0,0,0,0⟩,0⟩
noncomputable def Dw(id:Int):De:=if Ga id then⟨id,0,⟨⟨0,0,0,0,0,[]⟩⟩,false,⟨0,0,0,0,0⟩,0⟩ else Sg
theorem Yf(w:World)(Ae:Int):Calls Tryz.prog 79 #[.int .i64 Ae] w (Ret w fun r0 w'=>Nb w.heap.size w' r0 (Dw Ae)):=by
 have rr:=Lc
 go_enter Tryz.func79,Tryz.ntmps79
 go_wp2_with (first|(go_at_call 175;refine(gZ _ _  ).mono ?_;rintro e wa ⟨rfl,rfl⟩))
 all_goals
  refine bodyPost_ret (by simp[results,Tryz.results79,go_sem, *];try rfl) rfl ?_
  refine⟨_,rfl,?_,?_⟩
  .
   exact xT
  exact(Nb.cast (Nb.mk (by first|(with_reducible exact gC _ _ _ _)|(with_reducible refine Af.mono (Af.keep (by assumption) ?_) ?_;rotate_left;(focus omega);(focus(exact Hx))))) (by first|rfl|(simp[Dw,Sg, *];done)|(simp[Dw,Sg, *];omega)|(simp_all [Dw,Sg,bq,bn];done)|(simp_all [Dw,Sg,bq,bn];omega)))
theorem Vl(w:World)(Ae:Int):Calls Tryz.prog 73 #[.int .i64 Ae] w (Ret w fun r0 w'=>Nb w.heap.size w' r0 (Dw Ae)):=by
 have rr:=Lc
 go_enter Tryz.func73,Tryz.ntmps73
 go_wp2_with (first|(go_at_call 170;refine(Pq _ _  ).mono ?_;rintro e wa ⟨rfl,rfl⟩))
 all_goals
  refine bodyPost_ret (by simp[results,Tryz.results73,go_sem, *];try rfl) rfl ?_
  refine⟨_,rfl,?_,?_⟩
  .
   exact xT
  exact(Nb.cast (Nb.mk (by first|(with_reducible exact gC _ _ _ _)|(with_reducible refine Af.mono (Af.keep (by assumption) ?_) ?_;rotate_left;(focus omega);(focus(exact Hx))))) (by first|rfl|(simp[Dw,Sg, *];done)|(simp[Dw,Sg, *];omega)|(simp_all [Dw,Sg,bq,bn];done)|(simp_all [Dw,Sg,bq,bn];omega)))
theorem Af.boxS{B:Nat}{e:TypeId}{n:Nat}{w:World}{v:Value}{xs:List Int}(h:Af B e n w v xs){X:Nat}{t:TypeId}{a:Array Value}(hX:Blk w X t a)(h1:t≠e)(i:Nat)(u:Value):Af B e n (w.setCell ⟨X,i,none⟩ u) v xs :=
 Af.upd' h ((Upd.refl w [X]).setCell (by simp) _) (fun k hk hf=>by
  obtain⟨cur,hb⟩:=h.typed hk
  simp at hf;subst hf
  exact h1 (hX.same hb))
def Hz(w:World)(v:Value)(s:De):Prop:=∃t2:Value,v=.agg #[.int .i64 s.Id,.int .i64 s.Seq,.int .i64 s.View.Jobs.Index,.int .i64 s.View.Jobs.Time,.int .i64 s.View.Jobs.Holder,.int .i64 s.View.Jobs.Epoch,.int .i64 s.View.Jobs.Until,t2,.bool s.Busy,.int .i64 s.Op.Kind,.int .i64 s.Op.A,.int .i64 s.Op.B,.int .i64 s.Op.C,.int .i64 s.Op.D,.int .i64 s.Index]/\Aj 2 w t2 (Nm s.View.Jobs.Open)
def Cs(B:Nat)(w:World)(v:Value)(s:De)(F:List Nat):Prop:=∃t2:Value,v=.agg #[.int .i64 s.Id,.int .i64 s.Seq,.int .i64 s.View.Jobs.Index,.int .i64 s.View.Jobs.Time,.int .i64 s.View.Jobs.Holder,.int .i64 s.View.Jobs.Epoch,.int .i64 s.View.Jobs.Until,t2,.bool s.Busy,.int .i64 s.Op.Kind,.int .i64 s.Op.A,.int .i64 s.Op.B,.int .i64 s.Op.C,.int .i64 s.Op.D,.int .i64 s.Index]/\Af B 286 2 w t2 (Nm s.View.Jobs.Open)/\F=Be [t2]
def Lo(s:De):Nat:=s.View.Jobs.Open.length*2
def Qx(B:Nat)(w:World)(v:Value)(s:De)(F:List Nat)(q:Int):Prop:=∃t2:Value,v=.agg #[.int .i64 s.Id,.int .i64 s.Seq,.int .i64 s.View.Jobs.Index,.int .i64 s.View.Jobs.Time,.int .i64 s.View.Jobs.Holder,.int .i64 s.View.Jobs.Epoch,.int .i64 s.View.Jobs.Until,t2,.bool s.Busy,.int .i64 s.Op.Kind,.int .i64 s.Op.A,.int .i64 s.Op.B,.int .i64 s.Op.C,.int .i64 s.Op.D,.int .i64 s.Index]/\Af B 286 2 w t2 (run q (s.View.Jobs.Open.length*2))/\F=Be [t2]
section
variable {B B':Nat} {w w':World} {v:Value} {s s':De} {F:List Nat} {q:Int}
theorem Hz.shape(h:Hz w v s):∃a7 n7 k7,v=.agg #[.int .i64 s.Id,.int .i64 s.Seq,.int .i64 s.View.Jobs.Index,.int .i64 s.View.Jobs.Time,.int .i64 s.View.Jobs.Holder,.int .i64 s.View.Jobs.Epoch,.int .i64 s.View.Jobs.Until,.slice a7 n7 k7,.bool s.Busy,.int .i64 s.Op.Kind,.int .i64 s.Op.A,.int .i64 s.Op.B,.int .i64 s.Op.C,.int .i64 s.Op.D,.int .i64 s.Index]:=by
 obtain⟨t2,rfl,h2⟩:=h
 obtain⟨a2,n2,k2,rfl⟩:=h2.shape
 exact⟨a2,n2,k2,rfl⟩
theorem Hz.ext(h:Hz w v s)(x:Ext w w'):Hz w' v s:=let ⟨t2,e,h2⟩:=h;⟨t2,e,h2.ext x⟩
theorem Cs.rd(h:Cs B w v s F):Hz w v s:=let ⟨t2,e,h2,_⟩:=h;⟨t2,e,h2.ints⟩
theorem Cs.ext(h:Cs B w v s F)(x:Ext w w'):Cs B w' v s F:=let ⟨t2,e,h2,hF⟩:=h;⟨t2,e,Own.ext h2 x,hF⟩
theorem Cs.keep(h:Cs B w v s F)(x:Chg B w w'):Cs B w' v s F:=let ⟨t2,e,h2,hF⟩:=h;⟨t2,e,h2.keep x,hF⟩
theorem Cs.mono(h:Cs B w v s F)(x:B'<=B):Cs B' w v s F:=let ⟨t2,e,h2,hF⟩:=h;⟨t2,e,h2.mono x,hF⟩
theorem Cs.upd(h:Cs B w v s F){fs:List Nat}(x:Upd w w' fs)(hn:∀k,k ∈ F->k ∈ fs->False):Cs B w' v s F:=by
 obtain⟨t2,e,h2,rfl⟩:=h
 exact⟨t2,e,Af.upd' h2 x hn,rfl⟩
theorem Cs.box(h:Cs B w v s F){X:Nat}{a:Array Value}(hX:Blk w X 96 a)(i:Nat)(u:Value):Cs B (w.setCell ⟨X,i,none⟩ u) v s F:=let ⟨t2,e,h2,hF⟩:=h;⟨t2,e,h2.boxS hX dC i u,hF⟩
theorem Cs.low(h:Cs B w v s F):∀k,k ∈ F->B<=k/\k<w.heap.size:=by
 obtain⟨t2,e,h2,rfl⟩:=h
 exact fun k hk=>h2.foot k hk
theorem Qx.ext(h:Qx B w v s F q)(x:Ext w w'):Qx B w' v s F q:=let ⟨t2,e,h2,hF⟩:=h;⟨t2,e,Own.ext h2 x,hF⟩
theorem Qx.upd(h:Qx B w v s F q){fs:List Nat}(x:Upd w w' fs)(hn:∀k,k ∈ F->k ∈ fs->False):Qx B w' v s F q:=by
 obtain⟨t2,e,h2,rfl⟩:=h
 exact⟨t2,e,Af.upd' h2 x hn,rfl⟩
end
theorem kN{w:World}{v:Value}{s:De}(h:Hz w v s):Calls Tryz.prog 212 #[v] w (Cp w (.bool (Hd s))):=by
 obtain⟨t2,rfl,h2⟩:=h
 exact kL w _ _ _ _ _ _ _ t2 _ _ _ _ _ _ _ _ h2
theorem kO{w:World}{v:Value}{s:De}(h:Hz w v s):Calls Tryz.prog 277 #[v] w (Cp w (.bool (Hd s))):=by
 obtain⟨t2,rfl,h2⟩:=h
 exact kM w _ _ _ _ _ _ _ t2 _ _ _ _ _ _ _ _ h2
end Go.Proofs.YtkpmbocbbgocbaaGreat
