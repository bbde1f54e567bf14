/- LgM LkB LkC LkE LkO EqAck LkI. -/
import Derived.Test.YtkpmbocbbgocbaaGreatPB5
import Derived.RangeFuncNested
import Derived.RangeFuncBound
import Derived.RangeFuncCalls
import Derived.RangeFuncLeaves
import Derived.Shelf.Abstract
import Derived.Shelf.RegionOpen
import Derived.OwnWalkIn
import Derived.TacticsInMore
import Derived.LoopNIn
import Derived.LoopIn
import Derived.Maps.AppendAt
set_option linter.unusedSimpArgs false
set_option linter.unusedVariables false
set_option maxHeartbeats 8000000
set_option maxRecDepth 100000
namespace Go.Proofs.YtkpmbocbbgocbaaGreat
open Go.RowKit Go.G8
theorem SG{α:Type}{p:α->Bool}:∀(l:List α) (k:Nat),(∀j x,l[j]?=some x->p x=decide (j<k))->l.filter p=l.take k
 | [],k,_=>by simp
 | x::l,0,h=>by
  have h0:=h 0 x rfl
  simp at h0
  have:=SG l 0 (fun j y hy=>by have:=h (j+1) y (by simpa using hy);simpa using this)
  rw[List.filter_cons,h0,this];simp
 | x::l,k+1,h=>by
  have h0:=h 0 x rfl
  simp at h0
  have:=SG l k (fun j y hy=>by have:=h (j+1) y (by simpa using hy);simpa using this)
  rw[List.filter_cons,h0,this];simp
theorem aQ8(l:List Bj)(d:Bj):wM (l++[d])=wM l++[d.Index,d.Time,d.Client,d.Seq,d.Op.Kind,d.Op.A,d.Op.B,d.Op.C,d.Op.D]:=by simp[wM,Bj.ints,List.flatMap_append]
theorem UP(l:List EN)(d:EN):MG (l++[d])=MG l++[d.Client,d.Seq,d.Index,d.Last]:=by simp[MG,EN.ints,List.flatMap_append]
theorem TQ{α:Type}{p:α->Bool}{l:List α}{k:Nat}{d:α}(hd:l[k]?=some d):(l.take (k+1)).filter p=(l.take k).filter p++(if p d then [d] else []):=by
 rw[List.take_add_one,hd,List.filter_append];simp[List.filter_cons]
theorem aQ9:∀(l:List Bj) (k:Nat),(wM l).take (k*9)=wM (l.take k)
 | [],k=>by simp[wM]
 | x::l,0=>by simp[wM]
 | x::l,k+1=>by
  have hx:(Bj.ints x).length=9:=rfl
  have e:(k+1)*9=(Bj.ints x).length+k*9:=by rw[hx];omega
  show((Bj.ints x)++wM l).take _=(Bj.ints x)++wM (l.take k)
  rw[e,List.take_length_add_append,aQ9 l k]
theorem Aw.entriesTo{w:World}{a:Option Addr}{n cap:Nat}{l:List Bj}(h:Aw 9 w (.slice a n cap) (wM l)){k:Nat}(hk:k<=n):Aw 9 w (.slice a k cap) (wM (l.take k)):=by
 have:=Sl.sliced h (Nat.zero_le k) hk
 simp only[Nat.zero_mul,List.drop_zero,<-List.map_take] at this
 rw[aQ9] at this
 have e:Go.sliced a 0 k cap 9=.slice a k cap:=by
  unfold Go.sliced
  cases a with
  | none=>simp
  | some p=>simp[Addr.add]
 rw[e] at this
 exact this
def GG:wG:=⟨0,0,0,[]⟩
def NM(b:iY)(i:Int):Int:=if i=b.Base then b.Time else match b.Entries[(i - b.Base - 1).toNat]? with|some e=>e.Time|none=>0
def WJ(b:iY)(f t:Int):List Bj:=b.Entries.filter (fun e=>inb e.Index f t)
def bC0(b:iY)(f:Int):List Bj:=b.Entries.filter (fun e=>decide (f<=e.Index))
def TR(s:List Bz)(l:List Bj):List Bz:=(wL s l).getD s
def NT(n:Bh)(i:Int):wG:=⟨n.Head.Num+1,i,NM n.Book i,TR n.Head.Seen (WJ n.Book (n.Book.Base+1) i)⟩
noncomputable def TS(n:Bh):Bool:=if n.More then inb n.Next.Base (n.Head.Base+1) n.Durable&&eqB n.Next (NT n n.Next.Base) else eqB n.Next GG
noncomputable def NU(n:Bh):Bool:=if n.More then AK n.Next&&(decide (n.Next.Num=n.Head.Num+1)&&(decide (n.Head.Base<n.Next.Base)&&(decide (n.Next.Base<=n.Durable)&&(decide (n.Next.Time=NM n.Book n.Next.Base)&&eqB n.Next.Seen (TR n.Head.Seen (n.Book.Entries.take (n.Next.Base - n.Book.Base).toNat)))))) else eqB n.Next GG
noncomputable def PN(n:Bh):Bool:=eqB n.Owe ((bC0 n.Book (n.Durable+1)).map JU)
noncomputable def IV(n:Bh):Bool:=PE n.Two&&(AK n.Head&&(AH n.Book&&(decide (n.Book.Base=n.Head.Base)&&decide (n.Book.Time=n.Head.Time))))
noncomputable def LI(n:Bh):Bool:=(wL n.Head.Seen n.Book.Entries).isSome&&(eqB (TR n.Head.Seen n.Book.Entries) n.Seen&&inb n.Durable n.Book.Base (LO n.Book))
noncomputable def DX(n:Bh):Bool:=IV n&&(LI n&&(PN n&&TS n))
structure bV5 (n:Bh):Prop where
 num:0<=n.Head.Num/\n.Head.Num<=n.Head.Base
 base:n.Book.Base=n.Head.Base
 time:n.Book.Time=n.Head.Time
 bok:AH n.Book=true
 book:PG n.Book
 seen:BN n.Head.Seen
 over:(wL n.Head.Seen n.Book.Entries).isSome=true
 dur:n.Book.Base<=n.Durable/\n.Durable<=LO n.Book
theorem WL{n:Bh}(h:IV n=true):AK n.Head=true/\AH n.Book=true/\PG n.Book/\GT n.Head.Seen=true/\n.Book.Base=n.Head.Base/\0<=n.Head.Num/\n.Head.Num<=n.Head.Base:=by
 simp only[IV,Bool.and_eq_true,decide_eq_true_eq] at h
 obtain⟨_,h1,h2,h3,_⟩:=h
 have h4:=h1
 simp only[AK,Bool.and_eq_true,AO,decide_eq_true_eq] at h4
 exact⟨h1,h2,QV h2,h4.2.2.2.2.1,h3,h4.2.1.1,h4.2.1.2⟩
theorem cL4{n:Bh}(h:IV n=true)(k:LI n=true):bV5 n:=by
 obtain⟨h1,h2,h3,h4,h5,h6,h7⟩:=WL h
 simp only[IV,Bool.and_eq_true,decide_eq_true_eq] at h
 simp only[LI,Bool.and_eq_true,AO] at k
 exact⟨⟨h6,h7⟩,h5,h.2.2.2.2,h2,h3,IL.1 h4,k.1,k.2.2⟩
theorem bK1{b:iY}(h:PG b){i:Int}(hi:b.Base<=i):WJ b (b.Base+1) i=b.Entries.take (i - b.Base).toNat:=by
 refine SG _ _ (fun j x hx=>?_)
 have h1:=(h.idx j x hx).1
 have h2:∀a b:Bool,(a=true↔b=true)->a=b:=by decide
 exact h2 _ _ (by rw[AO,decide_eq_true_eq];omega)
theorem bK2{b:iY}(h:PG b)(i:Int):WJ b i 2000=bC0 b i:=by
 unfold WJ bC0
 refine List.filter_congr (fun x hx=>?_)
 obtain⟨j,hj,hx'⟩:=List.getElem_of_mem hx
 have h1:=JB (h.idx j x (by rw[List.getElem?_eq_getElem hj,hx'])).2
 have h2:∀a b:Bool,(a=true↔b=true)->a=b:=by decide
 exact h2 _ _ (by rw[AO,decide_eq_true_eq];omega)
theorem XK{b:iY}{i:Int}{k:Nat}{e:Bj}(hk:(k:Int)=i - b.Base - 1)(he:b.Entries[k]?=some e):NM b i=e.Time:=by
 have h1:¬ i=b.Base:=by omega
 have h2:(i - b.Base - 1).toNat=k:=by omega
 simp only[NM]
 rw[if_neg h1,h2,he]
theorem aR0{n:Bh}(h:bV5 n){i:Int}(h1:n.Head.Base<i)(h2:i<=n.Durable):AK (NT n i)=true/\TR n.Head.Seen (WJ n.Book (n.Book.Base+1) i)=TR n.Head.Seen (n.Book.Entries.take (i - n.Book.Base).toNat):=by
 have hb:=h.base;have hd:=h.dur;have hn:=h.num;have ht:=h.book.top;have h0:=h.book.base
 unfold LO at hd
 have hp:=bK1 h.book (i:=i) oM
 obtain⟨k,hk⟩:∃k:Nat,(k:Int)=i - n.Book.Base - 1:=⟨(i - n.Book.Base - 1).toNat,by omega⟩
 have hkl:k<n.Book.Entries.length:=by omega
 have he:n.Book.Entries[k]?=some n.Book.Entries[k]:=List.getElem?_eq_getElem hkl
 have hx:=h.book.idx k _ he
 have ha:=JB hx.2
 obtain⟨t,hs⟩:=Option.isSome_iff_exists.1 h.over
 obtain⟨u,hu⟩:=aE2 hs (k+1)
 have hkk:(i - n.Book.Base).toNat=k+1:=by omega
 have hg:TR n.Head.Seen (n.Book.Entries.take (k+1))=u:=by simp[TR,hu]
 have hl:AB u=n.Book.Entries[k].Index:=aE1 h.seen hu (e:=n.Book.Entries[k]) (by
  rw[List.getLast?_eq_getElem?,List.length_take,Nat.min_eq_left oM,Nat.add_sub_cancel,List.getElem?_take_of_lt oM,he])
 have hso:BN u:=PZ h.seen hu
 refine⟨?_,by rw[hp]⟩
 rw[show NT n i=⟨n.Head.Num+1,i,n.Book.Entries[k].Time,u⟩ from by unfold NT;rw[hp,hkk,hg,XK hk he]]
 simp only[AK,Bool.and_eq_true,Bool.or_eq_true,AO,wZ,decide_eq_true_eq]
 refine⟨⟨by omega,by omega⟩,⟨by omega,by omega⟩,⟨by omega,by omega⟩,Or.inl oM,MN hso,by omega⟩
theorem bV6{n:Bh}(h:bV5 n):NU n=TS n:=by
 unfold NU TS
 split
 .
  cases hr:inb n.Next.Base (n.Head.Base+1) n.Durable
  .
   have hn:¬ (n.Head.Base<n.Next.Base/\n.Next.Base<=n.Durable):=by
    intro hh
    rw[AO.2 ⟨by omega,by omega⟩] at hr
    cases hr
   have h2:∀a b:Bool,(a=true->b=true->False)->(a&&b)=false:=by decide
   by_cases ha:n.Head.Base<n.Next.Base
   .
    have hb:¬ n.Next.Base<=n.Durable:=fun hb=>hn ⟨ha,hb⟩
    simp[hb]
   simp[ha]
  have hr':=AO.1 hr
  obtain⟨h1,h2⟩:=aR0 h (i:=n.Next.Base) oM oM
  have e2:∀a b:Bool,(a=true↔b=true)->a=b:=by decide
  refine e2 _ _ ?_
  simp only[Bool.and_eq_true,decide_eq_true_eq,SB,true_and]
  rw[<-h2]
  constructor
  .
   rintro⟨_,h3,_,_,h6,h7⟩
   have e:(⟨n.Next.Num,n.Next.Base,n.Next.Time,n.Next.Seen⟩:wG)=NT n n.Next.Base:=by rw[h3,h6,h7];rfl
   exact e
  intro he
  refine⟨by rw[he];exact h1,by rw[he];rfl,by omega,by omega,?_,?_⟩
  .
   exact(congrArg wG.Time he).trans rfl
  exact(congrArg wG.Seen he).trans rfl
 rfl
theorem cG4{n:Bh}(h:IV n=true)(k:LI n=true):DX n=(NU n&&PN n):=by
 rw[DX,h,k,bV6 (cL4 h k)]
 cases TS n <;> cases PN n <;> rfl
theorem cL5{p:Prop}(h:p:=by intro KQ hKQ;(repeat (first|go_big_quiet_skip|(go_big_quiet_want;first|(refine Hn _ _ _ ?_ rfl rfl (fun wq hq=>?_) ?_;rotate_left;(focus((try have y0:=hq.cell I0);(try have y1:=hq.cell I1);(try have y2:=hq.cell I2);go_simp;first|done|rfl));(try simp only[Ak,Act.put]);go_big_quiet_on)|(go_big_quiet_op;first|go_big_quiet_on|(refine⟨_,fun _ _=>rfl,?_⟩;go_big_quiet_on)|(apply Exists.intro;refine⟨fun wq hq=>?_,?_⟩;(focus(first|(go_at_call 281;exact Tu hq (by have c:=TM wq Ay Ce _ Be (zX.ext (hEw.trans hq));rw[show AH (⟨Ay,Ce,Be⟩:iY)=true from e0] at c;exact c))|(go_at_call 284;exact Tu hq (by have c:=aP9 wq Ay Ce _ Be (zX.ext (hEw.trans hq)) (QV e0);exact c))|(go_at_call 176;exact Ma hq (by have c:=Og wq AL (Ay+1) (LO (⟨Ay,Ce,Be⟩:iY));rw[hbt] at c;exact c))));go_big_quiet_on)))));exact wpQuiet_nil hKQ):p:=h
theorem bK3(w:World)(Ay Ce:Int)(CV:Value)(Be:List Bj)(AL:Int)(zX:Aw 9 w CV (wM Be))(e0:AH (⟨Ay,Ce,Be⟩:iY)=true)(e1:Ay<AL/\AL<=Ay+Be.length):Calls Tryz.prog 363 #[.agg #[.int .i64 Ay,.int .i64 Ce,CV],.int .i64 AL] w (Ret w fun r w'=>∃d:Bj,d.Time=NM (⟨Ay,Ce,Be⟩:iY) AL/\r=.tuple #[.agg #[.int .i64 d.Index,.int .i64 d.Time,.int .i64 d.Client,.int .i64 d.Seq,.int .i64 d.Op.Kind,.int .i64 d.Op.A,.int .i64 d.Op.B,.int .i64 d.Op.C,.int .i64 d.Op.D],.bool true]):=by
 obtain⟨a2,cap2,rfl,hcap2,hm2,ha2⟩:=zX.recs (f:=Bj.ints) (fun _=>rfl) dC
 have HA:=Lib.hid ha2
 clear ha2
 unfold maxLen at hm2
 have eb:=(QV e0).base;have et:=(QV e0).top
 simp only at eb et
 obtain⟨W0,hW0⟩:∃W0,W0=(w.alloc (.cells #[.int .i64 Ay,.int .i64 Ce,.slice a2 Be.length cap2] 78)).alloc (.cells #[.int .i64 0,.int .i64 0,.int .i64 0,.int .i64 0,.int .i64 0,.int .i64 0,.int .i64 0,.int .i64 0,.int .i64 0] 281):=⟨_,rfl⟩
 have hEw:Ext w W0:=by rw[hW0];exact((Ext.refl _).alloc _).alloc _
 have KX:Blk W0 w.heap.size 78 #[.int .i64 Ay,.int .i64 Ce,.slice a2 Be.length cap2]:=by rw[hW0];exact(Blk.new _ _ _).alloc _
 have KR:Blk W0 (w.heap.size+1) 281 #[.int .i64 0,.int .i64 0,.int .i64 0,.int .i64 0,.int .i64 0,.int .i64 0,.int .i64 0,.int .i64 0,.int .i64 0]:=by rw[hW0];exact Blk.new2 _ _ _ _
 have I0:=KX.cell 0;have I1:=KX.cell 1;have I2:=KX.cell 2
 simp only[List.getElem?_toArray,List.getElem?_cons_zero,List.getElem?_cons_succ] at I0 I1 I2
 go_enter Tryz.func363,Tryz.ntmps363
 go_upto_region 1 with(fail)
 rw[<-hW0]
 clear hW0
 have hwb:IntKind.i64.wrap (Ay+1)=Ay+1:=by rw[IntKind.wrap_i64] <;> omega
 have hbt:inb AL (Ay+1) (LO (⟨Ay,Ce,Be⟩:iY))=true:=AO.2 (by simp only[LO];omega)
 have HBT:=Lib.hid hbt
 obtain⟨k,hk⟩:∃k:Nat,(k:Int)=AL - Ay - 1:=⟨(AL - Ay - 1).toNat,by omega⟩
 have hw1:IntKind.i64.wrap (AL - Ay)=AL - Ay:=by rw[IntKind.wrap_i64] <;> omega
 have hw2:IntKind.i64.wrap (AL - Ay - 1)=(k:Int):=by rw[hk,IntKind.wrap_i64] <;> omega
 have hkl:k<Be.length:=by omega
 obtain⟨d,b1,o1,hd,rfl,hb1,c⟩:=HA.out k hkl
 have ht:NM (⟨Ay,Ce,Be⟩:iY) AL=d.Time:=XK (by simpa using hk) hd
 have HT:=Lib.hid ht
 have d0:=hEw.cell (c 0 _ dC rfl)
 have d1:=hEw.cell (c 1 _ dC rfl)
 have d2:=hEw.cell (c 2 _ dC rfl)
 have d3:=hEw.cell (c 3 _ dC rfl)
 have d4:=hEw.cell (c 4 _ dC rfl)
 have d5:=hEw.cell (c 5 _ dC rfl)
 have d6:=hEw.cell (c 6 _ dC rfl)
 have d7:=hEw.cell (c 7 _ dC rfl)
 have d8:=hEw.cell (c 8 _ dC rfl)
 simp only[Nat.add_zero] at d0
 have HK:=Lib.hid hk
 have e0':=Lib.hid e0
 clear ht hd hk c
 refine rx0 cL5 fun w1 hx1=>?_
 have K1:=KR.ext hx1
 obtain⟨C1,F1,L1⟩:=K1.cfl
 have I0:=hx1.cell I0;have I1:=hx1.cell I1;have I2:=hx1.cell I2
 have d0:=hx1.cell d0
 have d1:=hx1.cell d1
 have d2:=hx1.cell d2
 have d3:=hx1.cell d3
 have d4:=hx1.cell d4
 have d5:=hx1.cell d5
 have d6:=hx1.cell d6
 have d7:=hx1.cell d7
 have d8:=hx1.cell d8
 clear KX KR K1 e0 hbt
 go_wp2_with fail
 refine bodyPost_ret (by simp[results,Tryz.results363,go_sem,C1,F1,L1];try rfl) rfl ?_
 exact⟨_,rfl,by exact Ag,d,HT.out.symm,rfl⟩
theorem aX5(w:World)(Ay Ce Uu:Int)(GH:Value)(Fc:List Bz)(AL MF:Int)(cP4:Value)(aZ8:List Bj)(k:Nat)(i:Int)(DN:Aw 3 w GH (Xh Fc))(cP5:Aw 9 w cP4 (wM aZ8))(e0:GT Fc=true)(e1:i - AL=k)(e2:k<=aZ8.length)(e3:aZ8.length<=20):Calls Tryz.prog 364 #[.agg #[.int .i64 Ay,.int .i64 Ce,.int .i64 Uu,GH],.agg #[.int .i64 AL,.int .i64 MF,cP4],.int .i64 i] w (Ret w fun r w'=>∃(x:Value) (b:Bool),r=.tuple #[x,.bool b]/\Aw 3 w' x (Xh (TR Fc (aZ8.take k)))):=by
 obtain⟨a3,n3,k3,rfl⟩:=DN.shape
 obtain⟨a2,cap2,rfl,hcap2,hm2,ha2⟩:=cP5.recs (f:=Bj.ints) (fun _=>rfl) dC
 unfold maxLen at hm2
 obtain⟨W0,hW0⟩:∃W0,W0=(w.alloc (.cells #[.int .i64 Ay,.int .i64 Ce,.int .i64 Uu,.slice a3 n3 k3] 75)).alloc (.cells #[.int .i64 AL,.int .i64 MF,.slice a2 aZ8.length cap2] 78):=⟨_,rfl⟩
 have hEw:Ext w W0:=by rw[hW0];exact((Ext.refl _).alloc _).alloc _
 have KX:Blk W0 w.heap.size 75 #[.int .i64 Ay,.int .i64 Ce,.int .i64 Uu,.slice a3 n3 k3]:=by rw[hW0];exact(Blk.new _ _ _).alloc _
 have KY:Blk W0 (w.heap.size+1) 78 #[.int .i64 AL,.int .i64 MF,.slice a2 aZ8.length cap2]:=by rw[hW0];exact Blk.new2 _ _ _ _
 have I0:=KX.cell 0;have I1:=KX.cell 1;have I2:=KX.cell 2;have I3:=KX.cell 3
 simp only[List.getElem?_toArray,List.getElem?_cons_zero,List.getElem?_cons_succ] at I0 I1 I2 I3
 have J0:=KY.cell 0;have J1:=KY.cell 1;have J2:=KY.cell 2
 simp only[List.getElem?_toArray,List.getElem?_cons_zero,List.getElem?_cons_succ] at J0 J1 J2
 go_enter Tryz.func364,Tryz.ntmps364
 go_upto_region 1 with(fail)
 rw[<-hW0]
 clear hW0 KX KY
 have hw1:IntKind.i64.wrap (i - AL)=(k:Int):=by rw[e1,IntKind.wrap_i64] <;> omega
 have H1:=Lib.hid e1
 clear e1
 have hkc:k<=cap2:=by omega
 have hsl:=(cP5.ext hEw).entriesTo e2
 refine wp_region_held_drew (S:=fun w'=>Ext W0 w') (by kernel_rfl) (by(try dsimp only);exact xT) (fun hHeld=>?_)
 refine wt 0 ?_
 (try simp only[Ak,Act.put])
 refine wpAnyH_take (i:=1) (v:=?_) rfl (by kernel_rfl) (by kernel_rfl) (by kernel_rfl) (fun _ _ _ h=>h) (Or.inl ⟨by rfl,?_⟩) (by assumption) ?_
 rotate_left
 focus(intro w hSw;(try dsimp only at hSw);have q3:=hSw.cell I3;have q2:=hSw.cell J2;have q0:=hSw.cell J0;go_simp <;> with_reducible rfl)
 (try simp only[Ak,Act.put])
 refine wt 2 ?_
 (try simp only[Ak,Act.put])
 refine wpAnyH_take (i:=3) (v:=?_) rfl (by kernel_rfl) (by kernel_rfl) (by kernel_rfl) (fun _ _ _ h=>h) (Or.inl ⟨by rfl,?_⟩) (by assumption) ?_
 rotate_left
 focus(intro w hSw;(try dsimp only at hSw);have q3:=hSw.cell I3;have q2:=hSw.cell J2;have q0:=hSw.cell J0;go_simp <;> with_reducible rfl)
 (try simp only[Ak,Act.put])
 refine wt 4 ?_
 (try simp only[Ak,Act.put])
 refine wt 5 ?_
 (try simp only[Ak,Act.put])
 refine wpAnyH_take (i:=6) (v:=?_) rfl (by kernel_rfl) (by kernel_rfl) (by kernel_rfl) (fun _ _ _ h=>h) (Or.inl ⟨by rfl,?_⟩) (by assumption) ?_
 rotate_left
 focus(intro w hSw;(try dsimp only at hSw);have q3:=hSw.cell I3;have q2:=hSw.cell J2;have q0:=hSw.cell J0;go_simp <;> with_reducible rfl)
 (try simp only[Ak,Act.put])
 refine wt 7 ?_
 (try simp only[Ak,Act.put])
 refine wt 8 ?_
 (try simp only[Ak,Act.put])
 refine wr1 9 fun Kz hKz=>?_
 (try simp only[Ak])
 go_simp
 go_at_call 282
 refine(aB0 _ _ _ Fc (aZ8.take k) (DN.ext (hEw.trans Ag)) (hsl.ext Ag) e0 (by rw[List.length_take];omega)).mono ?_
 rintro e w1⟨_,rfl,hx1,x,rfl,g1⟩
 have X1:Ext W0 w1:=Ext.trans Ag hx1
 clear hx1
 refine hKz.out _ _ (by(try dsimp only);exact xT) (fun hHeld=>?_)
 clear hKz Kz
 (try simp only[Ak,Act.put])
 refine wt 10 ?_
 (try simp only[Ak,Act.put])
 refine wt 11 ?_
 (try simp only[Ak,Act.put])
 refine wt 12 ?_
 (try simp only[Ak,Act.put])
 refine wt 13 ?_
 (try simp only[Ak,Act.put])
 refine wpAnyH_done (by kernel_rfl) ?_ _
 go_wp2_with fail
 go_ret2
 exact⟨_,rfl,by exact Ag,_,_,rfl,g1⟩
theorem aR1(w:World)(AU:Value)(Bl:List (List Int))(DL:Value)(Cq:List AG)(CV:Value)(Be:List (List Int))(GH:Value)(Fc:List AG)(Em:Int)(Ga:Int)(Ih:Int)(PQ:Value)(lM:List Bz)(Py:Int)(Oh:Int)(Ee:Int)(OB:Value)(Oj:List Bz)(Pw:Bool)(Ck:Int)(Dt:Int)(OC:Value)(Ki:List Bj)(OE:Value)(Rz:List Bz)(Fp:Int)(OF:Value)(aO:List EN)(AW:Ll 0 w AU (Bd Bl))(CH:Ll 1 w DL (Dq Cq))(zX:Ll 0 w CV (Bd Be))(DN:Ll 1 w GH (Dq Fc))(KV:Aw 3 w PQ (Xh lM))(JK:Aw 3 w OB (Xh Oj))(FI:Aw 9 w OC (wM Ki))(LU:Aw 3 w OE (Xh Rz))(OG:Aw 4 w OF (MG aO))(e0:bV5 (⟨⟨⟨Bl,Cq⟩,⟨Be,Fc⟩⟩,⟨Em,Ga,Ih,lM⟩,⟨Py,Oh,Ee,Oj⟩,Pw,⟨Ck,Dt,Ki⟩,Rz,Fp,aO⟩:Bh)):Calls Tryz.prog 285 #[.agg #[AU,DL,CV,GH,.int .i64 Em,.int .i64 Ga,.int .i64 Ih,PQ,.int .i64 Py,.int .i64 Oh,.int .i64 Ee,OB,.bool Pw,.int .i64 Ck,.int .i64 Dt,OC,OE,.int .i64 Fp,OF]] w (Fz w (.bool (NU (⟨⟨⟨Bl,Cq⟩,⟨Be,Fc⟩⟩,⟨Em,Ga,Ih,lM⟩,⟨Py,Oh,Ee,Oj⟩,Pw,⟨Ck,Dt,Ki⟩,Rz,Fp,aO⟩:Bh)))):=by
 obtain⟨a0,n0,k0,rfl⟩:=AW.shape
 obtain⟨a1,n1,k1,rfl⟩:=CH.shape
 obtain⟨a2,n2,k2,rfl⟩:=zX.shape
 obtain⟨a3,n3,k3,rfl⟩:=DN.shape
 obtain⟨a7,n7,k7,rfl⟩:=KV.shape
 obtain⟨a11,n11,k11,rfl⟩:=JK.shape
 obtain⟨a15,n15,k15,rfl⟩:=FI.shape
 obtain⟨a16,n16,k16,rfl⟩:=LU.shape
 obtain⟨a18,n18,k18,rfl⟩:=OG.shape
 have hb:=e0.base;have hnum:=e0.num;have hdur:=e0.dur;have htop:=e0.book.top;have hbb:=e0.book.base;have hlen:=e0.book.len
 simp only[LO] at hb hnum hdur htop hbb hlen
 have hb1:=Int.le_of_eq hb;have hb2:=Int.le_of_eq hb.symm
 clear hb
 have HBOK:=Lib.hid e0.bok;have HSN:=Lib.hid (MN e0.seen);have HP:=Lib.hid e0
 simp only at HBOK HSN
 clear e0
 obtain⟨W0,hW0⟩:∃W0,W0=w.alloc (.cells #[.slice a0 n0 k0,.slice a1 n1 k1,.slice a2 n2 k2,.slice a3 n3 k3,.int .i64 Em,.int .i64 Ga,.int .i64 Ih,.slice a7 n7 k7,.int .i64 Py,.int .i64 Oh,.int .i64 Ee,.slice a11 n11 k11,.bool Pw,.int .i64 Ck,.int .i64 Dt,.slice a15 n15 k15,.slice a16 n16 k16,.int .i64 Fp,.slice a18 n18 k18] 81):=⟨_,rfl⟩
 have hEw:Ext w W0:=by rw[hW0];exact(Ext.refl _).alloc _
 have KX:Blk W0 w.heap.size 81 #[.slice a0 n0 k0,.slice a1 n1 k1,.slice a2 n2 k2,.slice a3 n3 k3,.int .i64 Em,.int .i64 Ga,.int .i64 Ih,.slice a7 n7 k7,.int .i64 Py,.int .i64 Oh,.int .i64 Ee,.slice a11 n11 k11,.bool Pw,.int .i64 Ck,.int .i64 Dt,.slice a15 n15 k15,.slice a16 n16 k16,.int .i64 Fp,.slice a18 n18 k18]:=by rw[hW0];exact Blk.new _ _ _
 have hLX:=KX.lt
 have I0:=KX.cell 0;have I1:=KX.cell 1;have I2:=KX.cell 2;have I3:=KX.cell 3;have I4:=KX.cell 4;have I5:=KX.cell 5;have I6:=KX.cell 6;have I7:=KX.cell 7;have I8:=KX.cell 8;have I9:=KX.cell 9;have I10:=KX.cell 10;have I11:=KX.cell 11;have I12:=KX.cell 12;have I13:=KX.cell 13;have I14:=KX.cell 14;have I15:=KX.cell 15;have I16:=KX.cell 16;have I17:=KX.cell 17;have I18:=KX.cell 18
 simp only[List.getElem?_toArray,List.getElem?_cons_zero,List.getElem?_cons_succ] at I0 I1 I2 I3 I4 I5 I6 I7 I8 I9 I10 I11 I12 I13 I14 I15 I16 I17 I18
 go_enter Tryz.func285,Tryz.ntmps285
 go_upto_region 1 with(fail)
 rw[<-hW0]
 clear hW0 KX
 cases Pw
 .
  go_wp2_with (first|(go_at_call 289;refine(VO _ Py Oh Ee _ Oj 0 0 0 _ [] (JK.ext Ag) (show Aw 3 _ _ (Xh []) from Aw.nil 3 _)).mono ?_;rintro e9 w1 ⟨rfl,hx1⟩))
  go_ret
  exact⟨by first|rfl|(simp[NU,GG];done),by exact Ag⟩
 have hw4:IntKind.i64.wrap (Em+1)=Em+1:=by rw[IntKind.wrap_i64] <;> omega
 cases p1:AK (⟨Py,Oh,Ee,Oj⟩:wG)
 .
  go_wp2_with (first|(go_at_call 280;refine(LQ _ Py Oh Ee _ Oj (JK.ext Ag)).mono ?_;rintro e9 w1 ⟨rfl,hx1⟩;rw[p1];have J0:=hx1.cell I0;have J1:=hx1.cell I1;have J2:=hx1.cell I2;have J3:=hx1.cell I3;have J4:=hx1.cell I4;have J5:=hx1.cell I5;have J6:=hx1.cell I6;have J7:=hx1.cell I7;have J8:=hx1.cell I8;have J9:=hx1.cell I9;have J10:=hx1.cell I10;have J11:=hx1.cell I11;have J12:=hx1.cell I12;have J13:=hx1.cell I13;have J14:=hx1.cell I14;have J15:=hx1.cell I15;have J16:=hx1.cell I16;have J17:=hx1.cell I17;have J18:=hx1.cell I18;have hz1:=hx1.size))
  go_ret
  exact⟨by rw[show NU (⟨⟨⟨Bl,Cq⟩,⟨Be,Fc⟩⟩,⟨Em,Ga,Ih,lM⟩,⟨Py,Oh,Ee,Oj⟩,true,⟨Ck,Dt,Ki⟩,Rz,Fp,aO⟩:Bh)=false from by simp[NU,p1]];try rfl,by exact Ag⟩
 by_cases q2:Py=Em+1
 rotate_left
 .
  have b2:(Py != Em+1)=true:=by simpa using q2
  have H2:=Lib.hid q2
  clear q2
  go_wp2_with (first|(go_at_call 280;refine(LQ _ Py Oh Ee _ Oj (JK.ext Ag)).mono ?_;rintro e9 w1 ⟨rfl,hx1⟩;rw[p1];have J0:=hx1.cell I0;have J1:=hx1.cell I1;have J2:=hx1.cell I2;have J3:=hx1.cell I3;have J4:=hx1.cell I4;have J5:=hx1.cell I5;have J6:=hx1.cell I6;have J7:=hx1.cell I7;have J8:=hx1.cell I8;have J9:=hx1.cell I9;have J10:=hx1.cell I10;have J11:=hx1.cell I11;have J12:=hx1.cell I12;have J13:=hx1.cell I13;have J14:=hx1.cell I14;have J15:=hx1.cell I15;have J16:=hx1.cell I16;have J17:=hx1.cell I17;have J18:=hx1.cell I18;have hz1:=hx1.size))
  go_ret
  exact⟨by rw[show NU (⟨⟨⟨Bl,Cq⟩,⟨Be,Fc⟩⟩,⟨Em,Ga,Ih,lM⟩,⟨Py,Oh,Ee,Oj⟩,true,⟨Ck,Dt,Ki⟩,Rz,Fp,aO⟩:Bh)=false from by simp[NU,H2.out]];try rfl,by exact Ag⟩
 have b2:(Py != Em+1)=false:=by simpa using q2
 have H2:=Lib.hid q2
 clear q2
 by_cases q3:Ga<Oh
 rotate_left
 .
  have b3:decide (Oh<=Ga)=true:=by simp;omega
  have H3:=Lib.hid q3
  clear q3
  go_wp2_with (first|(go_at_call 280;refine(LQ _ Py Oh Ee _ Oj (JK.ext Ag)).mono ?_;rintro e9 w1 ⟨rfl,hx1⟩;rw[p1];have J0:=hx1.cell I0;have J1:=hx1.cell I1;have J2:=hx1.cell I2;have J3:=hx1.cell I3;have J4:=hx1.cell I4;have J5:=hx1.cell I5;have J6:=hx1.cell I6;have J7:=hx1.cell I7;have J8:=hx1.cell I8;have J9:=hx1.cell I9;have J10:=hx1.cell I10;have J11:=hx1.cell I11;have J12:=hx1.cell I12;have J13:=hx1.cell I13;have J14:=hx1.cell I14;have J15:=hx1.cell I15;have J16:=hx1.cell I16;have J17:=hx1.cell I17;have J18:=hx1.cell I18;have hz1:=hx1.size))
  go_ret
  exact⟨by rw[show NU (⟨⟨⟨Bl,Cq⟩,⟨Be,Fc⟩⟩,⟨Em,Ga,Ih,lM⟩,⟨Py,Oh,Ee,Oj⟩,true,⟨Ck,Dt,Ki⟩,Rz,Fp,aO⟩:Bh)=false from by have h:=H3.out;simp only[NU,if_true];rw[show decide (Ga<Oh)=false by simpa using h];simp];try rfl,by exact Ag⟩
 have b3:decide (Oh<=Ga)=false:=by simp;omega
 have H3:=Lib.hid q3
 by_cases q4:Oh<=Fp
 rotate_left
 .
  have b4:decide (Fp<Oh)=true:=by simp;omega
  have H4:=Lib.hid q4
  clear q4 q3
  go_wp2_with (first|(go_at_call 280;refine(LQ _ Py Oh Ee _ Oj (JK.ext Ag)).mono ?_;rintro e9 w1 ⟨rfl,hx1⟩;rw[p1];have J0:=hx1.cell I0;have J1:=hx1.cell I1;have J2:=hx1.cell I2;have J3:=hx1.cell I3;have J4:=hx1.cell I4;have J5:=hx1.cell I5;have J6:=hx1.cell I6;have J7:=hx1.cell I7;have J8:=hx1.cell I8;have J9:=hx1.cell I9;have J10:=hx1.cell I10;have J11:=hx1.cell I11;have J12:=hx1.cell I12;have J13:=hx1.cell I13;have J14:=hx1.cell I14;have J15:=hx1.cell I15;have J16:=hx1.cell I16;have J17:=hx1.cell I17;have J18:=hx1.cell I18;have hz1:=hx1.size))
  go_ret
  exact⟨by rw[show NU (⟨⟨⟨Bl,Cq⟩,⟨Be,Fc⟩⟩,⟨Em,Ga,Ih,lM⟩,⟨Py,Oh,Ee,Oj⟩,true,⟨Ck,Dt,Ki⟩,Rz,Fp,aO⟩:Bh)=false from by have h:=H4.out;simp only[NU,if_true];rw[show decide (Oh<=Fp)=false by simpa using h];simp];try rfl,by exact Ag⟩
 have b4:decide (Fp<Oh)=false:=by simp;omega
 have H4:=Lib.hid q4
 obtain⟨k,hk⟩:∃k:Nat,Oh - Ck=(k:Int):=⟨(Oh - Ck).toNat,by omega⟩
 have hkt:(Oh - Ck).toNat=k:=by omega
 have hkl:k<=Ki.length:=by omega
 have HKK:=Lib.hid hk;have HKT:=Lib.hid hkt
 clear hk hkt
 go_upto_region 6 with(first|(go_at_call 280;refine(LQ _ Py Oh Ee _ Oj (JK.ext Ag)).mono ?_;rintro e9 w1 ⟨rfl,hx1⟩;rw[p1];have J0:=hx1.cell I0;have J1:=hx1.cell I1;have J2:=hx1.cell I2;have J3:=hx1.cell I3;have J4:=hx1.cell I4;have J5:=hx1.cell I5;have J6:=hx1.cell I6;have J7:=hx1.cell I7;have J8:=hx1.cell I8;have J9:=hx1.cell I9;have J10:=hx1.cell I10;have J11:=hx1.cell I11;have J12:=hx1.cell I12;have J13:=hx1.cell I13;have J14:=hx1.cell I14;have J15:=hx1.cell I15;have J16:=hx1.cell I16;have J17:=hx1.cell I17;have J18:=hx1.cell I18;have hz1:=hx1.size)|(go_at_call 363;refine(bK3 _ Ck Dt _ Ki Oh (FI.ext Ag) HBOK.out oM).mono ?_;rintro e9 w2 ⟨_,rfl,hx2,d,hd,rfl⟩;have HD:=Lib.hid hd;clear hd;have K0:=hx2.cell J0;have K1:=hx2.cell J1;have K2:=hx2.cell J2;have K3:=hx2.cell J3;have K4:=hx2.cell J4;have K5:=hx2.cell J5;have K6:=hx2.cell J6;have K7:=hx2.cell J7;have K8:=hx2.cell J8;have K9:=hx2.cell J9;have K10:=hx2.cell J10;have K11:=hx2.cell J11;have K12:=hx2.cell J12;have K13:=hx2.cell J13;have K14:=hx2.cell J14;have K15:=hx2.cell J15;have K16:=hx2.cell J16;have K17:=hx2.cell J17;have K18:=hx2.cell J18;have hz2:=hx2.size))
 obtain⟨W6,hW6⟩:∃W,W=w2.alloc (.cells #[.int .i64 d.Index,.int .i64 d.Time,.int .i64 d.Client,.int .i64 d.Seq,.int .i64 d.Op.Kind,.int .i64 d.Op.A,.int .i64 d.Op.B,.int .i64 d.Op.C,.int .i64 d.Op.D] 281):=⟨_,rfl⟩
 have KT:Blk W6 w2.heap.size 281 #[.int .i64 d.Index,.int .i64 d.Time,.int .i64 d.Client,.int .i64 d.Seq,.int .i64 d.Op.Kind,.int .i64 d.Op.A,.int .i64 d.Op.B,.int .i64 d.Op.C,.int .i64 d.Op.D]:=by rw[hW6];exact Blk.new _ _ _
 have h26:Ext w2 W6:=by rw[hW6];exact(Ext.refl _).alloc _
 have T1:=KT.cell 1
 simp only[List.getElem?_toArray,List.getElem?_cons_zero,List.getElem?_cons_succ] at T1
 rw[<-hW6]
 have hE6:Ext w W6:=((hEw.trans hx1).trans hx2).trans h26
 clear hW6 KT
 have M0:=h26.cell K0;have M1:=h26.cell K1;have M2:=h26.cell K2;have M3:=h26.cell K3;have M4:=h26.cell K4;have M5:=h26.cell K5;have M6:=h26.cell K6;have M7:=h26.cell K7;have M8:=h26.cell K8;have M9:=h26.cell K9;have M10:=h26.cell K10;have M11:=h26.cell K11;have M12:=h26.cell K12;have M13:=h26.cell K13;have M14:=h26.cell K14;have M15:=h26.cell K15;have M16:=h26.cell K16;have M17:=h26.cell K17;have M18:=h26.cell K18
 go_upto_region 7 with(first|(go_at_call 364;refine(aX5 _ Em Ga Ih _ lM Ck Dt _ Ki k Oh (KV.ext Ag) (FI.ext Ag) HSN.out HKK.out hkl hlen).mono ?_;rintro e9 w3 ⟨_,rfl,hx3,x,bb,rfl,g3⟩;have P0:=hx3.cell M0;have P1:=hx3.cell M1;have P2:=hx3.cell M2;have P3:=hx3.cell M3;have P4:=hx3.cell M4;have P5:=hx3.cell M5;have P6:=hx3.cell M6;have P7:=hx3.cell M7;have P8:=hx3.cell M8;have P9:=hx3.cell M9;have P10:=hx3.cell M10;have P11:=hx3.cell M11;have P12:=hx3.cell M12;have P13:=hx3.cell M13;have P14:=hx3.cell M14;have P15:=hx3.cell M15;have P16:=hx3.cell M16;have P17:=hx3.cell M17;have P18:=hx3.cell M18;have T2:=hx3.cell T1;have hz3:=hx3.size;obtain⟨xa,xn,xk,rfl⟩:=g3.shape))
 have hn:NU (⟨⟨⟨Bl,Cq⟩,⟨Be,Fc⟩⟩,⟨Em,Ga,Ih,lM⟩,⟨Py,Oh,Ee,Oj⟩,true,⟨Ck,Dt,Ki⟩,Rz,Fp,aO⟩:Bh)=(decide (Ee=d.Time)&&eqB Oj (TR lM (Ki.take k))):=by
  simp only[NU,if_true]
  rw[p1,<-HD.out,HKT.out,show decide (Py=Em+1)=true by simpa using H2.out,show decide (Ga<Oh)=true by simpa using H3.out,show decide (Oh<=Fp)=true by simpa using H4.out]
  rfl
 have HN:=Lib.hid hn
 clear hn
 by_cases q5:Ee=d.Time
 rotate_left
 .
  have b5:(Ee == d.Time)=false:=by simpa using q5
  have b6:decide (Ee=d.Time)=false:=by simpa using q5
  have H5:=Lib.hid q5
  clear q5
  go_wp2_with fail
  go_ret
  exact⟨by rw[HN.out,show decide (Ee=d.Time)=false by simpa using H5.out];rfl,by exact Ag⟩
 have b5:(Ee == d.Time)=true:=by simpa using q5
 have b6:decide (Ee=d.Time)=true:=by simpa using q5
 have H5:=Lib.hid q5
 clear q5
 go_wp2_with (first|(go_at_call 283;refine(PM _ _ _ Oj _ (JK.ext Ag) (g3.ext Ag)).mono ?_;rintro e9 w4 ⟨rfl,hx4⟩))
 go_ret
 exact⟨by rw[HN.out,show decide (Ee=d.Time)=true by simpa using H5.out];rfl,by exact Ag⟩
theorem Ext.others{w w':World}(h:Ext w w'):KeepsOthers w w':=KeepsOthers.of_grownBy h.grown (fun _ _ e=>by cases e)
theorem Blk.own{β:Type}(g:Nat)(t:TypeId)(cs:β->Array Value):Go.Own (fun s W=>Blk W g t (cs s)):=fun s X Y row hs hg hrow =>
 hs.grown hg (fun e'=>by obtain⟨o,ho,hc⟩:=hrow g e'.symm;rw[show X.heap[g]?=_ from hs] at ho;cases ho;cases hc)
theorem JR{F:Fence}{n:Nat}{P:Program}(w:World){o:Oper}{a:Act}{next:Act->World->Prop}{Q:Exit->Act->World->Prop}
  (s x:Operand) (t:TypeId) (hop:o.op=Op.call { callee:=Callee.builtin Builtin.append,args:=#[s,x],argTypes:=#[t,t] })
  (base:Nat) (e:TypeId) (i:TypeInfo) (z:Value) (size bytes:Nat) (h1:P.underlying t=some (.slice e)) (h2:P.info? e=some i) (h3:i.zero=some z) (h4:i.size=size) (h5:i.bytes=bytes) (h6:z.cells.size=size) (h7:0<size)
  (v:Value) (k:Nat) (xs:List Value) (hs:a.eval s=v) (hown:w.ownsRow base e size v k xs) (ad:Addr) (m c:Nat) (news:List Value) (hx:a.eval x=.slice (some ad) m c) (hn:news.length=m*size)
  (hc:∀j u,news[j]?=some u->w.cell? (ad.add j)=some u) (h1c:∀u ∈ news,u.oneCell'=true) (b1:k+m<=maxLen) (b2:(k+m)*bytes<=140737488355328) (b3:base<=w.heap.size)
  (hK:∀v' w',w'.ownsRow base e size v' (k+m) (xs++news)->w.grownBy w' v.ownBlock->next (a.put o.dst v') w') :
  o.wpIn F n P a w next Q:=by
 obtain⟨v',w',hrun,r1,r2,r3⟩:=run_append_own (P:=P) w base t o.type e i z size bytes h1 h2 h3 h4 h5 h6 h7 v k xs hown ad m c news hn hc h1c b1 b2 b3
 unfold Oper.wpIn
 refine⟨?_,?_⟩
 .
  simp[Oper.about,hop,resolve,Target.leads,Sem.run_pure]
 rw[Oper.semAt_plain F _ _ (by rw[hop];intro c hc';cases hc')]
 simp[execOp,hop,resolve,invoke,builtin,hs,hx,hrun,Result.andThen]
 exact hK _ _ r1 r2
theorem Blk.new4(w:World)(o o' o'':Obj)(t:TypeId)(cs:Array Value):Blk ((((w.alloc o).alloc o').alloc o'').alloc (.cells cs t)) (w.heap.size+1+1+1) t cs:=by
 have:=Blk.new (((w.alloc o).alloc o').alloc o'') t cs
 rwa [World.size_alloc,World.size_alloc,World.size_alloc] at this
theorem Blk.new5(w:World)(o o' o'' o3:Obj)(t:TypeId)(cs:Array Value):Blk (((((w.alloc o).alloc o').alloc o'').alloc o3).alloc (.cells cs t)) (w.heap.size+1+1+1+1) t cs:=by
 have:=Blk.new ((((w.alloc o).alloc o').alloc o'').alloc o3) t cs
 rwa [World.size_alloc,World.size_alloc,World.size_alloc,World.size_alloc] at this
attribute [local go_sem] Oper.semAt_some
def cG5(d:Bj):Value:=.agg #[.int .i64 d.Index,.int .i64 d.Time,.int .i64 d.Client,.int .i64 d.Seq,.int .i64 d.Op.Kind,.int .i64 d.Op.A,.int .i64 d.Op.B,.int .i64 d.Op.C,.int .i64 d.Op.D]
def KpE(n₀ Bf:Nat)(W W':World):Prop:=Below n₀ W W'/\∀u,Boxed W Bf 2 u->Boxed W' Bf 2 u
theorem KpE.t{n₀ Bf:Nat}{A B C:World}(h:KpE n₀ Bf A B)(k:KpE n₀ Bf B C):KpE n₀ Bf A C:=⟨h.1.trans k.1,fun u hu=>k.2 u (h.2 u hu)⟩
theorem bV7(F:Fence)(n:Nat)(hf:F.fn 413)(hro:F.round=none)(hn:1<=n)(l Bb Bf:Nat)(w0:World)(frm c0 c1:Int)(a:Option Addr)(cap:Nat)(L:List Bj)(hc:L.length<=cap)(hm:cap<=maxLen)
  (HA:Hid (∀i,i<L.length->∃(d:Bj) (b off:Nat),L[i]?=some d/\a=some ⟨b,off,none⟩/\b<w0.heap.size/\∀j u,j<9->(Bj.ints d)[j]?=some u->w0.cell? ⟨b,off+i*9+j,none⟩=some (.int .i64 u)))
  (J Jx:List Bj->World->Prop) (W:World) (hJ:AbidesFrom W.heap.size J)
  (hY:∀pre x W1,J pre W1->pre.length<L.length->YieldAt F (n - 1) Tryz.prog l #[cG5 x] W1 fun e W'=>(e=.returned (.bool true)/\J (pre++[x]) W'/\KpE w0.heap.size Bf W1 W')\/(e=.returned (.bool false)/\Jx (pre++[x]) W'))
  (hW:Ext w0 W) (hb:Blk W Bb 78 #[.int .i64 c0,.int .i64 c1,.slice a L.length cap]) (hbf:Boxed W Bf 2 (.int .i64 frm)) (h0:J [] W) :
  CallsIn F n Tryz.prog 413 #[.func (.yield l) #[] #[],.pointer (some ⟨Bb,0,none⟩),.pointer (some ⟨Bf,0,none⟩)] W fun e W'=>(∃v,e=.returned v) /\
   ((∃ys,ys=L.filter (fun e=>decide (frm<=e.Index))/\J ys W')\/(∃pre,True/\Jx pre W')):=by
 refine callsIn_of_wp Tryz.func413 rfl hf ?_ hro
 simp only[Tryz.ntmps413,List.size_toArray,List.length_cons,List.length_nil,Nat.reduceAdd,Nat.reduceSub,Array.replicate_succ,Array.replicate_zero,List.push_toArray,List.append_toArray,List.nil_append,List.cons_append]
 have hcs:=hb.cell 2
 unfold maxLen at hm
 gi_wp2
 clear hcs
 gi_loopw [9] (fun i wr=>∃k:Nat,k<=L.length/\i=.int .i64 k/\J ((L.take k).filter (fun e=>decide (frm<=e.Index))) wr/\Ext w0 wr/\Boxed wr Bf 2 (.int .i64 frm)/\W.heap.size<=wr.heap.size) (fun i _=>L.length - (intOf i).toNat)
 case atStart=>exact⟨0,Nat.zero_le _,rfl,h0,hW,hbf,Nat.le_refl _⟩
 case round =>
  obtain⟨k,hk,rfl,hJs,he,hF,hz⟩:=hrel
  by_cases hlt:k<L.length
  .
   obtain⟨d,b,off,hd,rfl,hb1,hcell⟩:=HA.out k hlt
   have d0:=he.cell (hcell 0 _ dC rfl)
   have d1:=he.cell (hcell 1 _ dC rfl)
   have d2:=he.cell (hcell 2 _ dC rfl)
   have d3:=he.cell (hcell 3 _ dC rfl)
   have d4:=he.cell (hcell 4 _ dC rfl)
   have d5:=he.cell (hcell 5 _ dC rfl)
   have d6:=he.cell (hcell 6 _ dC rfl)
   have d7:=he.cell (hcell 7 _ dC rfl)
   have d8:=he.cell (hcell 8 _ dC rfl)
   simp only[Nat.add_zero] at d0
   clear hcell
   obtain⟨W1,hW1⟩:∃W1,W1=(wr.alloc (.cells #[.int .i64 d.Index,.int .i64 d.Time,.int .i64 d.Client,.int .i64 d.Seq,.int .i64 d.Op.Kind,.int .i64 d.Op.A,.int .i64 d.Op.B,.int .i64 d.Op.C,.int .i64 d.Op.D] 281)):=⟨_,rfl⟩
   have e1:Ext wr W1:=by rw[hW1];exact Ag
   have hF1:W1.cell? ⟨Bf,0,none⟩=some (.int .i64 frm):=e1.cell hF.cell
   have hJ1:=hJ _ _ W1 none hJs e1.grown (fun r e=>by cases e)
   have hlen:((L.take k).filter (fun e=>decide (frm<=e.Index))).length<L.length:=Nat.lt_of_le_of_lt (List.length_filter_le _ _) (by rw[List.length_take];omega)
   obtain⟨fn,tmps,assign,body,hy,hR⟩:=hY _ d W1 hJ1 hlen
   simp only[cG5] at hy
   have hcF:=hF.cell;have hlF:=hF.lt
   have HD:=Lib.hid hd
   clear hd
   subst hW1
   by_cases hfr:frm<=d.Index
   .
    have hnx:(L.take (k+1)).filter (fun e=>decide (frm<=e.Index))=(L.take k).filter (fun e=>decide (frm<=e.Index))++[d]:=by
     rw[TQ HD.out];simp[hfr]
    have HN:=Lib.hid hnx
    clear hnx
    gi_wp2
    refine hR.mono ?_
    rintro e W3 (⟨rfl,hJ3,hk3⟩|⟨rfl,hJx3⟩)
    .
     have hF3:=hk3.2 _ (show Boxed _ Bf _ _ from Blk.ext hF e1)
     have hz3:=hk3.1.size
     simp only[World.size_alloc] at hz3
     gi_wp2
     go_roundw
     case rel=>exact⟨k+1,by omega,by go_num,by rw[HN.out];exact hJ3,(show Ext w0 W3 from Below.trans (show Below w0.heap.size w0 _ from he.trans e1) hk3.1),hF3,by omega⟩
     case measure=>simp[intOf];omega
    gi_wp2
    refine bodyPost_ret (results_none rfl _ _ _) rfl ?_
    exact⟨⟨_,rfl⟩,.inr ⟨_,trivial,hJx3⟩⟩
   have hnx:(L.take (k+1)).filter (fun e=>decide (frm<=e.Index))=(L.take k).filter (fun e=>decide (frm<=e.Index)):=by
    rw[TQ HD.out];simp[hfr]
   have HN:=Lib.hid hnx
   clear hnx
   gi_wp2
   refine⟨fun _ h=>(by cases h),?_⟩
   gi_wp2
   go_roundw
   case rel=>exact⟨k+1,by omega,by go_num,by rw[HN.out];exact hJ1,he.trans e1,Blk.ext hF e1,by have:=e1.size;omega⟩
   case measure=>simp[intOf];omega
  obtain rfl:k=L.length:=by omega
  gi_wp2
  go_end0
  exact⟨⟨_,rfl⟩,.inl ⟨_,by rw[List.take_length],hJs⟩⟩
theorem aB1(F:Fence)(n:Nat)(hf:F.fn 365)(hro:F.round=none)(c0 c1:Int)(s:Value)(frm:Int)(w:World):CallsIn F n Tryz.prog 365 #[.agg #[.int .i64 c0,.int .i64 c1,s],.int .i64 frm] w fun e w'=>e=.returned (.func (.func 413) #[] #[.pointer (some ⟨w.heap.size,0,none⟩),.pointer (some ⟨w.heap.size+1,0,none⟩)])/\w'=(w.alloc (.cells #[.int .i64 c0,.int .i64 c1,s] 78)).alloc (.cells #[.int .i64 frm] 2):=by
 refine callsIn_of_wp Tryz.func365 rfl hf ?_ hro
 simp only[Tryz.ntmps365,List.size_toArray,List.length_cons,List.length_nil,Nat.reduceAdd,Nat.reduceSub,Array.replicate_succ,Array.replicate_zero,List.push_toArray,List.append_toArray,List.nil_append,List.cons_append]
 gi_wp2
 go_ret
 exact⟨rfl,rfl⟩
def IoE(w W0:World)(Bo Bf:Nat)(f:Int)(pre:List Bj)(W:World):Prop:=((∃v,Boxed W Bo 79 v/\W.ownsRow w.heap.size 284 4 v pre.length ((MG (pre.map JU)).map (.int .i64))/\True)/\Boxed W Bf 2 (.int .i64 f))/\Below w.heap.size W0 W
theorem IoE.own{w W0:World}{Bo Bf:Nat}{f:Int}{B:Nat}(h0:w.heap.size<=W0.heap.size)(hB:w.heap.size<=B):OwnFrom B (IoE w W0 Bo Bf f) :=
 OwnFrom.and (OwnFrom.and (Go.Own.from (holdsRow_own w.heap.size Bo 79 284 4 (fun pre:List Bj=>pre.length) (fun pre=>(MG (pre.map JU)).map (Value.int .i64)) (fun _ _=>True)) _) (Go.Own.from (boxed_own _ _ (fun _=>Value.int .i64 f)) _)) (ownFrom_below h0 hB)
theorem IoE.ext{w W0:World}{Bo Bf:Nat}{f:Int}{pre:List Bj}{W W':World}(h:IoE w W0 Bo Bf f pre W)(e:Ext W W')(h0:w.heap.size<=W0.heap.size):IoE w W0 Bo Bf f pre W':=by
 obtain⟨⟨⟨v,h1,h2,h3⟩,h4⟩,h5⟩:=h
 exact⟨⟨⟨v,Blk.ext h1 e,h2.kept e.grown (by cases hv:v.ownBlock <;> simp),h3⟩,Blk.ext h4 e⟩,h5.trans (Below.mono e (Nat.le_trans h0 h5.size))⟩
theorem bK4:(Tryz.prog.info? 284).map (fun i=>(i.zero,i.size,i.bytes))=some (some (.agg #[.int .i64 0,.int .i64 0,.int .i64 0,.int .i64 0]),4,32):=by kernel_rfl
theorem cL8(w:World)(Ay Ce:Int)(CV:Value)(Be:List Bj)(x:Int)(zX:Aw 9 w CV (wM Be))(e0:Be.length<=20)(e1:-1<=x/\x<=2000):Calls Tryz.prog 287 #[.agg #[.int .i64 Ay,.int .i64 Ce,CV],.int .i64 x] w (Ret w fun r w'=>Aw 4 w' r (MG ((bC0 (⟨Ay,Ce,Be⟩:iY) (x+1)).map JU))):=by
 obtain⟨a2,cap2,rfl,hcap2,hm2,ha2⟩:=zX.recs (f:=Bj.ints) (fun _=>rfl) dC
 have HA:=Lib.hid ha2
 clear ha2 zX
 obtain⟨i0,hi,hz0,hz1,hz2⟩:=info_parts bK4
 have hmx:Tryz.prog.follows .mixedOrders=true:=by kernel_rfl
 have hx1:IntKind.i64.wrap (x+1)=x+1:=by rw[IntKind.wrap_i64] <;> omega
 refine(callsIn_wide (n:=5)).1 ?_
 refine callsIn_of_wp_marks Tryz.func287 rfl trivial ?_ rfl
 simp only[Tryz.ntmps287,List.size_toArray,List.length_cons,List.length_nil,Nat.reduceAdd,Nat.reduceSub,Array.replicate_succ,Array.replicate_zero,List.push_toArray,List.append_toArray,List.nil_append,List.cons_append]
 gi_wp2_with (refine⟨trivial,?_⟩;gi_at_call 365;refine(aB1 Fence.wide 4 trivial rfl _ _ _ _ _).mono ?_;rintro e w' ⟨rfl,rfl⟩)
 obtain⟨W0,hW0⟩:∃W0,W0=((((w.alloc (.cells #[.int .i64 Ay,.int .i64 Ce,.slice a2 Be.length cap2] 78)).alloc (.cells #[] 284)).alloc (.cells #[.slice (some ⟨w.heap.size+1,0,none⟩) 0 0] 79)).alloc (.cells #[.int .i64 Ay,.int .i64 Ce,.slice a2 Be.length cap2] 78)).alloc (.cells #[.int .i64 (x+1)] 2):=⟨_,rfl⟩
 have hB0:Ext w W0:=by rw[hW0];exact Ag
 have hsz:W0.heap.size=w.heap.size+5:=by rw[hW0];simp
 have bO:Boxed W0 (w.heap.size+1+1) 79 (.slice (some ⟨w.heap.size+1,0,none⟩) 0 0):=by
  rw[hW0]
  exact((show Boxed _ (w.heap.size+1+1) _ _ from Blk.new3 _ _ _ _ _).alloc _).alloc _
 have bN:Blk W0 (w.heap.size+1) 284 #[]:=by
  rw[hW0]
  exact(((Blk.new2 _ _ _ _).alloc _).alloc _).alloc _
 have bK:Blk W0 (w.heap.size+1+1+1) 78 #[.int .i64 Ay,.int .i64 Ce,.slice a2 Be.length cap2]:=by
  rw[hW0]
  exact(Blk.new4 _ _ _ _ _ _).alloc _
 have bF:Boxed W0 (w.heap.size+1+1+1+1) 2 (.int .i64 (x+1)):=by
  rw[hW0]
  exact Blk.new5 _ _ _ _ _ _ _
 have r0:W0.ownsRow w.heap.size 284 4 (.slice (some ⟨w.heap.size+1,0,none⟩) 0 0) 0 []:=⟨rfl,.inr ⟨w.heap.size+1,0,#[],rfl,by omega,bN,Nat.le_refl _,by decide,rfl,rfl⟩⟩
 (try simp only[World.size_alloc])
 rw[<-hW0]
 clear hW0
 refine wpIn_rangeFunc_ownH (F:=Fence.wide) rfl oM (gf:=413) (lb:=#[.pointer (some ⟨w.heap.size+1+1+1,0,none⟩),.pointer (some ⟨w.heap.size+1+1+1+1,0,none⟩)]) rfl trivial (enters_of Tryz.func413 (by kernel_rfl) rfl)
  (encs:=fun d=>#[cG5 d]) (Kp:=KpE w.heap.size (w.heap.size+1+1+1+1)) (S:=fun ys=>ys=Be.filter (fun e=>decide (x+1<=e.Index))) (Sp:=fun _=>True) (N:=Be.length) (w0:=W0)
  (fun l J Jx W hW hJ _ hY h0=>bV7 Fence.wide _ trivial rfl oM l _ _ w (x+1) Ay Ce a2 cap2 Be hcap2 hm2 HA J Jx W hJ hY (hB0.trans hW) (bK.ext hW) (show Boxed W _ _ _ from Blk.ext bF hW) h0)
  KpE.t (fun W l o o' h1 h2 h3 h4=>⟨belowK_b oM W l o o' h1 h2 h3 h4,fun u hu=>hu.kept (grownBy_putObj' W l o') (fun e=>by cases e;rw[show W.heap[_]?=_ from hu] at h2;cases h2;cases h3)⟩) (Below.refl _ _) (fun _=>rfl)
  (IoE w W0 (w.heap.size+1+1) (w.heap.size+1+1+1+1) (x+1)) (fun _ _ _=>False)
  (IoE.own oM oM) (fun _ _ _ _ _ hs _ _=>hs)
  ⟨⟨⟨_,bO,r0,trivial⟩,bF⟩,Below.refl _ _⟩
  (fun y a' W=>∃Bx,W0.heap.size<=Bx/\Blk W Bx 281 #[.int .i64 y.Index,.int .i64 y.Time,.int .i64 y.Client,.int .i64 y.Seq,.int .i64 y.Op.Kind,.int .i64 y.Op.A,.int .i64 y.Op.B,.int .i64 y.Op.C,.int .i64 y.Op.D]/\a'={ tmps:=#[.agg #[.int .i64 Ay,.int .i64 Ce,.slice a2 Be.length cap2],.int .i64 x,.pointer (some ⟨w.heap.size,0,none⟩),undef,.slice none 0 0,.pointer (some ⟨w.heap.size+1+1,0,none⟩),.pointer (some ⟨Bx,0,none⟩),.slice (some ⟨w.heap.size+1,0,none⟩) 0 0,.agg #[.int .i64 Ay,.int .i64 Ce,.slice a2 Be.length cap2],.int .i64 x,.int .i64 (x+1),.func (.func 413) #[] #[.pointer (some ⟨w.heap.size+1+1+1,0,none⟩),.pointer (some ⟨w.heap.size+1+1+1+1,0,none⟩)],.agg #[.int .i64 y.Index,.int .i64 y.Time,.int .i64 y.Client,.int .i64 y.Seq,.int .i64 y.Op.Kind,.int .i64 y.Op.A,.int .i64 y.Op.B,.int .i64 y.Op.C,.int .i64 y.Op.D],undef,undef,undef,undef,undef,undef],defers:=[] })
  (fun y a' _ X Y row hs hg hr=>by obtain⟨Bx,h1,h2,h3⟩:=hs;exact⟨Bx,h1,h2.grown hg (fun e'=>by obtain⟨_,o,ho,hc⟩:=hr Bx e'.symm;rw[show X.heap[Bx]?=_ from h2] at ho;cases ho;cases hc),h3⟩)
  ?assign ?body ?done ?stop
 case assign =>
  rintro l pre y W K hi' hK
  simp only[cG5]
  gi_wp2
  have hsW:W0.heap.size<=W.heap.size:=hi'.2.size
  have e1:Ext W (W.alloc (.cells #[.int .i64 y.Index,.int .i64 y.Time,.int .i64 y.Client,.int .i64 y.Seq,.int .i64 y.Op.Kind,.int .i64 y.Op.A,.int .i64 y.Op.B,.int .i64 y.Op.C,.int .i64 y.Op.D] 281)):=by exact Ag
  exact hK _ _ (e1.others.from _) ⟨Below.mono e1 oM,fun u hu=>Blk.ext hu e1⟩ (hi'.ext e1 oM) ⟨W.heap.size,hsW,Blk.new _ _ _,rfl⟩
 case body =>
  rintro l pre y a' W hl⟨r,hr⟩ hi'⟨Bx,hBx,bX,rfl⟩ hlt
  obtain⟨⟨⟨v,hv,hrow,-⟩,bF1⟩,hB⟩:=hi'
  have hc:=hv.cell;have hcl:=hv.lt
  have cX:=bX.cell;have cXl:=bX.lt
  have hsW:=hB.size
  gi_wp2
  refine wpIn_region_any hmx ?_
  change wpAnyIn _ _ _ _ _ _ _ _ _ (World.drew _)
  refine wpAnyIn_ready (rs:=[0,1]) (by kernel_rfl) (by simp) ?_
  refine AllReadyIn.cons rfl (fun K hK=>?_) (AllReadyIn.cons rfl (fun K hK=>?_) AllReadyIn.nil)
  .
   go_simp
   refine hK _ _ ?_
   clear hK K
   refine wpAnyIn_ready (rs:=[1]) (by kernel_rfl) (by simp) ?_
   refine AllReadyIn.cons rfl (fun K hK=>?_) AllReadyIn.nil
   go_simp
   refine hK _ _ ?_
   clear hK K
   refine wpAnyIn_ready (rs:=[2]) (by kernel_rfl) (by simp) ?_
   refine AllReadyIn.cons rfl (fun K hK=>?_) AllReadyIn.nil
   go_simp
   refine⟨trivial,?_⟩
   gi_at_call 366
   refine(CallsIn.inRound l (callsIn_wide.2 (aK9 _ y))).mono ?_
   rintro e w1⟨rfl,hx9⟩
   have e9:Ext W w1:=(Ext.drew (Ext.refl _)).trans hx9
   have hv1:=(show Boxed w1 _ _ _ from Blk.ext hv e9)
   have hc1:=hv1.cell;have hcl1:=hv1.lt;have hz9:=e9.size
   have hrow1:w1.ownsRow w.heap.size 284 4 v pre.length _:=hrow.kept e9.grown (by cases hv:v.ownBlock <;> simp)
   refine hK _ _ ?_
   clear hK K
   refine wpAnyIn_ready (rs:=[3]) (by kernel_rfl) (by simp) ?_
   refine AllReadyIn.cons rfl (fun K hK=>?_) AllReadyIn.nil
   go_simp
   refine hK _ _ ?_
   clear hK K
   refine wpAnyIn_ready (rs:=[4]) (by kernel_rfl) (by simp) ?_
   refine AllReadyIn.cons rfl (fun K hK=>?_) AllReadyIn.nil
   rw[if_pos (by rfl)]
   refine JR _ _ _ 79 rfl w.heap.size 284 i0 _ 4 32 Tryz.underlying79 hi hz0 hz1 hz2 rfl dC v pre.length _ rfl (hrow1.kept (World.grownBy_alloc w1 _ none) (by cases hv:v.ownBlock <;> simp)) ⟨w1.heap.size,0,none⟩ 1 1 [.int .i64 (JU y).Client,.int .i64 (JU y).Seq,.int .i64 (JU y).Index,.int .i64 (JU y).Last] rfl rfl (fun j u hu=>by rw[IE,Nat.zero_add,(Blk.new w1 _ _).cell j];simpa using hu) (by simp[Value.oneCell']) (by unfold maxLen;omega) oM (by simp;omega) ?_
   intro v' w2 hown' hgrow
   obtain⟨g',cap',rfl⟩:=ownsRow_succ hown'
   obtain⟨hv2,hv3,hr3,hk3,hb3⟩:=hv1.appended dC hrow1 oM oM hown' hgrow
   have hc2:=hv2.cell;have hf2:=hv2.frozen
   refine hK _ _ ?_
   clear hK K
   refine wpAnyIn_ready (rs:=[5]) (by kernel_rfl) (by simp) ?_
   refine AllReadyIn.cons rfl (fun K hK=>?_) AllReadyIn.nil
   go_simp
   refine hK _ _ ?_
   clear hK K
   refine wpAnyIn_done (by kernel_rfl) ?_ _
   gi_wp2
   have hFF:∀u,Boxed W (w.heap.size+1+1+1+1) 2 u->Boxed (w2.setCell ⟨w.heap.size+1+1,0,none⟩ (.slice (some ⟨g',0,none⟩) (pre.length+1) cap')) (w.heap.size+1+1+1+1) 2 u:=fun u hu=>(((show Boxed w1 _ _ u from Blk.ext hu e9).alloc _).kept hgrow (Boxed.not_row (show Boxed w1 _ _ u from Blk.ext hu e9) dC hrow1)).other oM _
   have hBB:Below w.heap.size W (w2.setCell ⟨w.heap.size+1+1,0,none⟩ (.slice (some ⟨g',0,none⟩) (pre.length+1) cap')):=(Below.mono e9 oM).trans hb3
   exact⟨(e9.others.trans hk3).from _,⟨hBB,hFF⟩,⟨⟨⟨_,hv3,by rw[List.map_append,List.map_singleton,UP,List.map_append,List.length_append];exact hr3,trivial⟩,hFF _ bF1⟩,hB.trans hBB⟩⟩
  go_simp
  refine hK _ _ ?_
  clear hK K
  refine wpAnyIn_ready (rs:=[0,2]) (by kernel_rfl) (by simp) ?_
  refine AllReadyIn.cons rfl (fun K hK=>?_) (AllReadyIn.cons rfl (fun K hK=>?_) AllReadyIn.nil)
  .
   go_simp
   refine hK _ _ ?_
   clear hK K
   refine wpAnyIn_ready (rs:=[2]) (by kernel_rfl) (by simp) ?_
   refine AllReadyIn.cons rfl (fun K hK=>?_) AllReadyIn.nil
   go_simp
   refine⟨trivial,?_⟩
   gi_at_call 366
   refine(CallsIn.inRound l (callsIn_wide.2 (aK9 _ y))).mono ?_
   rintro e w1⟨rfl,hx9⟩
   have e9:Ext W w1:=(Ext.drew (Ext.refl _)).trans hx9
   have hv1:=(show Boxed w1 _ _ _ from Blk.ext hv e9)
   have hc1:=hv1.cell;have hcl1:=hv1.lt;have hz9:=e9.size
   have hrow1:w1.ownsRow w.heap.size 284 4 v pre.length _:=hrow.kept e9.grown (by cases hv:v.ownBlock <;> simp)
   refine hK _ _ ?_
   clear hK K
   refine wpAnyIn_ready (rs:=[3]) (by kernel_rfl) (by simp) ?_
   refine AllReadyIn.cons rfl (fun K hK=>?_) AllReadyIn.nil
   go_simp
   refine hK _ _ ?_
   clear hK K
   refine wpAnyIn_ready (rs:=[4]) (by kernel_rfl) (by simp) ?_
   refine AllReadyIn.cons rfl (fun K hK=>?_) AllReadyIn.nil
   rw[if_pos (by rfl)]
   refine JR _ _ _ 79 rfl w.heap.size 284 i0 _ 4 32 Tryz.underlying79 hi hz0 hz1 hz2 rfl dC v pre.length _ rfl (hrow1.kept (World.grownBy_alloc w1 _ none) (by cases hv:v.ownBlock <;> simp)) ⟨w1.heap.size,0,none⟩ 1 1 [.int .i64 (JU y).Client,.int .i64 (JU y).Seq,.int .i64 (JU y).Index,.int .i64 (JU y).Last] rfl rfl (fun j u hu=>by rw[IE,Nat.zero_add,(Blk.new w1 _ _).cell j];simpa using hu) (by simp[Value.oneCell']) (by unfold maxLen;omega) oM (by simp;omega) ?_
   intro v' w2 hown' hgrow
   obtain⟨g',cap',rfl⟩:=ownsRow_succ hown'
   obtain⟨hv2,hv3,hr3,hk3,hb3⟩:=hv1.appended dC hrow1 oM oM hown' hgrow
   have hc2:=hv2.cell;have hf2:=hv2.frozen
   refine hK _ _ ?_
   clear hK K
   refine wpAnyIn_ready (rs:=[5]) (by kernel_rfl) (by simp) ?_
   refine AllReadyIn.cons rfl (fun K hK=>?_) AllReadyIn.nil
   go_simp
   refine hK _ _ ?_
   clear hK K
   refine wpAnyIn_done (by kernel_rfl) ?_ _
   gi_wp2
   have hFF:∀u,Boxed W (w.heap.size+1+1+1+1) 2 u->Boxed (w2.setCell ⟨w.heap.size+1+1,0,none⟩ (.slice (some ⟨g',0,none⟩) (pre.length+1) cap')) (w.heap.size+1+1+1+1) 2 u:=fun u hu=>(((show Boxed w1 _ _ u from Blk.ext hu e9).alloc _).kept hgrow (Boxed.not_row (show Boxed w1 _ _ u from Blk.ext hu e9) dC hrow1)).other oM _
   have hBB:Below w.heap.size W (w2.setCell ⟨w.heap.size+1+1,0,none⟩ (.slice (some ⟨g',0,none⟩) (pre.length+1) cap')):=(Below.mono e9 oM).trans hb3
   exact⟨(e9.others.trans hk3).from _,⟨hBB,hFF⟩,⟨⟨⟨_,hv3,by rw[List.map_append,List.map_singleton,UP,List.map_append,List.length_append];exact hr3,trivial⟩,hFF _ bF1⟩,hB.trans hBB⟩⟩
  go_simp
  refine⟨trivial,?_⟩
  gi_at_call 366
  refine(CallsIn.inRound l (callsIn_wide.2 (aK9 _ y))).mono ?_
  rintro e w1⟨rfl,hx9⟩
  have e9:Ext W w1:=(Ext.drew (Ext.refl _)).trans hx9
  have hv1:=(show Boxed w1 _ _ _ from Blk.ext hv e9)
  have hc1:=hv1.cell;have hcl1:=hv1.lt;have hz9:=e9.size
  have hrow1:w1.ownsRow w.heap.size 284 4 v pre.length _:=hrow.kept e9.grown (by cases hv:v.ownBlock <;> simp)
  refine hK _ _ ?_
  clear hK K
  refine wpAnyIn_ready (rs:=[0,3]) (by kernel_rfl) (by simp) ?_
  refine AllReadyIn.cons rfl (fun K hK=>?_) (AllReadyIn.cons rfl (fun K hK=>?_) AllReadyIn.nil)
  .
   go_simp
   refine hK _ _ ?_
   clear hK K
   refine wpAnyIn_ready (rs:=[3]) (by kernel_rfl) (by simp) ?_
   refine AllReadyIn.cons rfl (fun K hK=>?_) AllReadyIn.nil
   go_simp
   refine hK _ _ ?_
   clear hK K
   refine wpAnyIn_ready (rs:=[4]) (by kernel_rfl) (by simp) ?_
   refine AllReadyIn.cons rfl (fun K hK=>?_) AllReadyIn.nil
   rw[if_pos (by rfl)]
   refine JR _ _ _ 79 rfl w.heap.size 284 i0 _ 4 32 Tryz.underlying79 hi hz0 hz1 hz2 rfl dC v pre.length _ rfl (hrow1.kept (World.grownBy_alloc w1 _ none) (by cases hv:v.ownBlock <;> simp)) ⟨w1.heap.size,0,none⟩ 1 1 [.int .i64 (JU y).Client,.int .i64 (JU y).Seq,.int .i64 (JU y).Index,.int .i64 (JU y).Last] rfl rfl (fun j u hu=>by rw[IE,Nat.zero_add,(Blk.new w1 _ _).cell j];simpa using hu) (by simp[Value.oneCell']) (by unfold maxLen;omega) oM (by simp;omega) ?_
   intro v' w2 hown' hgrow
   obtain⟨g',cap',rfl⟩:=ownsRow_succ hown'
   obtain⟨hv2,hv3,hr3,hk3,hb3⟩:=hv1.appended dC hrow1 oM oM hown' hgrow
   have hc2:=hv2.cell;have hf2:=hv2.frozen
   refine hK _ _ ?_
   clear hK K
   refine wpAnyIn_ready (rs:=[5]) (by kernel_rfl) (by simp) ?_
   refine AllReadyIn.cons rfl (fun K hK=>?_) AllReadyIn.nil
   go_simp
   refine hK _ _ ?_
   clear hK K
   refine wpAnyIn_done (by kernel_rfl) ?_ _
   gi_wp2
   have hFF:∀u,Boxed W (w.heap.size+1+1+1+1) 2 u->Boxed (w2.setCell ⟨w.heap.size+1+1,0,none⟩ (.slice (some ⟨g',0,none⟩) (pre.length+1) cap')) (w.heap.size+1+1+1+1) 2 u:=fun u hu=>(((show Boxed w1 _ _ u from Blk.ext hu e9).alloc _).kept hgrow (Boxed.not_row (show Boxed w1 _ _ u from Blk.ext hu e9) dC hrow1)).other oM _
   have hBB:Below w.heap.size W (w2.setCell ⟨w.heap.size+1+1,0,none⟩ (.slice (some ⟨g',0,none⟩) (pre.length+1) cap')):=(Below.mono e9 oM).trans hb3
   exact⟨(e9.others.trans hk3).from _,⟨hBB,hFF⟩,⟨⟨⟨_,hv3,by rw[List.map_append,List.map_singleton,UP,List.map_append,List.length_append];exact hr3,trivial⟩,hFF _ bF1⟩,hB.trans hBB⟩⟩
  go_simp
  refine hK _ _ ?_
  clear hK K
  refine wpAnyIn_ready (rs:=[0]) (by kernel_rfl) (by simp) ?_
  refine AllReadyIn.cons rfl (fun K hK=>?_) AllReadyIn.nil
  go_simp
  refine hK _ _ ?_
  clear hK K
  refine wpAnyIn_ready (rs:=[4]) (by kernel_rfl) (by simp) ?_
  refine AllReadyIn.cons rfl (fun K hK=>?_) AllReadyIn.nil
  rw[if_pos (by rfl)]
  refine JR _ _ _ 79 rfl w.heap.size 284 i0 _ 4 32 Tryz.underlying79 hi hz0 hz1 hz2 rfl dC v pre.length _ rfl (hrow1.kept (World.grownBy_alloc w1 _ none) (by cases hv:v.ownBlock <;> simp)) ⟨w1.heap.size,0,none⟩ 1 1 [.int .i64 (JU y).Client,.int .i64 (JU y).Seq,.int .i64 (JU y).Index,.int .i64 (JU y).Last] rfl rfl (fun j u hu=>by rw[IE,Nat.zero_add,(Blk.new w1 _ _).cell j];simpa using hu) (by simp[Value.oneCell']) (by unfold maxLen;omega) oM (by simp;omega) ?_
  intro v' w2 hown' hgrow
  obtain⟨g',cap',rfl⟩:=ownsRow_succ hown'
  obtain⟨hv2,hv3,hr3,hk3,hb3⟩:=hv1.appended dC hrow1 oM oM hown' hgrow
  have hc2:=hv2.cell;have hf2:=hv2.frozen
  refine hK _ _ ?_
  clear hK K
  refine wpAnyIn_ready (rs:=[5]) (by kernel_rfl) (by simp) ?_
  refine AllReadyIn.cons rfl (fun K hK=>?_) AllReadyIn.nil
  go_simp
  refine hK _ _ ?_
  clear hK K
  refine wpAnyIn_done (by kernel_rfl) ?_ _
  gi_wp2
  have hFF:∀u,Boxed W (w.heap.size+1+1+1+1) 2 u->Boxed (w2.setCell ⟨w.heap.size+1+1,0,none⟩ (.slice (some ⟨g',0,none⟩) (pre.length+1) cap')) (w.heap.size+1+1+1+1) 2 u:=fun u hu=>(((show Boxed w1 _ _ u from Blk.ext hu e9).alloc _).kept hgrow (Boxed.not_row (show Boxed w1 _ _ u from Blk.ext hu e9) dC hrow1)).other oM _
  have hBB:Below w.heap.size W (w2.setCell ⟨w.heap.size+1+1,0,none⟩ (.slice (some ⟨g',0,none⟩) (pre.length+1) cap')):=(Below.mono e9 oM).trans hb3
  exact⟨(e9.others.trans hk3).from _,⟨hBB,hFF⟩,⟨⟨⟨_,hv3,by rw[List.map_append,List.map_singleton,UP,List.map_append,List.length_append];exact hr3,trivial⟩,hFF _ bF1⟩,hB.trans hBB⟩⟩
 case done =>
  rintro D ys W hD rfl⟨⟨⟨v,hv,hrow,-⟩,bF1⟩,hB⟩ hK
  have hc:=hv.cell
  gi_wp2
  refine⟨by simp,.inl ⟨_,_,rfl,run_takeDeferred hK,?_⟩⟩
  refine⟨_,results_tmp rfl _ _ _,v,rfl,?_,?_⟩
  .
   exact(show Below w.heap.size w _ from hB0).trans (hB.trans (belowK_b (w:=w) (Nat.le_refl _) W D _ _ oM hK rfl rfl))
  exact Ba.ints (show Ba w.heap.size 284 4 _ v _ from⟨_,ownsRow_putObj hrow _ hK rfl⟩)
 case stop =>
  rintro D c pre W _ _ h _
  exact h.elim
theorem aR2(w:World)(v u:Value)(l m:List EN)(h:Aw 4 w v (MG l))(k:Aw 4 w u (MG m)):Calls Tryz.prog 286 #[v,u] w (Fz w (.bool (eqB l m))):=by
 obtain⟨a,c,rfl,hc,hm,ha⟩:=h.recs (f:=EN.ints) (fun _=>rfl) dC
 obtain⟨b,d,rfl,hd,hn,hb⟩:=k.recs (f:=EN.ints) (fun _=>rfl) dC
 have HA:=Lib.hid ha;have HB:=Lib.hid hb
 clear ha hb h k
 unfold maxLen at hm hn
 by_cases hl:l.length=m.length
 rotate_left
 .
  have hD:eqB l m=false:=Cd (fun e=>hl (by rw[e]))
  have hb1:((l.length:Int) == (m.length:Int))=false:=by simp;omega
  have hb2:decide ((l.length:Int)=(m.length:Int))=false:=by simp;omega
  have hb3:decide (l.length=m.length)=false:=by simpa using hl
  have HD:=Lib.hid hD
  clear hl hD
  go_enter Tryz.func286,Tryz.ntmps286
  go_wp2
  go_ret
  exact⟨by rw[HD.out];try rfl,by exact Ag⟩
 obtain⟨N,hN⟩:∃N,N=m.length:=⟨_,rfl⟩
 rw[<-hN] at hl HB hd ⊢
 rw[hl] at HA hc ⊢
 have HL:=Lib.hid hl;have HN:=Lib.hid hN
 clear hl hN
 go_enter Tryz.func286,Tryz.ntmps286
 go_wp2_with fail
 go_loopw [13] (fun i wr=>∃k:Nat,k<=N/\i=.int .i64 k/\Ext w wr/\Hid (l.take k=m.take k)) (fun i _=>N - (intOf i).toNat)
 case atStart=>exact⟨0,Nat.zero_le _,rfl,Ext.refl _,Lib.hid (by simp)⟩
 case round =>
  obtain⟨k,hk,rfl,he,ht⟩:=hrel
  by_cases hlt:k<N
  .
   obtain⟨x,b1,o1,hx,rfl,hb1,c1⟩:=HA.out k hlt
   obtain⟨y,b2,o2,hy,rfl,hb2,c2⟩:=HB.out k hlt
   obtain⟨x0,x1,x2,x3⟩:=x
   obtain⟨y0,y1,y2,y3⟩:=y
   have d0:=he.cell (c1 0 _ dC rfl);have e0:=he.cell (c2 0 _ dC rfl)
   have d1:=he.cell (c1 1 _ dC rfl);have e1:=he.cell (c2 1 _ dC rfl)
   have d2:=he.cell (c1 2 _ dC rfl);have e2:=he.cell (c2 2 _ dC rfl)
   have d3:=he.cell (c1 3 _ dC rfl);have e3:=he.cell (c2 3 _ dC rfl)
   simp only[Nat.add_zero] at d0 e0
   have HX:=Lib.hid hx;have HY:=Lib.hid hy
   clear hx hy c1 c2
   by_cases hne:x0=y0
   rotate_left
   .
    have b1:(x0 == y0)=false:=by simpa using hne
    have b2:decide (x0=y0)=false:=by simpa using hne
    have hD:eqB l m=false:=Cd (fun e=>by
     have h1:=HX.out;have h2:=HY.out
     rw[e,h2] at h1
     injection h1 with h1
     simp at h1
     omega)
    have HD:=Lib.hid hD
    clear hD hne
    go_wp2_with fail
    go_quiet (fail)
    go_wp2_with fail
    go_ret
    exact⟨by rw[HD.out];try rfl,by exact Ag⟩
   subst hne
   by_cases hne:x1=y1
   rotate_left
   .
    have b1:(x1 == y1)=false:=by simpa using hne
    have b2:decide (x1=y1)=false:=by simpa using hne
    have hD:eqB l m=false:=Cd (fun e=>by
     have h1:=HX.out;have h2:=HY.out
     rw[e,h2] at h1
     injection h1 with h1
     simp at h1
     omega)
    have HD:=Lib.hid hD
    clear hD hne
    go_wp2_with fail
    go_quiet (fail)
    go_wp2_with fail
    go_ret
    exact⟨by rw[HD.out];try rfl,by exact Ag⟩
   subst hne
   by_cases hne:x2=y2
   rotate_left
   .
    have b1:(x2 == y2)=false:=by simpa using hne
    have b2:decide (x2=y2)=false:=by simpa using hne
    have hD:eqB l m=false:=Cd (fun e=>by
     have h1:=HX.out;have h2:=HY.out
     rw[e,h2] at h1
     injection h1 with h1
     simp at h1
     omega)
    have HD:=Lib.hid hD
    clear hD hne
    go_wp2_with fail
    go_quiet (fail)
    go_wp2_with fail
    go_ret
    exact⟨by rw[HD.out];try rfl,by exact Ag⟩
   subst hne
   by_cases hne:x3=y3
   rotate_left
   .
    have b1:(x3 == y3)=false:=by simpa using hne
    have b2:decide (x3=y3)=false:=by simpa using hne
    have hD:eqB l m=false:=Cd (fun e=>by
     have h1:=HX.out;have h2:=HY.out
     rw[e,h2] at h1
     injection h1 with h1
     simp at h1
     omega)
    have HD:=Lib.hid hD
    clear hD hne
    go_wp2_with fail
    go_quiet (fail)
    go_wp2_with fail
    go_ret
    exact⟨by rw[HD.out];try rfl,by exact Ag⟩
   subst hne
   go_wp2_with fail
   go_quiet (fail)
   go_wp2_with fail
   go_roundw
   case rel=>exact⟨k+1,by omega,by go_num,by exact Ag,Lib.hid (GQ HX.out HY.out ht.out)⟩
   case measure=>simp[intOf];omega
  obtain rfl:k=N:=by omega
  have hD:eqB l m=true:=by
   have h1:=ht.out
   rw[List.take_of_length_le (by rw[HL.out];omega),List.take_of_length_le (by rw[<-HN.out];omega)] at h1
   exact CS h1
  have HD:=Lib.hid hD
  clear hD
  go_wp2_with fail
  go_ret
  exact⟨by rw[HD.out];try rfl,by exact Ag⟩
theorem cL9{p:Prop}(h:p:=by intro KQ hKQ;(repeat (first|go_big_quiet_skip|(go_big_quiet_want;first|(refine Hn _ _ _ ?_ rfl rfl (fun wq hq=>?_) ?_;rotate_left;(focus((try have y0:=hq.cell I0);(try have y1:=hq.cell I1);(try have y2:=hq.cell I2);(try have y3:=hq.cell I3);(try have y4:=hq.cell I4);(try have y5:=hq.cell I5);(try have y6:=hq.cell I6);(try have y7:=hq.cell I7);(try have y8:=hq.cell I8);(try have y9:=hq.cell I9);(try have y10:=hq.cell I10);(try have y11:=hq.cell I11);(try have y12:=hq.cell I12);(try have y13:=hq.cell I13);(try have y14:=hq.cell I14);(try have y15:=hq.cell I15);(try have y16:=hq.cell I16);(try have y17:=hq.cell I17);(try have y18:=hq.cell I18);go_simp;first|done|rfl));(try simp only[Ak,Act.put]);go_big_quiet_on)|(go_big_quiet_op;first|go_big_quiet_on|(refine⟨_,fun _ _=>rfl,?_⟩;go_big_quiet_on)|(apply Exists.intro;refine⟨fun wq hq=>?_,?_⟩;(focus(first|(fail)));go_big_quiet_on)))));exact wpQuiet_nil hKQ):p:=h
theorem cM0{p:Prop}(h:p:=by intro KQ hKQ;(repeat (first|go_big_quiet_skip|(go_big_quiet_want;first|(refine Hn _ _ _ ?_ rfl rfl (fun wq hq=>?_) ?_;rotate_left;(focus((try have y0:=hq.cell I0);(try have y1:=hq.cell I1);(try have y2:=hq.cell I2);(try have y3:=hq.cell I3);(try have y4:=hq.cell I4);(try have y5:=hq.cell I5);(try have y6:=hq.cell I6);(try have y7:=hq.cell I7);(try have y8:=hq.cell I8);(try have y9:=hq.cell I9);(try have y10:=hq.cell I10);(try have y11:=hq.cell I11);(try have y12:=hq.cell I12);(try have y13:=hq.cell I13);(try have y14:=hq.cell I14);(try have y15:=hq.cell I15);(try have y16:=hq.cell I16);(try have y17:=hq.cell I17);(try have y18:=hq.cell I18);go_simp;first|done|rfl));(try simp only[Ak,Act.put]);go_big_quiet_on)|(go_big_quiet_op;first|go_big_quiet_on|(refine⟨_,fun _ _=>rfl,?_⟩;go_big_quiet_on)|(apply Exists.intro;refine⟨fun wq hq=>?_,?_⟩;(focus(first|(fail)|(go_at_call 283;exact Tu hq (by have c:=PM wq _ _ _ Rz (gs.ext (Ext.trans Ag hq)) (LU.ext (hE4.trans hq));rw[show eqB ((wL lM Ki).getD lM) Rz=_ from p6] at c;exact c))));go_big_quiet_on)))));exact wpQuiet_nil hKQ):p:=h
theorem bV8{p:Prop}(h:p:=by intro KQ hKQ;(repeat (first|go_big_quiet_skip|(go_big_quiet_want;first|(refine Hn _ _ _ ?_ rfl rfl (fun wq hq=>?_) ?_;rotate_left;(focus((try have y0:=hq.cell I0);(try have y1:=hq.cell I1);(try have y2:=hq.cell I2);(try have y3:=hq.cell I3);(try have y4:=hq.cell I4);(try have y5:=hq.cell I5);(try have y6:=hq.cell I6);(try have y7:=hq.cell I7);(try have y8:=hq.cell I8);(try have y9:=hq.cell I9);(try have y10:=hq.cell I10);(try have y11:=hq.cell I11);(try have y12:=hq.cell I12);(try have y13:=hq.cell I13);(try have y14:=hq.cell I14);(try have y15:=hq.cell I15);(try have y16:=hq.cell I16);(try have y17:=hq.cell I17);(try have y18:=hq.cell I18);go_simp;first|done|rfl));(try simp only[Ak,Act.put]);go_big_quiet_on)|(go_big_quiet_op;first|go_big_quiet_on|(refine⟨_,fun _ _=>rfl,?_⟩;go_big_quiet_on)|(apply Exists.intro;refine⟨fun wq hq=>?_,?_⟩;(focus(first|(fail)|(go_at_call 283;exact Tu hq (by have c:=PM wq _ _ _ Rz (gs.ext (Ext.trans Ag hq)) (LU.ext (hE4.trans hq));rw[show eqB ((wL lM Ki).getD lM) Rz=_ from p6] at c;exact c))|(go_at_call 284;exact Tu hq (aP9 wq Ck Dt _ Ki (FI.ext (hE4.trans hq)) HBP.out))|(go_at_call 176;exact Ma hq (by have c:=Og wq Fp Ck (LO (⟨Ck,Dt,Ki⟩:iY));rw[p7] at c;exact c))));go_big_quiet_on)))));exact wpQuiet_nil hKQ):p:=h
theorem cG6(w:World)(AU:Value)(Bl:List (List Int))(DL:Value)(Cq:List AG)(CV:Value)(Be:List (List Int))(GH:Value)(Fc:List AG)(Em:Int)(Ga:Int)(Ih:Int)(PQ:Value)(lM:List Bz)(Py:Int)(Oh:Int)(Ee:Int)(OB:Value)(Oj:List Bz)(Pw:Bool)(Ck:Int)(Dt:Int)(OC:Value)(Ki:List Bj)(OE:Value)(Rz:List Bz)(Fp:Int)(OF:Value)(aO:List EN)(AW:Ll 0 w AU (Bd Bl))(CH:Ll 1 w DL (Dq Cq))(zX:Ll 0 w CV (Bd Be))(DN:Ll 1 w GH (Dq Fc))(KV:Aw 3 w PQ (Xh lM))(JK:Aw 3 w OB (Xh Oj))(FI:Aw 9 w OC (wM Ki))(LU:Aw 3 w OE (Xh Rz))(OG:Aw 4 w OF (MG aO)):Calls Tryz.prog 182 #[.agg #[AU,DL,CV,GH,.int .i64 Em,.int .i64 Ga,.int .i64 Ih,PQ,.int .i64 Py,.int .i64 Oh,.int .i64 Ee,OB,.bool Pw,.int .i64 Ck,.int .i64 Dt,OC,OE,.int .i64 Fp,OF]] w (Fz w (.bool (DX (⟨⟨⟨Bl,Cq⟩,⟨Be,Fc⟩⟩,⟨Em,Ga,Ih,lM⟩,⟨Py,Oh,Ee,Oj⟩,Pw,⟨Ck,Dt,Ki⟩,Rz,Fp,aO⟩:Bh)))):=by
 obtain⟨a0,n0,k0,rfl⟩:=AW.shape
 obtain⟨a1,n1,k1,rfl⟩:=CH.shape
 obtain⟨a2,n2,k2,rfl⟩:=zX.shape
 obtain⟨a3,n3,k3,rfl⟩:=DN.shape
 obtain⟨a7,n7,k7,rfl⟩:=KV.shape
 obtain⟨a11,n11,k11,rfl⟩:=JK.shape
 obtain⟨a15,n15,k15,rfl⟩:=FI.shape
 obtain⟨a16,n16,k16,rfl⟩:=LU.shape
 obtain⟨a18,n18,k18,rfl⟩:=OG.shape
 obtain⟨W0,hW0⟩:∃W0,W0=w.alloc (.cells #[.slice a0 n0 k0,.slice a1 n1 k1,.slice a2 n2 k2,.slice a3 n3 k3,.int .i64 Em,.int .i64 Ga,.int .i64 Ih,.slice a7 n7 k7,.int .i64 Py,.int .i64 Oh,.int .i64 Ee,.slice a11 n11 k11,.bool Pw,.int .i64 Ck,.int .i64 Dt,.slice a15 n15 k15,.slice a16 n16 k16,.int .i64 Fp,.slice a18 n18 k18] 81):=⟨_,rfl⟩
 have hEw:Ext w W0:=by rw[hW0];exact(Ext.refl _).alloc _
 have KX:Blk W0 w.heap.size 81 #[.slice a0 n0 k0,.slice a1 n1 k1,.slice a2 n2 k2,.slice a3 n3 k3,.int .i64 Em,.int .i64 Ga,.int .i64 Ih,.slice a7 n7 k7,.int .i64 Py,.int .i64 Oh,.int .i64 Ee,.slice a11 n11 k11,.bool Pw,.int .i64 Ck,.int .i64 Dt,.slice a15 n15 k15,.slice a16 n16 k16,.int .i64 Fp,.slice a18 n18 k18]:=by rw[hW0];exact Blk.new _ _ _
 have hLX:=KX.lt
 have I0:=KX.cell 0;have I1:=KX.cell 1;have I2:=KX.cell 2;have I3:=KX.cell 3;have I4:=KX.cell 4;have I5:=KX.cell 5;have I6:=KX.cell 6;have I7:=KX.cell 7;have I8:=KX.cell 8;have I9:=KX.cell 9;have I10:=KX.cell 10;have I11:=KX.cell 11;have I12:=KX.cell 12;have I13:=KX.cell 13;have I14:=KX.cell 14;have I15:=KX.cell 15;have I16:=KX.cell 16;have I17:=KX.cell 17;have I18:=KX.cell 18
 simp only[List.getElem?_toArray,List.getElem?_cons_zero,List.getElem?_cons_succ] at I0 I1 I2 I3 I4 I5 I6 I7 I8 I9 I10 I11 I12 I13 I14 I15 I16 I17 I18
 have hR:W0.rangeAt w.heap.size 0 ([.slice a0 n0 k0,.slice a1 n1 k1,.slice a2 n2 k2,.slice a3 n3 k3,.int .i64 Em,.int .i64 Ga,.int .i64 Ih,.slice a7 n7 k7,.int .i64 Py,.int .i64 Oh,.int .i64 Ee,.slice a11 n11 k11,.bool Pw,.int .i64 Ck,.int .i64 Dt,.slice a15 n15 k15,.slice a16 n16 k16,.int .i64 Fp,.slice a18 n18 k18]:List Value):=Bk.range (A:=[]) (cs:=([.slice a0 n0 k0,.slice a1 n1 k1,.slice a2 n2 k2,.slice a3 n3 k3,.int .i64 Em,.int .i64 Ga,.int .i64 Ih,.slice a7 n7 k7,.int .i64 Py,.int .i64 Oh,.int .i64 Ee,.slice a11 n11 k11,.bool Pw,.int .i64 Ck,.int .i64 Dt,.slice a15 n15 k15,.slice a16 n16 k16,.int .i64 Fp,.slice a18 n18 k18]:List Value)) (C:=[]) (Bk.cast (show Bk W0 w.heap.size 81 ([.slice a0 n0 k0,.slice a1 n1 k1,.slice a2 n2 k2,.slice a3 n3 k3,.int .i64 Em,.int .i64 Ga,.int .i64 Ih,.slice a7 n7 k7,.int .i64 Py,.int .i64 Oh,.int .i64 Ee,.slice a11 n11 k11,.bool Pw,.int .i64 Ck,.int .i64 Dt,.slice a15 n15 k15,.slice a16 n16 k16,.int .i64 Fp,.slice a18 n18 k18]:List Value) from KX) (by simp)) rfl
 go_enter Tryz.func182,Tryz.ntmps182
 go_upto_region 1 with(fail)
 rw[<-hW0]
 clear hW0 KX
 cases p1:PE (⟨⟨Bl,Cq⟩,⟨Be,Fc⟩⟩:MV)
 .
  as_aux_lemma =>
   go_wp2_with (first|(go_at_call 279;refine(QY _ _ Bl _ Cq _ Be _ Fc (AW.ext Ag) (CH.ext Ag) (zX.ext Ag) (DN.ext Ag)).mono ?_;rintro e9 w1 ⟨rfl,hx1⟩;rw[p1];have I0:=hx1.cell I0;have I1:=hx1.cell I1;have I2:=hx1.cell I2;have I3:=hx1.cell I3;have I4:=hx1.cell I4;have I5:=hx1.cell I5;have I6:=hx1.cell I6;have I7:=hx1.cell I7;have I8:=hx1.cell I8;have I9:=hx1.cell I9;have I10:=hx1.cell I10;have I11:=hx1.cell I11;have I12:=hx1.cell I12;have I13:=hx1.cell I13;have I14:=hx1.cell I14;have I15:=hx1.cell I15;have I16:=hx1.cell I16;have I17:=hx1.cell I17;have I18:=hx1.cell I18;have hz1:=hx1.size))
   go_ret
   exact⟨by rw[show DX (⟨⟨⟨Bl,Cq⟩,⟨Be,Fc⟩⟩,⟨Em,Ga,Ih,lM⟩,⟨Py,Oh,Ee,Oj⟩,Pw,⟨Ck,Dt,Ki⟩,Rz,Fp,aO⟩:Bh)=false from by simp[DX,IV,p1]];try rfl,by exact Ag⟩
 cases p2:AK (⟨Em,Ga,Ih,lM⟩:wG)
 .
  as_aux_lemma =>
   go_wp2_with (first|(go_at_call 279;refine(QY _ _ Bl _ Cq _ Be _ Fc (AW.ext Ag) (CH.ext Ag) (zX.ext Ag) (DN.ext Ag)).mono ?_;rintro e9 w1 ⟨rfl,hx1⟩;rw[p1];have I0:=hx1.cell I0;have I1:=hx1.cell I1;have I2:=hx1.cell I2;have I3:=hx1.cell I3;have I4:=hx1.cell I4;have I5:=hx1.cell I5;have I6:=hx1.cell I6;have I7:=hx1.cell I7;have I8:=hx1.cell I8;have I9:=hx1.cell I9;have I10:=hx1.cell I10;have I11:=hx1.cell I11;have I12:=hx1.cell I12;have I13:=hx1.cell I13;have I14:=hx1.cell I14;have I15:=hx1.cell I15;have I16:=hx1.cell I16;have I17:=hx1.cell I17;have I18:=hx1.cell I18;have hz1:=hx1.size)|(go_at_call 280;refine(LQ _ Em Ga Ih _ lM (KV.ext Ag)).mono ?_;rintro e9 w2 ⟨rfl,hx2⟩;rw[p2];have I0:=hx2.cell I0;have I1:=hx2.cell I1;have I2:=hx2.cell I2;have I3:=hx2.cell I3;have I4:=hx2.cell I4;have I5:=hx2.cell I5;have I6:=hx2.cell I6;have I7:=hx2.cell I7;have I8:=hx2.cell I8;have I9:=hx2.cell I9;have I10:=hx2.cell I10;have I11:=hx2.cell I11;have I12:=hx2.cell I12;have I13:=hx2.cell I13;have I14:=hx2.cell I14;have I15:=hx2.cell I15;have I16:=hx2.cell I16;have I17:=hx2.cell I17;have I18:=hx2.cell I18;have hz2:=hx2.size))
   go_ret
   exact⟨by rw[show DX (⟨⟨⟨Bl,Cq⟩,⟨Be,Fc⟩⟩,⟨Em,Ga,Ih,lM⟩,⟨Py,Oh,Ee,Oj⟩,Pw,⟨Ck,Dt,Ki⟩,Rz,Fp,aO⟩:Bh)=false from by simp[DX,IV,p2]];try rfl,by exact Ag⟩
 cases p3:AH (⟨Ck,Dt,Ki⟩:iY)
 .
  as_aux_lemma =>
   go_wp2_with (first|(go_at_call 279;refine(QY _ _ Bl _ Cq _ Be _ Fc (AW.ext Ag) (CH.ext Ag) (zX.ext Ag) (DN.ext Ag)).mono ?_;rintro e9 w1 ⟨rfl,hx1⟩;rw[p1];have I0:=hx1.cell I0;have I1:=hx1.cell I1;have I2:=hx1.cell I2;have I3:=hx1.cell I3;have I4:=hx1.cell I4;have I5:=hx1.cell I5;have I6:=hx1.cell I6;have I7:=hx1.cell I7;have I8:=hx1.cell I8;have I9:=hx1.cell I9;have I10:=hx1.cell I10;have I11:=hx1.cell I11;have I12:=hx1.cell I12;have I13:=hx1.cell I13;have I14:=hx1.cell I14;have I15:=hx1.cell I15;have I16:=hx1.cell I16;have I17:=hx1.cell I17;have I18:=hx1.cell I18;have hz1:=hx1.size)|(go_at_call 280;refine(LQ _ Em Ga Ih _ lM (KV.ext Ag)).mono ?_;rintro e9 w2 ⟨rfl,hx2⟩;rw[p2];have I0:=hx2.cell I0;have I1:=hx2.cell I1;have I2:=hx2.cell I2;have I3:=hx2.cell I3;have I4:=hx2.cell I4;have I5:=hx2.cell I5;have I6:=hx2.cell I6;have I7:=hx2.cell I7;have I8:=hx2.cell I8;have I9:=hx2.cell I9;have I10:=hx2.cell I10;have I11:=hx2.cell I11;have I12:=hx2.cell I12;have I13:=hx2.cell I13;have I14:=hx2.cell I14;have I15:=hx2.cell I15;have I16:=hx2.cell I16;have I17:=hx2.cell I17;have I18:=hx2.cell I18;have hz2:=hx2.size)|(go_at_call 281;refine(TM _ Ck Dt _ Ki (FI.ext Ag)).mono ?_;rintro e9 w3 ⟨rfl,hx3⟩;rw[p3];have I0:=hx3.cell I0;have I1:=hx3.cell I1;have I2:=hx3.cell I2;have I3:=hx3.cell I3;have I4:=hx3.cell I4;have I5:=hx3.cell I5;have I6:=hx3.cell I6;have I7:=hx3.cell I7;have I8:=hx3.cell I8;have I9:=hx3.cell I9;have I10:=hx3.cell I10;have I11:=hx3.cell I11;have I12:=hx3.cell I12;have I13:=hx3.cell I13;have I14:=hx3.cell I14;have I15:=hx3.cell I15;have I16:=hx3.cell I16;have I17:=hx3.cell I17;have I18:=hx3.cell I18;have hz3:=hx3.size))
   go_ret
   exact⟨by rw[show DX (⟨⟨⟨Bl,Cq⟩,⟨Be,Fc⟩⟩,⟨Em,Ga,Ih,lM⟩,⟨Py,Oh,Ee,Oj⟩,Pw,⟨Ck,Dt,Ki⟩,Rz,Fp,aO⟩:Bh)=false from by simp[DX,IV,p3]];try rfl,by exact Ag⟩
 by_cases q4:Ck=Ga
 rotate_left
 .
  have b4:(Ck != Ga)=true:=by simpa using q4
  have H4:=Lib.hid q4
  clear q4
  as_aux_lemma =>
   go_wp2_with (first|(go_at_call 279;refine(QY _ _ Bl _ Cq _ Be _ Fc (AW.ext Ag) (CH.ext Ag) (zX.ext Ag) (DN.ext Ag)).mono ?_;rintro e9 w1 ⟨rfl,hx1⟩;rw[p1];have I0:=hx1.cell I0;have I1:=hx1.cell I1;have I2:=hx1.cell I2;have I3:=hx1.cell I3;have I4:=hx1.cell I4;have I5:=hx1.cell I5;have I6:=hx1.cell I6;have I7:=hx1.cell I7;have I8:=hx1.cell I8;have I9:=hx1.cell I9;have I10:=hx1.cell I10;have I11:=hx1.cell I11;have I12:=hx1.cell I12;have I13:=hx1.cell I13;have I14:=hx1.cell I14;have I15:=hx1.cell I15;have I16:=hx1.cell I16;have I17:=hx1.cell I17;have I18:=hx1.cell I18;have hz1:=hx1.size)|(go_at_call 280;refine(LQ _ Em Ga Ih _ lM (KV.ext Ag)).mono ?_;rintro e9 w2 ⟨rfl,hx2⟩;rw[p2];have I0:=hx2.cell I0;have I1:=hx2.cell I1;have I2:=hx2.cell I2;have I3:=hx2.cell I3;have I4:=hx2.cell I4;have I5:=hx2.cell I5;have I6:=hx2.cell I6;have I7:=hx2.cell I7;have I8:=hx2.cell I8;have I9:=hx2.cell I9;have I10:=hx2.cell I10;have I11:=hx2.cell I11;have I12:=hx2.cell I12;have I13:=hx2.cell I13;have I14:=hx2.cell I14;have I15:=hx2.cell I15;have I16:=hx2.cell I16;have I17:=hx2.cell I17;have I18:=hx2.cell I18;have hz2:=hx2.size)|(go_at_call 281;refine(TM _ Ck Dt _ Ki (FI.ext Ag)).mono ?_;rintro e9 w3 ⟨rfl,hx3⟩;rw[p3];have I0:=hx3.cell I0;have I1:=hx3.cell I1;have I2:=hx3.cell I2;have I3:=hx3.cell I3;have I4:=hx3.cell I4;have I5:=hx3.cell I5;have I6:=hx3.cell I6;have I7:=hx3.cell I7;have I8:=hx3.cell I8;have I9:=hx3.cell I9;have I10:=hx3.cell I10;have I11:=hx3.cell I11;have I12:=hx3.cell I12;have I13:=hx3.cell I13;have I14:=hx3.cell I14;have I15:=hx3.cell I15;have I16:=hx3.cell I16;have I17:=hx3.cell I17;have I18:=hx3.cell I18;have hz3:=hx3.size))
   go_ret
   exact⟨by rw[show DX (⟨⟨⟨Bl,Cq⟩,⟨Be,Fc⟩⟩,⟨Em,Ga,Ih,lM⟩,⟨Py,Oh,Ee,Oj⟩,Pw,⟨Ck,Dt,Ki⟩,Rz,Fp,aO⟩:Bh)=false from by simp[DX,IV,H4.out]];try rfl,by exact Ag⟩
 have b4:(Ck != Ga)=false:=by simpa using q4
 have H4:=Lib.hid q4
 clear q4
 by_cases q5:Dt=Ih
 rotate_left
 .
  have b5:(Dt != Ih)=true:=by simpa using q5
  have H5:=Lib.hid q5
  clear q5
  as_aux_lemma =>
   go_wp2_with (first|(go_at_call 279;refine(QY _ _ Bl _ Cq _ Be _ Fc (AW.ext Ag) (CH.ext Ag) (zX.ext Ag) (DN.ext Ag)).mono ?_;rintro e9 w1 ⟨rfl,hx1⟩;rw[p1];have I0:=hx1.cell I0;have I1:=hx1.cell I1;have I2:=hx1.cell I2;have I3:=hx1.cell I3;have I4:=hx1.cell I4;have I5:=hx1.cell I5;have I6:=hx1.cell I6;have I7:=hx1.cell I7;have I8:=hx1.cell I8;have I9:=hx1.cell I9;have I10:=hx1.cell I10;have I11:=hx1.cell I11;have I12:=hx1.cell I12;have I13:=hx1.cell I13;have I14:=hx1.cell I14;have I15:=hx1.cell I15;have I16:=hx1.cell I16;have I17:=hx1.cell I17;have I18:=hx1.cell I18;have hz1:=hx1.size)|(go_at_call 280;refine(LQ _ Em Ga Ih _ lM (KV.ext Ag)).mono ?_;rintro e9 w2 ⟨rfl,hx2⟩;rw[p2];have I0:=hx2.cell I0;have I1:=hx2.cell I1;have I2:=hx2.cell I2;have I3:=hx2.cell I3;have I4:=hx2.cell I4;have I5:=hx2.cell I5;have I6:=hx2.cell I6;have I7:=hx2.cell I7;have I8:=hx2.cell I8;have I9:=hx2.cell I9;have I10:=hx2.cell I10;have I11:=hx2.cell I11;have I12:=hx2.cell I12;have I13:=hx2.cell I13;have I14:=hx2.cell I14;have I15:=hx2.cell I15;have I16:=hx2.cell I16;have I17:=hx2.cell I17;have I18:=hx2.cell I18;have hz2:=hx2.size)|(go_at_call 281;refine(TM _ Ck Dt _ Ki (FI.ext Ag)).mono ?_;rintro e9 w3 ⟨rfl,hx3⟩;rw[p3];have I0:=hx3.cell I0;have I1:=hx3.cell I1;have I2:=hx3.cell I2;have I3:=hx3.cell I3;have I4:=hx3.cell I4;have I5:=hx3.cell I5;have I6:=hx3.cell I6;have I7:=hx3.cell I7;have I8:=hx3.cell I8;have I9:=hx3.cell I9;have I10:=hx3.cell I10;have I11:=hx3.cell I11;have I12:=hx3.cell I12;have I13:=hx3.cell I13;have I14:=hx3.cell I14;have I15:=hx3.cell I15;have I16:=hx3.cell I16;have I17:=hx3.cell I17;have I18:=hx3.cell I18;have hz3:=hx3.size))
   go_ret
   exact⟨by rw[show DX (⟨⟨⟨Bl,Cq⟩,⟨Be,Fc⟩⟩,⟨Em,Ga,Ih,lM⟩,⟨Py,Oh,Ee,Oj⟩,Pw,⟨Ck,Dt,Ki⟩,Rz,Fp,aO⟩:Bh)=false from by simp[DX,IV,H5.out]];try rfl,by exact Ag⟩
 have b5:(Dt != Ih)=false:=by simpa using q5
 have H5:=Lib.hid q5
 clear q5
 have hpre:IV (⟨⟨⟨Bl,Cq⟩,⟨Be,Fc⟩⟩,⟨Em,Ga,Ih,lM⟩,⟨Py,Oh,Ee,Oj⟩,Pw,⟨Ck,Dt,Ki⟩,Rz,Fp,aO⟩:Bh)=true:=by
  simp only[IV]
  rw[p1,p2,p3,show decide (Ck=Ga)=true by simpa using H4.out,show decide (Dt=Ih)=true by simpa using H5.out]
  rfl
 have HPRE:=Lib.hid hpre
 have HBP:Hid (PG (⟨Ck,Dt,Ki⟩:iY)):=Lib.hid (QV p3)
 have HSN:Hid (GT lM=true):=Lib.hid (WL hpre).2.2.2.1
 clear hpre
 go_upto_region 4 with(first|(go_at_call 279;refine(QY _ _ Bl _ Cq _ Be _ Fc (AW.ext Ag) (CH.ext Ag) (zX.ext Ag) (DN.ext Ag)).mono ?_;rintro e9 w1 ⟨rfl,hx1⟩;rw[p1];have I0:=hx1.cell I0;have I1:=hx1.cell I1;have I2:=hx1.cell I2;have I3:=hx1.cell I3;have I4:=hx1.cell I4;have I5:=hx1.cell I5;have I6:=hx1.cell I6;have I7:=hx1.cell I7;have I8:=hx1.cell I8;have I9:=hx1.cell I9;have I10:=hx1.cell I10;have I11:=hx1.cell I11;have I12:=hx1.cell I12;have I13:=hx1.cell I13;have I14:=hx1.cell I14;have I15:=hx1.cell I15;have I16:=hx1.cell I16;have I17:=hx1.cell I17;have I18:=hx1.cell I18;have hz1:=hx1.size)|(go_at_call 280;refine(LQ _ Em Ga Ih _ lM (KV.ext Ag)).mono ?_;rintro e9 w2 ⟨rfl,hx2⟩;rw[p2];have I0:=hx2.cell I0;have I1:=hx2.cell I1;have I2:=hx2.cell I2;have I3:=hx2.cell I3;have I4:=hx2.cell I4;have I5:=hx2.cell I5;have I6:=hx2.cell I6;have I7:=hx2.cell I7;have I8:=hx2.cell I8;have I9:=hx2.cell I9;have I10:=hx2.cell I10;have I11:=hx2.cell I11;have I12:=hx2.cell I12;have I13:=hx2.cell I13;have I14:=hx2.cell I14;have I15:=hx2.cell I15;have I16:=hx2.cell I16;have I17:=hx2.cell I17;have I18:=hx2.cell I18;have hz2:=hx2.size)|(go_at_call 281;refine(TM _ Ck Dt _ Ki (FI.ext Ag)).mono ?_;rintro e9 w3 ⟨rfl,hx3⟩;rw[p3];have I0:=hx3.cell I0;have I1:=hx3.cell I1;have I2:=hx3.cell I2;have I3:=hx3.cell I3;have I4:=hx3.cell I4;have I5:=hx3.cell I5;have I6:=hx3.cell I6;have I7:=hx3.cell I7;have I8:=hx3.cell I8;have I9:=hx3.cell I9;have I10:=hx3.cell I10;have I11:=hx3.cell I11;have I12:=hx3.cell I12;have I13:=hx3.cell I13;have I14:=hx3.cell I14;have I15:=hx3.cell I15;have I16:=hx3.cell I16;have I17:=hx3.cell I17;have I18:=hx3.cell I18;have hz3:=hx3.size)|(go_at_call 282;refine(aB0 _ _ _ lM Ki (KV.ext Ag) (FI.ext Ag) HSN.out (by have:=HBP.out.len;simp only at this;omega)).mono ?_;rintro e9 w4 ⟨_,rfl,hx4,xs,rfl,gs0⟩;have I0:=hx4.cell I0;have I1:=hx4.cell I1;have I2:=hx4.cell I2;have I3:=hx4.cell I3;have I4:=hx4.cell I4;have I5:=hx4.cell I5;have I6:=hx4.cell I6;have I7:=hx4.cell I7;have I8:=hx4.cell I8;have I9:=hx4.cell I9;have I10:=hx4.cell I10;have I11:=hx4.cell I11;have I12:=hx4.cell I12;have I13:=hx4.cell I13;have I14:=hx4.cell I14;have I15:=hx4.cell I15;have I16:=hx4.cell I16;have I17:=hx4.cell I17;have I18:=hx4.cell I18;have hz4:=hx4.size;have gs:=gs0;obtain⟨xa,xn,xk,rfl⟩:=gs.shape))
 have hR4:=As hR (w':=w4) Ag
 have hE4:Ext w w4:=by exact Ag
 clear hR
 have hlog:DX (⟨⟨⟨Bl,Cq⟩,⟨Be,Fc⟩⟩,⟨Em,Ga,Ih,lM⟩,⟨Py,Oh,Ee,Oj⟩,Pw,⟨Ck,Dt,Ki⟩,Rz,Fp,aO⟩:Bh)=(LI (⟨⟨⟨Bl,Cq⟩,⟨Be,Fc⟩⟩,⟨Em,Ga,Ih,lM⟩,⟨Py,Oh,Ee,Oj⟩,Pw,⟨Ck,Dt,Ki⟩,Rz,Fp,aO⟩:Bh)&&(PN (⟨⟨⟨Bl,Cq⟩,⟨Be,Fc⟩⟩,⟨Em,Ga,Ih,lM⟩,⟨Py,Oh,Ee,Oj⟩,Pw,⟨Ck,Dt,Ki⟩,Rz,Fp,aO⟩:Bh)&&TS (⟨⟨⟨Bl,Cq⟩,⟨Be,Fc⟩⟩,⟨Em,Ga,Ih,lM⟩,⟨Py,Oh,Ee,Oj⟩,Pw,⟨Ck,Dt,Ki⟩,Rz,Fp,aO⟩:Bh))):=by rw[DX,HPRE.out,Bool.true_and]
 have HLOG:=Lib.hid hlog
 clear hlog hx1 hx2 hx3 hx4 p1 p2 p3 b4 b5 hEw
 as_aux_lemma =>
  cases hso:(wL lM Ki).isSome
  .
   as_aux_lemma =>
    refine rx0 cL9 fun w5 hx5=>?_
    go_wp2_with fail
    go_ret
    exact⟨by rw[show DX (⟨⟨⟨Bl,Cq⟩,⟨Be,Fc⟩⟩,⟨Em,Ga,Ih,lM⟩,⟨Py,Oh,Ee,Oj⟩,Pw,⟨Ck,Dt,Ki⟩,Rz,Fp,aO⟩:Bh)=false from by rw[HLOG.out];simp[LI,hso]];try rfl,by exact Ag⟩
  cases p6:eqB (TR lM Ki) Rz
  .
   as_aux_lemma =>
    refine rx0 cM0 fun w5 hx5=>?_
    go_wp2_with fail
    go_ret
    exact⟨by rw[show DX (⟨⟨⟨Bl,Cq⟩,⟨Be,Fc⟩⟩,⟨Em,Ga,Ih,lM⟩,⟨Py,Oh,Ee,Oj⟩,Pw,⟨Ck,Dt,Ki⟩,Rz,Fp,aO⟩:Bh)=false from by rw[HLOG.out];simp[LI,p6]];try rfl,by exact Ag⟩
  cases p7:inb Fp Ck (LO (⟨Ck,Dt,Ki⟩:iY))
  .
   as_aux_lemma =>
    refine rx0 bV8 fun w5 hx5=>?_
    go_wp2_with fail
    go_ret
    exact⟨by rw[show DX (⟨⟨⟨Bl,Cq⟩,⟨Be,Fc⟩⟩,⟨Em,Ga,Ih,lM⟩,⟨Py,Oh,Ee,Oj⟩,Pw,⟨Ck,Dt,Ki⟩,Rz,Fp,aO⟩:Bh)=false from by rw[HLOG.out];simp[LI,p7]];try rfl,by exact Ag⟩
  have hmid:LI (⟨⟨⟨Bl,Cq⟩,⟨Be,Fc⟩⟩,⟨Em,Ga,Ih,lM⟩,⟨Py,Oh,Ee,Oj⟩,Pw,⟨Ck,Dt,Ki⟩,Rz,Fp,aO⟩:Bh)=true:=by
   simp only[LI]
   rw[hso,p6,p7]
   rfl
  have HP:=Lib.hid (cL4 HPRE.out hmid)
  have HMID:=Lib.hid hmid
  clear hmid
  have HDU:Hid (-1<=Fp/\Fp<=2000):=Lib.hid (by have h1:=AO.1 p7;have h2:=HBP.out.top;have h3:=HBP.out.base;simp only[LO] at h1 h2 h3;omega)
  refine rx0 bV8 fun w5 hx5=>?_
  have hfin:DX (⟨⟨⟨Bl,Cq⟩,⟨Be,Fc⟩⟩,⟨Em,Ga,Ih,lM⟩,⟨Py,Oh,Ee,Oj⟩,Pw,⟨Ck,Dt,Ki⟩,Rz,Fp,aO⟩:Bh)=(NU (⟨⟨⟨Bl,Cq⟩,⟨Be,Fc⟩⟩,⟨Em,Ga,Ih,lM⟩,⟨Py,Oh,Ee,Oj⟩,Pw,⟨Ck,Dt,Ki⟩,Rz,Fp,aO⟩:Bh)&&PN (⟨⟨⟨Bl,Cq⟩,⟨Be,Fc⟩⟩,⟨Em,Ga,Ih,lM⟩,⟨Py,Oh,Ee,Oj⟩,Pw,⟨Ck,Dt,Ki⟩,Rz,Fp,aO⟩:Bh)):=cG4 HPRE.out HMID.out
  have HFIN:=Lib.hid hfin
  have I0:=hx5.cell I0;have I1:=hx5.cell I1;have I2:=hx5.cell I2;have I3:=hx5.cell I3;have I4:=hx5.cell I4;have I5:=hx5.cell I5;have I6:=hx5.cell I6;have I7:=hx5.cell I7;have I8:=hx5.cell I8;have I9:=hx5.cell I9;have I10:=hx5.cell I10;have I11:=hx5.cell I11;have I12:=hx5.cell I12;have I13:=hx5.cell I13;have I14:=hx5.cell I14;have I15:=hx5.cell I15;have I16:=hx5.cell I16;have I17:=hx5.cell I17;have I18:=hx5.cell I18
  have hE5:=hE4.trans hx5
  have hR5:=As hR4 hx5
  clear hR4
  have hz5:=hx5.size
  have hlen:Hid (Ki.length<=20):=Lib.hid HBP.out.len
  clear hfin hx5 hso p6 p7 hE4
  as_aux_lemma =>
   go_upto_region 6 with(fail)
   cases p8:NU (⟨⟨⟨Bl,Cq⟩,⟨Be,Fc⟩⟩,⟨Em,Ga,Ih,lM⟩,⟨Py,Oh,Ee,Oj⟩,Pw,⟨Ck,Dt,Ki⟩,Rz,Fp,aO⟩:Bh)
   .
    refine wp_region_held_drew (S:=fun w'=>Ext w5 w') (by kernel_rfl) (by(try dsimp only);exact xT) (fun hHeld=>?_)
    refine wpAnyH_take (i:=0) (v:=.agg ([.slice a0 n0 k0,.slice a1 n1 k1,.slice a2 n2 k2,.slice a3 n3 k3,.int .i64 Em,.int .i64 Ga,.int .i64 Ih,.slice a7 n7 k7,.int .i64 Py,.int .i64 Oh,.int .i64 Ee,.slice a11 n11 k11,.bool Pw,.int .i64 Ck,.int .i64 Dt,.slice a15 n15 k15,.slice a16 n16 k16,.int .i64 Fp,.slice a18 n18 k18]:List Value).toArray) rfl (by kernel_rfl) (by kernel_rfl) (by kernel_rfl) (fun _ _ _ h=>h) (yieldsIf_load_mid (by rfl) 81 (.tmp 1) rfl w.heap.size 0 (by rfl) ([.slice a0 n0 k0,.slice a1 n1 k1,.slice a2 n2 k2,.slice a3 n3 k3,.int .i64 Em,.int .i64 Ga,.int .i64 Ih,.slice a7 n7 k7,.int .i64 Py,.int .i64 Oh,.int .i64 Ee,.slice a11 n11 k11,.bool Pw,.int .i64 Ck,.int .i64 Dt,.slice a15 n15 k15,.slice a16 n16 k16,.int .i64 Fp,.slice a18 n18 k18]:List Value) _ (fun _ hSw=>As hR5 hSw) Tryz.underlying81 rfl (by kernel_rfl)) (by assumption) ?_
    (try simp only[Ak,Act.put])
    refine wr1 1 fun Kz hKz=>?_
    (try simp only[Ak])
    go_simp
    go_at_call 285
    refine(aR1 _ _ Bl _ Cq _ Be _ Fc Em Ga Ih _ lM Py Oh Ee _ Oj Pw Ck Dt _ Ki _ Rz Fp _ aO (AW.ext Ag) (CH.ext Ag) (zX.ext Ag) (DN.ext Ag) (KV.ext Ag) (JK.ext Ag) (FI.ext Ag) (LU.ext Ag) (OG.ext Ag) HP.out).mono ?_
    rintro e9 w6⟨rfl,hx6⟩
    rw[p8]
    have X6:Ext w5 w6:=Ext.trans Ag hx6
    clear hx6
    refine hKz.out _ _ (by(try dsimp only);exact xT) (fun hHeld=>?_)
    clear hKz Kz
    (try simp only[Ak,Act.put])
    refine wt 2 ?_
    (try simp only[Ak,Act.put])
    refine wpAnyH_take (i:=3) (v:=undef) rfl (by kernel_rfl) (by kernel_rfl) (by kernel_rfl) (fun _ _ _ h=>h) (Or.inr ⟨by rfl,rfl⟩) (by assumption) ?_
    (try simp only[Ak,Act.put])
    refine wpAnyH_take (i:=4) (v:=undef) rfl (by kernel_rfl) (by kernel_rfl) (by kernel_rfl) (fun _ _ _ h=>h) (Or.inr ⟨by rfl,rfl⟩) (by assumption) ?_
    (try simp only[Ak,Act.put])
    refine wpAnyH_take (i:=5) (v:=undef) rfl (by kernel_rfl) (by kernel_rfl) (by kernel_rfl) (fun _ _ _ h=>h) (Or.inr ⟨by rfl,rfl⟩) (by assumption) ?_
    (try simp only[Ak,Act.put])
    refine wpAnyH_take (i:=6) (v:=undef) rfl (by kernel_rfl) (by kernel_rfl) (by kernel_rfl) (fun _ _ _ h=>h) (Or.inr ⟨by rfl,rfl⟩) (by assumption) ?_
    (try simp only[Ak,Act.put])
    refine wpAnyH_take (i:=7) (v:=undef) rfl (by kernel_rfl) (by kernel_rfl) (by kernel_rfl) (fun _ _ _ h=>h) (Or.inr ⟨by rfl,rfl⟩) (by assumption) ?_
    (try simp only[Ak,Act.put])
    refine wpAnyH_take (i:=8) (v:=undef) rfl (by kernel_rfl) (by kernel_rfl) (by kernel_rfl) (fun _ _ _ h=>h) (Or.inr ⟨by rfl,rfl⟩) (by assumption) ?_
    (try simp only[Ak,Act.put])
    refine wpAnyH_take (i:=9) (v:=undef) rfl (by kernel_rfl) (by kernel_rfl) (by kernel_rfl) (fun _ _ _ h=>h) (Or.inr ⟨by rfl,rfl⟩) (by assumption) ?_
    (try simp only[Ak,Act.put])
    refine wpAnyH_take (i:=10) (v:=undef) rfl (by kernel_rfl) (by kernel_rfl) (by kernel_rfl) (fun _ _ _ h=>h) (Or.inr ⟨by rfl,rfl⟩) (by assumption) ?_
    (try simp only[Ak,Act.put])
    refine wt 11 ?_
    (try simp only[Ak,Act.put])
    refine wt 12 ?_
    (try simp only[Ak,Act.put])
    refine wpAnyH_done (by kernel_rfl) ?_ _
    go_wp2_with fail
    go_ret
    exact⟨by rw[HFIN.out,p8];rfl,by exact Ag⟩
   as_aux_lemma =>
    refine wp_region_held_drew (S:=fun w'=>Ext w5 w') (by kernel_rfl) (by(try dsimp only);exact xT) (fun hHeld=>?_)
    refine wpAnyH_take (i:=0) (v:=.agg ([.slice a0 n0 k0,.slice a1 n1 k1,.slice a2 n2 k2,.slice a3 n3 k3,.int .i64 Em,.int .i64 Ga,.int .i64 Ih,.slice a7 n7 k7,.int .i64 Py,.int .i64 Oh,.int .i64 Ee,.slice a11 n11 k11,.bool Pw,.int .i64 Ck,.int .i64 Dt,.slice a15 n15 k15,.slice a16 n16 k16,.int .i64 Fp,.slice a18 n18 k18]:List Value).toArray) rfl (by kernel_rfl) (by kernel_rfl) (by kernel_rfl) (fun _ _ _ h=>h) (yieldsIf_load_mid (by rfl) 81 (.tmp 1) rfl w.heap.size 0 (by rfl) ([.slice a0 n0 k0,.slice a1 n1 k1,.slice a2 n2 k2,.slice a3 n3 k3,.int .i64 Em,.int .i64 Ga,.int .i64 Ih,.slice a7 n7 k7,.int .i64 Py,.int .i64 Oh,.int .i64 Ee,.slice a11 n11 k11,.bool Pw,.int .i64 Ck,.int .i64 Dt,.slice a15 n15 k15,.slice a16 n16 k16,.int .i64 Fp,.slice a18 n18 k18]:List Value) _ (fun _ hSw=>As hR5 hSw) Tryz.underlying81 rfl (by kernel_rfl)) (by assumption) ?_
    (try simp only[Ak,Act.put])
    refine wr1 1 fun Kz hKz=>?_
    (try simp only[Ak])
    go_simp
    go_at_call 285
    refine(aR1 _ _ Bl _ Cq _ Be _ Fc Em Ga Ih _ lM Py Oh Ee _ Oj Pw Ck Dt _ Ki _ Rz Fp _ aO (AW.ext Ag) (CH.ext Ag) (zX.ext Ag) (DN.ext Ag) (KV.ext Ag) (JK.ext Ag) (FI.ext Ag) (LU.ext Ag) (OG.ext Ag) HP.out).mono ?_
    rintro e9 w6⟨rfl,hx6⟩
    rw[p8]
    have X6:Ext w5 w6:=Ext.trans Ag hx6
    clear hx6
    refine hKz.out _ _ (by(try dsimp only);exact xT) (fun hHeld=>?_)
    clear hKz Kz
    (try simp only[Ak,Act.put])
    refine wt 2 ?_
    (try simp only[Ak,Act.put])
    refine wt 3 ?_
    (try simp only[Ak,Act.put])
    refine wpAnyH_take (i:=4) (v:=?_) rfl (by kernel_rfl) (by kernel_rfl) (by kernel_rfl) (fun _ _ _ h=>h) (Or.inl ⟨by rfl,?_⟩) (by assumption) ?_
    rotate_left
    focus(intro w hSw;(try dsimp only at hSw);have q18:=hSw.cell I18;go_simp <;> with_reducible rfl)
    (try simp only[Ak,Act.put])
    refine wt 5 ?_
    (try simp only[Ak,Act.put])
    refine wpAnyH_take (i:=6) (v:=?_) rfl (by kernel_rfl) (by kernel_rfl) (by kernel_rfl) (fun _ _ _ h=>h) (Or.inl ⟨by rfl,?_⟩) (by assumption) ?_
    rotate_left
    focus(intro w hSw;(try dsimp only at hSw);have q13:=hSw.cell I13;have q14:=hSw.cell I14;have q15:=hSw.cell I15;go_simp <;> with_reducible rfl)
    (try simp only[Ak,Act.put])
    refine wt 7 ?_
    (try simp only[Ak,Act.put])
    refine wpAnyH_take (i:=8) (v:=?_) rfl (by kernel_rfl) (by kernel_rfl) (by kernel_rfl) (fun _ _ _ h=>h) (Or.inl ⟨by rfl,?_⟩) (by assumption) ?_
    rotate_left
    focus(intro w hSw;(try dsimp only at hSw);have q17:=hSw.cell I17;go_simp <;> with_reducible rfl)
    (try simp only[Ak,Act.put])
    refine wr1 9 fun Kz hKz=>?_
    (try simp only[Ak])
    go_simp
    go_at_call 287
    refine(cL8 _ Ck Dt _ Ki Fp (FI.ext Ag) hlen.out HDU.out).mono ?_
    rintro e w7⟨xo,rfl,hx7,go⟩
    have X7:Ext w5 w7:=Ext.trans Ag hx7
    clear hx7
    refine hKz.out _ _ (by(try dsimp only);exact xT) (fun hHeld=>?_)
    clear hKz Kz
    (try simp only[Ak,Act.put])
    refine wr1 10 fun Kz hKz=>?_
    (try simp only[Ak])
    go_simp
    go_at_call 286
    refine(aR2 _ _ _ aO _ (OG.ext Ag) (go.ext Ag)).mono ?_
    rintro e w8⟨rfl,hx8⟩
    have X8:Ext w5 w8:=Ext.trans Ag hx8
    clear hx8
    refine hKz.out _ _ (by(try dsimp only);exact xT) (fun hHeld=>?_)
    clear hKz Kz
    (try simp only[Ak,Act.put])
    refine wt 11 ?_
    (try simp only[Ak,Act.put])
    refine wt 12 ?_
    (try simp only[Ak,Act.put])
    refine wpAnyH_done (by kernel_rfl) ?_ _
    go_wp2_with fail
    go_ret
    exact⟨by rw[HFIN.out,p8];rfl,by exact Ag⟩
end Go.Proofs.YtkpmbocbbgocbaaGreat
