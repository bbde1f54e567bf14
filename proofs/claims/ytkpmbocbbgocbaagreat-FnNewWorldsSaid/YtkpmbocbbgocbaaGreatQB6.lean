/- LgM LkB LkC LkE LkO EqAck LkI. -/
import Derived.Test.YtkpmbocbbgocbaaGreatQB5
import Derived.RangeFuncNested
import Derived.RangeFuncBound
import Derived.RangeFuncCalls
import Derived.RangeFuncLeaves
import Derived.Shelf.Abstract
import Derived.Shelf.RegionOpen
import Derived.OwnWalkIn
import Derived.TacticsInMore
import Derived.LoopNIn
import Derived.LoopIn
import Derived.Maps.AppendAt
set_option linter.unusedSimpArgs false
set_option linter.unusedVariables false
set_option maxHeartbeats 8000000
set_option maxRecDepth 100000
namespace Go.Proofs.YtkpmbocbbgocbaaGreat
open Go.RowKit Go.G8
theorem Sq{α:Type}{p:α->Bool}:∀(l:List α) (k:Nat),(∀j x,l[j]?=some x->p x=decide (j<k))->l.filter p=l.take k
 | [],k,_=>by simp
 | x::l,0,h=>by
  have h0:=h 0 x rfl
  simp at h0
  have:=Sq l 0 (fun j y hy=>by have:=h (j+1) y (by simpa using hy);simpa using this)
  rw[List.filter_cons,h0,this];simp
 | x::l,k+1,h=>by
  have h0:=h 0 x rfl
  simp at h0
  have:=Sq l k (fun j y hy=>by have:=h (j+1) y (by simpa using hy);simpa using this)
  rw[List.filter_cons,h0,this];simp
theorem iS(l:List Aq)(d:Aq):Ds (l++[d])=Ds l++[d.Index,d.Time,d.Client,d.Seq,d.Op.Kind,d.Op.A,d.Op.B,d.Op.C,d.Op.D]:=by simp[Ds,Aq.ints,List.flatMap_append]
theorem Uo(l:List Is)(d:Is):Np (l++[d])=Np l++[d.Client,d.Seq,d.Index,d.Last]:=by simp[Np,Is.ints,List.flatMap_append]
theorem Tw{α:Type}{p:α->Bool}{l:List α}{k:Nat}{d:α}(hd:l[k]?=some d):(l.take (k+1)).filter p=(l.take k).filter p++(if p d then [d] else []):=by
 rw[List.take_add_one,hd,List.filter_append];simp[List.filter_cons]
theorem iT:∀(l:List Aq) (k:Nat),(Ds l).take (k*9)=Ds (l.take k)
 | [],k=>by simp[Ds]
 | x::l,0=>by simp[Ds]
 | x::l,k+1=>by
  have hx:(Aq.ints x).length=9:=rfl
  have e:(k+1)*9=(Aq.ints x).length+k*9:=by rw[hx];omega
  show((Aq.ints x)++Ds l).take _=(Aq.ints x)++Ds (l.take k)
  rw[e,List.take_length_add_append,iT l k]
theorem Aj.entriesTo{w:World}{a:Option Addr}{n cap:Nat}{l:List Aq}(h:Aj 9 w (.slice a n cap) (Ds l)){k:Nat}(hk:k<=n):Aj 9 w (.slice a k cap) (Ds (l.take k)):=by
 have:=Sl.sliced h (Nat.zero_le k) hk
 simp only[Nat.zero_mul,List.drop_zero,<-List.map_take] at this
 rw[iT] at this
 have e:Go.sliced a 0 k cap 9=.slice a k cap:=by
  unfold Go.sliced
  cases a with
  | none=>simp
  | some p=>simp[Addr.add]
 rw[e] at this
 exact this
def Ip:Di:=⟨0,0,0,[]⟩
def Od(b:Df)(i:Int):Int:=if i=b.Base then b.Time else match b.Entries[(i - b.Base - 1).toNat]? with|some e=>e.Time|none=>0
def Wn(b:Df)(f t:Int):List Aq:=b.Entries.filter (fun e=>inb e.Index f t)
def mM(b:Df)(f:Int):List Aq:=b.Entries.filter (fun e=>decide (f<=e.Index))
def Td(s:List Ar)(l:List Aq):List Ar:=(Dn s l).getD s
def Oq(n:Ap)(i:Int):Di:=⟨n.Head.Num+1,i,Od n.Book i,Td n.Head.Seen (Wn n.Book (n.Book.Base+1) i)⟩
noncomputable def Rs(n:Ap):Bool:=if n.More then inb n.Next.Base (n.Head.Base+1) n.Durable&&eqB n.Next (Oq n n.Next.Base) else eqB n.Next Ip
noncomputable def Ot(n:Ap):Bool:=if n.More then Eh n.Next&&(decide (n.Next.Num=n.Head.Num+1)&&(decide (n.Head.Base<n.Next.Base)&&(decide (n.Next.Base<=n.Durable)&&(decide (n.Next.Time=Od n.Book n.Next.Base)&&eqB n.Next.Seen (Td n.Head.Seen (n.Book.Entries.take (n.Next.Base - n.Book.Base).toNat)))))) else eqB n.Next Ip
noncomputable def Ph(n:Ap):Bool:=eqB n.Owe ((mM n.Book (n.Durable+1)).map Lp)
noncomputable def Jl(n:Ap):Bool:=Oc n.Two&&(Eh n.Head&&(Er n.Book&&(decide (n.Book.Base=n.Head.Base)&&decide (n.Book.Time=n.Head.Time))))
noncomputable def Li(n:Ap):Bool:=(Dn n.Head.Seen n.Book.Entries).isSome&&(eqB (Td n.Head.Seen n.Book.Entries) n.Seen&&inb n.Durable n.Book.Base (Mf n.Book))
noncomputable def Gl(n:Ap):Bool:=Jl n&&(Li n&&(Ph n&&Rs n))
structure qK (n:Ap):Prop where
 num:0<=n.Head.Num/\n.Head.Num<=n.Head.Base
 base:n.Book.Base=n.Head.Base
 time:n.Book.Time=n.Head.Time
 bok:Er n.Book=true
 book:Qg n.Book
 seen:Ex n.Head.Seen
 over:(Dn n.Head.Seen n.Book.Entries).isSome=true
 dur:n.Book.Base<=n.Durable/\n.Durable<=Mf n.Book
theorem Wo{n:Ap}(h:Jl n=true):Eh n.Head=true/\Er n.Book=true/\Qg n.Book/\Ii n.Head.Seen=true/\n.Book.Base=n.Head.Base/\0<=n.Head.Num/\n.Head.Num<=n.Head.Base:=by
 simp only[Jl,Bool.and_eq_true,decide_eq_true_eq] at h
 obtain⟨_,h1,h2,h3,_⟩:=h
 have h4:=h1
 simp only[Eh,Bool.and_eq_true,Dz,decide_eq_true_eq] at h4
 exact⟨h1,h2,Rp h2,h4.2.2.2.2.1,h3,h4.2.1.1,h4.2.1.2⟩
theorem uY{n:Ap}(h:Jl n=true)(k:Li n=true):qK n:=by
 obtain⟨h1,h2,h3,h4,h5,h6,h7⟩:=Wo h
 simp only[Jl,Bool.and_eq_true,decide_eq_true_eq] at h
 simp only[Li,Bool.and_eq_true,Dz] at k
 exact⟨⟨h6,h7⟩,h5,h.2.2.2.2,h2,h3,Jv.1 h4,k.1,k.2.2⟩
theorem nV{b:Df}(h:Qg b){i:Int}(hi:b.Base<=i):Wn b (b.Base+1) i=b.Entries.take (i - b.Base).toNat:=by
 refine Sq _ _ (fun j x hx=>?_)
 have h1:=(h.idx j x hx).1
 have h2:∀a b:Bool,(a=true↔b=true)->a=b:=by decide
 exact h2 _ _ (by rw[Dz,decide_eq_true_eq];omega)
theorem nW{b:Df}(h:Qg b)(i:Int):Wn b i 2000=mM b i:=by
 unfold Wn mM
 refine List.filter_congr (fun x hx=>?_)
 obtain⟨j,hj,hx'⟩:=List.getElem_of_mem hx
 have h1:=Ki (h.idx j x (by rw[List.getElem?_eq_getElem hj,hx'])).2
 have h2:∀a b:Bool,(a=true↔b=true)->a=b:=by decide
 exact h2 _ _ (by rw[Dz,decide_eq_true_eq];omega)
theorem Xq{b:Df}{i:Int}{k:Nat}{e:Aq}(hk:(k:Int)=i - b.Base - 1)(he:b.Entries[k]?=some e):Od b i=e.Time:=by
 have h1:¬ i=b.Base:=by omega
 have h2:(i - b.Base - 1).toNat=k:=by omega
 simp only[Od]
 rw[if_neg h1,h2,he]
theorem iU{n:Ap}(h:qK n){i:Int}(h1:n.Head.Base<i)(h2:i<=n.Durable):Eh (Oq n i)=true/\Td n.Head.Seen (Wn n.Book (n.Book.Base+1) i)=Td n.Head.Seen (n.Book.Entries.take (i - n.Book.Base).toNat):=by
 have hb:=h.base;have hd:=h.dur;have hn:=h.num;have ht:=h.book.top;have h0:=h.book.base
 unfold Mf at hd
 have hp:=nV h.book (i:=i) oM
 obtain⟨k,hk⟩:∃k:Nat,(k:Int)=i - n.Book.Base - 1:=⟨(i - n.Book.Base - 1).toNat,by omega⟩
 have hkl:k<n.Book.Entries.length:=by omega
 have he:n.Book.Entries[k]?=some n.Book.Entries[k]:=List.getElem?_eq_getElem hkl
 have hx:=h.book.idx k _ he
 have ha:=Ki hx.2
 obtain⟨t,hs⟩:=Option.isSome_iff_exists.1 h.over
 obtain⟨u,hu⟩:=cD hs (k+1)
 have hkk:(i - n.Book.Base).toNat=k+1:=by omega
 have hg:Td n.Head.Seen (n.Book.Entries.take (k+1))=u:=by simp[Td,hu]
 have hl:Ej u=n.Book.Entries[k].Index:=bZ h.seen hu (e:=n.Book.Entries[k]) (by
  rw[List.getLast?_eq_getElem?,List.length_take,Nat.min_eq_left oM,Nat.add_sub_cancel,List.getElem?_take_of_lt oM,he])
 have hso:Ex u:=Qz h.seen hu
 refine⟨?_,by rw[hp]⟩
 rw[show Oq n i=⟨n.Head.Num+1,i,n.Book.Entries[k].Time,u⟩ from by unfold Oq;rw[hp,hkk,hg,Xq hk he]]
 simp only[Eh,Bool.and_eq_true,Bool.or_eq_true,Dz,Ea,decide_eq_true_eq]
 refine⟨⟨by omega,by omega⟩,⟨by omega,by omega⟩,⟨by omega,by omega⟩,Or.inl oM,Jq hso,by omega⟩
theorem qL{n:Ap}(h:qK n):Ot n=Rs n:=by
 unfold Ot Rs
 split
 .
  cases hr:inb n.Next.Base (n.Head.Base+1) n.Durable
  .
   have hn:¬ (n.Head.Base<n.Next.Base/\n.Next.Base<=n.Durable):=by
    intro hh
    rw[Dz.2 ⟨by omega,by omega⟩] at hr
    cases hr
   have h2:∀a b:Bool,(a=true->b=true->False)->(a&&b)=false:=by decide
   by_cases ha:n.Head.Base<n.Next.Base
   .
    have hb:¬ n.Next.Base<=n.Durable:=fun hb=>hn ⟨ha,hb⟩
    simp[hb]
   simp[ha]
  have hr':=Dz.1 hr
  obtain⟨h1,h2⟩:=iU h (i:=n.Next.Base) oM oM
  have e2:∀a b:Bool,(a=true↔b=true)->a=b:=by decide
  refine e2 _ _ ?_
  simp only[Bool.and_eq_true,decide_eq_true_eq,Sk,true_and]
  rw[<-h2]
  constructor
  .
   rintro⟨_,h3,_,_,h6,h7⟩
   have e:(⟨n.Next.Num,n.Next.Base,n.Next.Time,n.Next.Seen⟩:Di)=Oq n n.Next.Base:=by rw[h3,h6,h7];rfl
   exact e
  intro he
  refine⟨by rw[he];exact h1,by rw[he];rfl,by omega,by omega,?_,?_⟩
  .
   exact(congrArg Di.Time he).trans rfl
  exact(congrArg Di.Seen he).trans rfl
 rfl
theorem tK{n:Ap}(h:Jl n=true)(k:Li n=true):Gl n=(Ot n&&Ph n):=by
 rw[Gl,h,k,qL (uY h k)]
 cases Rs n <;> cases Ph n <;> rfl
theorem uZ{p:Prop}(h:p:=by intro KQ hKQ;(repeat (first|go_big_quiet_skip|(go_big_quiet_want;first|(refine Br _ _ _ ?_ rfl rfl (fun wq hq=>?_) ?_;rotate_left;(focus((try have y0:=hq.cell I0);(try have y1:=hq.cell I1);(try have y2:=hq.cell I2);go_simp;first|done|rfl));(try simp only[Ab,Act.put]);go_big_quiet_on)|(go_big_quiet_op;first|go_big_quiet_on|(refine⟨_,fun _ _=>rfl,?_⟩;go_big_quiet_on)|(apply Exists.intro;refine⟨fun wq hq=>?_,?_⟩;(focus(first|(go_at_call 281;exact Cv hq (by have c:=Tr wq Ae Ax _ Ao (Ek.ext (hEw.trans hq));rw[show Er (⟨Ae,Ax,Ao⟩:Df)=true from e0] at c;exact c))|(go_at_call 284;exact Cv hq (by have c:=iO wq Ae Ax _ Ao (Ek.ext (hEw.trans hq)) (Rp e0);exact c))|(go_at_call 176;exact Ce hq (by have c:=Cf wq Ew (Ae+1) (Mf (⟨Ae,Ax,Ao⟩:Df));rw[hbt] at c;exact c))));go_big_quiet_on)))));exact wpQuiet_nil hKQ):p:=h
theorem nX(w:World)(Ae Ax:Int)(Fy:Value)(Ao:List Aq)(Ew:Int)(Ek:Aj 9 w Fy (Ds Ao))(e0:Er (⟨Ae,Ax,Ao⟩:Df)=true)(e1:Ae<Ew/\Ew<=Ae+Ao.length):Calls Tryz.prog 363 #[.agg #[.int .i64 Ae,.int .i64 Ax,Fy],.int .i64 Ew] w (Ret w fun r w'=>∃d:Aq,d.Time=Od (⟨Ae,Ax,Ao⟩:Df) Ew/\r=.tuple #[.agg #[.int .i64 d.Index,.int .i64 d.Time,.int .i64 d.Client,.int .i64 d.Seq,.int .i64 d.Op.Kind,.int .i64 d.Op.A,.int .i64 d.Op.B,.int .i64 d.Op.C,.int .i64 d.Op.D],.bool true]):=by
 obtain⟨a2,cap2,rfl,hcap2,hm2,ha2⟩:=Ek.recs (f:=Aq.ints) (fun _=>rfl) dC
 have HA:=Lib.hid ha2
 clear ha2
 unfold maxLen at hm2
 have eb:=(Rp e0).base;have et:=(Rp e0).top
 simp only at eb et
 obtain⟨W0,hW0⟩:∃W0,W0=(w.alloc (.cells #[.int .i64 Ae,.int .i64 Ax,.slice a2 Ao.length cap2] 78)).alloc (.cells #[.int .i64 0,.int .i64 0,.int .i64 0,.int .i64 0,.int .i64 0,.int .i64 0,.int .i64 0,.int .i64 0,.int .i64 0] 281):=⟨_,rfl⟩
 have hEw:Ext w W0:=by rw[hW0];exact((Ext.refl _).alloc _).alloc _
 have KX:Blk W0 w.heap.size 78 #[.int .i64 Ae,.int .i64 Ax,.slice a2 Ao.length cap2]:=by rw[hW0];exact(Blk.new _ _ _).alloc _
 have KR:Blk W0 (w.heap.size+1) 281 #[.int .i64 0,.int .i64 0,.int .i64 0,.int .i64 0,.int .i64 0,.int .i64 0,.int .i64 0,.int .i64 0,.int .i64 0]:=by rw[hW0];exact Blk.new2 _ _ _ _
 have I0:=KX.cell 0;have I1:=KX.cell 1;have I2:=KX.cell 2
 simp only[List.getElem?_toArray,List.getElem?_cons_zero,List.getElem?_cons_succ] at I0 I1 I2
 go_enter Tryz.func363,Tryz.ntmps363
 go_upto_region 1 with(fail)
 rw[<-hW0]
 clear hW0
 have hwb:IntKind.i64.wrap (Ae+1)=Ae+1:=by rw[IntKind.wrap_i64] <;> omega
 have hbt:inb Ew (Ae+1) (Mf (⟨Ae,Ax,Ao⟩:Df))=true:=Dz.2 (by simp only[Mf];omega)
 have HBT:=Lib.hid hbt
 obtain⟨k,hk⟩:∃k:Nat,(k:Int)=Ew - Ae - 1:=⟨(Ew - Ae - 1).toNat,by omega⟩
 have hw1:IntKind.i64.wrap (Ew - Ae)=Ew - Ae:=by rw[IntKind.wrap_i64] <;> omega
 have hw2:IntKind.i64.wrap (Ew - Ae - 1)=(k:Int):=by rw[hk,IntKind.wrap_i64] <;> omega
 have hkl:k<Ao.length:=by omega
 obtain⟨d,b1,o1,hd,rfl,hb1,c⟩:=HA.out k hkl
 have ht:Od (⟨Ae,Ax,Ao⟩:Df) Ew=d.Time:=Xq (by simpa using hk) hd
 have HT:=Lib.hid ht
 have d0:=hEw.cell (c 0 _ dC rfl)
 have d1:=hEw.cell (c 1 _ dC rfl)
 have d2:=hEw.cell (c 2 _ dC rfl)
 have d3:=hEw.cell (c 3 _ dC rfl)
 have d4:=hEw.cell (c 4 _ dC rfl)
 have d5:=hEw.cell (c 5 _ dC rfl)
 have d6:=hEw.cell (c 6 _ dC rfl)
 have d7:=hEw.cell (c 7 _ dC rfl)
 have d8:=hEw.cell (c 8 _ dC rfl)
 simp only[Nat.add_zero] at d0
 have HK:=Lib.hid hk
 have e0':=Lib.hid e0
 clear ht hd hk c
 refine rx0 uZ fun w1 hx1=>?_
 have K1:=KR.ext hx1
 obtain⟨C1,F1,L1⟩:=K1.cfl
 have I0:=hx1.cell I0;have I1:=hx1.cell I1;have I2:=hx1.cell I2
 have d0:=hx1.cell d0
 have d1:=hx1.cell d1
 have d2:=hx1.cell d2
 have d3:=hx1.cell d3
 have d4:=hx1.cell d4
 have d5:=hx1.cell d5
 have d6:=hx1.cell d6
 have d7:=hx1.cell d7
 have d8:=hx1.cell d8
 clear KX KR K1 e0 hbt
 go_wp2_with fail
 refine bodyPost_ret (by simp[results,Tryz.results363,go_sem,C1,F1,L1];try rfl) rfl ?_
 exact⟨_,rfl,by exact Aa,d,HT.out.symm,rfl⟩
theorem kV(w:World)(Ae Ax Cw:Int)(Iq:Value)(Bm:List Ar)(Ew Mw:Int)(vW:Value)(mC:List Aq)(k:Nat)(i:Int)(Gm:Aj 3 w Iq (Cz Bm))(vX:Aj 9 w vW (Ds mC))(e0:Ii Bm=true)(e1:i - Ew=k)(e2:k<=mC.length)(e3:mC.length<=20):Calls Tryz.prog 364 #[.agg #[.int .i64 Ae,.int .i64 Ax,.int .i64 Cw,Iq],.agg #[.int .i64 Ew,.int .i64 Mw,vW],.int .i64 i] w (Ret w fun r w'=>∃(x:Value) (b:Bool),r=.tuple #[x,.bool b]/\Aj 3 w' x (Cz (Td Bm (mC.take k)))):=by
 obtain⟨a3,n3,k3,rfl⟩:=Gm.shape
 obtain⟨a2,cap2,rfl,hcap2,hm2,ha2⟩:=vX.recs (f:=Aq.ints) (fun _=>rfl) dC
 unfold maxLen at hm2
 obtain⟨W0,hW0⟩:∃W0,W0=(w.alloc (.cells #[.int .i64 Ae,.int .i64 Ax,.int .i64 Cw,.slice a3 n3 k3] 75)).alloc (.cells #[.int .i64 Ew,.int .i64 Mw,.slice a2 mC.length cap2] 78):=⟨_,rfl⟩
 have hEw:Ext w W0:=by rw[hW0];exact((Ext.refl _).alloc _).alloc _
 have KX:Blk W0 w.heap.size 75 #[.int .i64 Ae,.int .i64 Ax,.int .i64 Cw,.slice a3 n3 k3]:=by rw[hW0];exact(Blk.new _ _ _).alloc _
 have KY:Blk W0 (w.heap.size+1) 78 #[.int .i64 Ew,.int .i64 Mw,.slice a2 mC.length cap2]:=by rw[hW0];exact Blk.new2 _ _ _ _
 have I0:=KX.cell 0;have I1:=KX.cell 1;have I2:=KX.cell 2;have I3:=KX.cell 3
 simp only[List.getElem?_toArray,List.getElem?_cons_zero,List.getElem?_cons_succ] at I0 I1 I2 I3
 have J0:=KY.cell 0;have J1:=KY.cell 1;have J2:=KY.cell 2
 simp only[List.getElem?_toArray,List.getElem?_cons_zero,List.getElem?_cons_succ] at J0 J1 J2
 go_enter Tryz.func364,Tryz.ntmps364
 go_upto_region 1 with(fail)
 rw[<-hW0]
 clear hW0 KX KY
 have hw1:IntKind.i64.wrap (i - Ew)=(k:Int):=by rw[e1,IntKind.wrap_i64] <;> omega
 have H1:=Lib.hid e1
 clear e1
 have hkc:k<=cap2:=by omega
 have hsl:=(vX.ext hEw).entriesTo e2
 refine wp_region_held_drew (S:=fun w'=>Ext W0 w') (by kernel_rfl) (by(try dsimp only);exact xT) (fun hHeld=>?_)
 refine wt 0 ?_
 (try simp only[Ab,Act.put])
 refine wpAnyH_take (i:=1) (v:=?_) rfl (by kernel_rfl) (by kernel_rfl) (by kernel_rfl) (fun _ _ _ h=>h) (Or.inl ⟨by rfl,?_⟩) (by assumption) ?_
 rotate_left
 focus(intro w hSw;(try dsimp only at hSw);have q3:=hSw.cell I3;have q2:=hSw.cell J2;have q0:=hSw.cell J0;go_simp <;> with_reducible rfl)
 (try simp only[Ab,Act.put])
 refine wt 2 ?_
 (try simp only[Ab,Act.put])
 refine wpAnyH_take (i:=3) (v:=?_) rfl (by kernel_rfl) (by kernel_rfl) (by kernel_rfl) (fun _ _ _ h=>h) (Or.inl ⟨by rfl,?_⟩) (by assumption) ?_
 rotate_left
 focus(intro w hSw;(try dsimp only at hSw);have q3:=hSw.cell I3;have q2:=hSw.cell J2;have q0:=hSw.cell J0;go_simp <;> with_reducible rfl)
 (try simp only[Ab,Act.put])
 refine wt 4 ?_
 (try simp only[Ab,Act.put])
 refine wt 5 ?_
 (try simp only[Ab,Act.put])
 refine wpAnyH_take (i:=6) (v:=?_) rfl (by kernel_rfl) (by kernel_rfl) (by kernel_rfl) (fun _ _ _ h=>h) (Or.inl ⟨by rfl,?_⟩) (by assumption) ?_
 rotate_left
 focus(intro w hSw;(try dsimp only at hSw);have q3:=hSw.cell I3;have q2:=hSw.cell J2;have q0:=hSw.cell J0;go_simp <;> with_reducible rfl)
 (try simp only[Ab,Act.put])
 refine wt 7 ?_
 (try simp only[Ab,Act.put])
 refine wt 8 ?_
 (try simp only[Ab,Act.put])
 refine wr1 9 fun Kz hKz=>?_
 (try simp only[Ab])
 go_simp
 go_at_call 282
 refine(aI _ _ _ Bm (mC.take k) (Gm.ext (hEw.trans Aa)) (hsl.ext Aa) e0 (by rw[List.length_take];omega)).mono ?_
 rintro e w1⟨_,rfl,hx1,x,rfl,g1⟩
 have X1:Ext W0 w1:=Ext.trans Aa hx1
 clear hx1
 refine hKz.out _ _ (by(try dsimp only);exact xT) (fun hHeld=>?_)
 clear hKz Kz
 (try simp only[Ab,Act.put])
 refine wt 10 ?_
 (try simp only[Ab,Act.put])
 refine wt 11 ?_
 (try simp only[Ab,Act.put])
 refine wt 12 ?_
 (try simp only[Ab,Act.put])
 refine wt 13 ?_
 (try simp only[Ab,Act.put])
 refine wpAnyH_done (by kernel_rfl) ?_ _
 go_wp2_with fail
 go_ret2
 exact⟨_,rfl,by exact Aa,_,_,rfl,g1⟩
theorem iV(w:World)(Dl:Value)(Ad:List (List Int))(Fe:Value)(Am:List Eb)(Fy:Value)(Ao:List (List Int))(Iq:Value)(Bm:List Eb)(Bl:Int)(Bp:Int)(Bs:Int)(Qq:Value)(Dd:List Ar)(Co:Int)(Cj:Int)(Bg:Int)(Oz:Value)(Cm:List Ar)(Cn:Bool)(Ay:Int)(Bc:Int)(Pa:Value)(Bt:List Aq)(Pb:Value)(Cq:List Ar)(Bn:Int)(Pd:Value)(Cy:List Is)(Dk:Ck 0 w Dl (Ac Ad))(Ev:Ck 1 w Fe (Ah Am))(Ek:Ck 0 w Fy (Ac Ao))(Gm:Ck 1 w Iq (Ah Bm))(Lx:Aj 3 w Qq (Cz Dd))(Le:Aj 3 w Oz (Cz Cm))(Ht:Aj 9 w Pa (Ds Bt))(Mi:Aj 3 w Pb (Cz Cq))(Pe:Aj 4 w Pd (Np Cy))(e0:qK (⟨⟨⟨Ad,Am⟩,⟨Ao,Bm⟩⟩,⟨Bl,Bp,Bs,Dd⟩,⟨Co,Cj,Bg,Cm⟩,Cn,⟨Ay,Bc,Bt⟩,Cq,Bn,Cy⟩:Ap)):Calls Tryz.prog 285 #[.agg #[Dl,Fe,Fy,Iq,.int .i64 Bl,.int .i64 Bp,.int .i64 Bs,Qq,.int .i64 Co,.int .i64 Cj,.int .i64 Bg,Oz,.bool Cn,.int .i64 Ay,.int .i64 Bc,Pa,Pb,.int .i64 Bn,Pd]] w (Cp w (.bool (Ot (⟨⟨⟨Ad,Am⟩,⟨Ao,Bm⟩⟩,⟨Bl,Bp,Bs,Dd⟩,⟨Co,Cj,Bg,Cm⟩,Cn,⟨Ay,Bc,Bt⟩,Cq,Bn,Cy⟩:Ap)))):=by
 obtain⟨a0,n0,k0,rfl⟩:=Dk.shape
 obtain⟨a1,n1,k1,rfl⟩:=Ev.shape
 obtain⟨a2,n2,k2,rfl⟩:=Ek.shape
 obtain⟨a3,n3,k3,rfl⟩:=Gm.shape
 obtain⟨a7,n7,k7,rfl⟩:=Lx.shape
 obtain⟨a11,n11,k11,rfl⟩:=Le.shape
 obtain⟨a15,n15,k15,rfl⟩:=Ht.shape
 obtain⟨a16,n16,k16,rfl⟩:=Mi.shape
 obtain⟨a18,n18,k18,rfl⟩:=Pe.shape
 have hb:=e0.base;have hnum:=e0.num;have hdur:=e0.dur;have htop:=e0.book.top;have hbb:=e0.book.base;have hlen:=e0.book.len
 simp only[Mf] at hb hnum hdur htop hbb hlen
 have hb1:=Int.le_of_eq hb;have hb2:=Int.le_of_eq hb.symm
 clear hb
 have HBOK:=Lib.hid e0.bok;have HSN:=Lib.hid (Jq e0.seen);have HP:=Lib.hid e0
 simp only at HBOK HSN
 clear e0
 obtain⟨W0,hW0⟩:∃W0,W0=w.alloc (.cells #[.slice a0 n0 k0,.slice a1 n1 k1,.slice a2 n2 k2,.slice a3 n3 k3,.int .i64 Bl,.int .i64 Bp,.int .i64 Bs,.slice a7 n7 k7,.int .i64 Co,.int .i64 Cj,.int .i64 Bg,.slice a11 n11 k11,.bool Cn,.int .i64 Ay,.int .i64 Bc,.slice a15 n15 k15,.slice a16 n16 k16,.int .i64 Bn,.slice a18 n18 k18] 81):=⟨_,rfl⟩
 have hEw:Ext w W0:=by rw[hW0];exact(Ext.refl _).alloc _
 have KX:Blk W0 w.heap.size 81 #[.slice a0 n0 k0,.slice a1 n1 k1,.slice a2 n2 k2,.slice a3 n3 k3,.int .i64 Bl,.int .i64 Bp,.int .i64 Bs,.slice a7 n7 k7,.int .i64 Co,.int .i64 Cj,.int .i64 Bg,.slice a11 n11 k11,.bool Cn,.int .i64 Ay,.int .i64 Bc,.slice a15 n15 k15,.slice a16 n16 k16,.int .i64 Bn,.slice a18 n18 k18]:=by rw[hW0];exact Blk.new _ _ _
 have hLX:=KX.lt
 have I0:=KX.cell 0;have I1:=KX.cell 1;have I2:=KX.cell 2;have I3:=KX.cell 3;have I4:=KX.cell 4;have I5:=KX.cell 5;have I6:=KX.cell 6;have I7:=KX.cell 7;have I8:=KX.cell 8;have I9:=KX.cell 9;have I10:=KX.cell 10;have I11:=KX.cell 11;have I12:=KX.cell 12;have I13:=KX.cell 13;have I14:=KX.cell 14;have I15:=KX.cell 15;have I16:=KX.cell 16;have I17:=KX.cell 17;have I18:=KX.cell 18
 simp only[List.getElem?_toArray,List.getElem?_cons_zero,List.getElem?_cons_succ] at I0 I1 I2 I3 I4 I5 I6 I7 I8 I9 I10 I11 I12 I13 I14 I15 I16 I17 I18
 go_enter Tryz.func285,Tryz.ntmps285
 go_upto_region 1 with(fail)
 rw[<-hW0]
 clear hW0 KX
 cases Cn
 .
  go_wp2_with (first|(go_at_call 289;refine(Vu _ Co Cj Bg _ Cm 0 0 0 _ [] (Le.ext Aa) (show Aj 3 _ _ (Cz []) from Aj.nil 3 _)).mono ?_;rintro e9 w1 ⟨rfl,hx1⟩))
  go_ret
  exact⟨by first|rfl|(simp[Ot,Ip];done),by exact Aa⟩
 have hw4:IntKind.i64.wrap (Bl+1)=Bl+1:=by rw[IntKind.wrap_i64] <;> omega
 cases p1:Eh (⟨Co,Cj,Bg,Cm⟩:Di)
 .
  go_wp2_with (first|(go_at_call 280;refine(Lq _ Co Cj Bg _ Cm (Le.ext Aa)).mono ?_;rintro e9 w1 ⟨rfl,hx1⟩;rw[p1];have J0:=hx1.cell I0;have J1:=hx1.cell I1;have J2:=hx1.cell I2;have J3:=hx1.cell I3;have J4:=hx1.cell I4;have J5:=hx1.cell I5;have J6:=hx1.cell I6;have J7:=hx1.cell I7;have J8:=hx1.cell I8;have J9:=hx1.cell I9;have J10:=hx1.cell I10;have J11:=hx1.cell I11;have J12:=hx1.cell I12;have J13:=hx1.cell I13;have J14:=hx1.cell I14;have J15:=hx1.cell I15;have J16:=hx1.cell I16;have J17:=hx1.cell I17;have J18:=hx1.cell I18;have hz1:=hx1.size))
  go_ret
  exact⟨by rw[show Ot (⟨⟨⟨Ad,Am⟩,⟨Ao,Bm⟩⟩,⟨Bl,Bp,Bs,Dd⟩,⟨Co,Cj,Bg,Cm⟩,true,⟨Ay,Bc,Bt⟩,Cq,Bn,Cy⟩:Ap)=false from by simp[Ot,p1]];try rfl,by exact Aa⟩
 by_cases q2:Co=Bl+1
 rotate_left
 .
  have b2:(Co != Bl+1)=true:=by simpa using q2
  have H2:=Lib.hid q2
  clear q2
  go_wp2_with (first|(go_at_call 280;refine(Lq _ Co Cj Bg _ Cm (Le.ext Aa)).mono ?_;rintro e9 w1 ⟨rfl,hx1⟩;rw[p1];have J0:=hx1.cell I0;have J1:=hx1.cell I1;have J2:=hx1.cell I2;have J3:=hx1.cell I3;have J4:=hx1.cell I4;have J5:=hx1.cell I5;have J6:=hx1.cell I6;have J7:=hx1.cell I7;have J8:=hx1.cell I8;have J9:=hx1.cell I9;have J10:=hx1.cell I10;have J11:=hx1.cell I11;have J12:=hx1.cell I12;have J13:=hx1.cell I13;have J14:=hx1.cell I14;have J15:=hx1.cell I15;have J16:=hx1.cell I16;have J17:=hx1.cell I17;have J18:=hx1.cell I18;have hz1:=hx1.size))
  go_ret
  exact⟨by rw[show Ot (⟨⟨⟨Ad,Am⟩,⟨Ao,Bm⟩⟩,⟨Bl,Bp,Bs,Dd⟩,⟨Co,Cj,Bg,Cm⟩,true,⟨Ay,Bc,Bt⟩,Cq,Bn,Cy⟩:Ap)=false from by simp[Ot,H2.out]];try rfl,by exact Aa⟩
 have b2:(Co != Bl+1)=false:=by simpa using q2
 have H2:=Lib.hid q2
 clear q2
 by_cases q3:Bp<Cj
 rotate_left
 .
  have b3:decide (Cj<=Bp)=true:=by simp;omega
  have H3:=Lib.hid q3
  clear q3
  go_wp2_with (first|(go_at_call 280;refine(Lq _ Co Cj Bg _ Cm (Le.ext Aa)).mono ?_;rintro e9 w1 ⟨rfl,hx1⟩;rw[p1];have J0:=hx1.cell I0;have J1:=hx1.cell I1;have J2:=hx1.cell I2;have J3:=hx1.cell I3;have J4:=hx1.cell I4;have J5:=hx1.cell I5;have J6:=hx1.cell I6;have J7:=hx1.cell I7;have J8:=hx1.cell I8;have J9:=hx1.cell I9;have J10:=hx1.cell I10;have J11:=hx1.cell I11;have J12:=hx1.cell I12;have J13:=hx1.cell I13;have J14:=hx1.cell I14;have J15:=hx1.cell I15;have J16:=hx1.cell I16;have J17:=hx1.cell I17;have J18:=hx1.cell I18;have hz1:=hx1.size))
  go_ret
  exact⟨by rw[show Ot (⟨⟨⟨Ad,Am⟩,⟨Ao,Bm⟩⟩,⟨Bl,Bp,Bs,Dd⟩,⟨Co,Cj,Bg,Cm⟩,true,⟨Ay,Bc,Bt⟩,Cq,Bn,Cy⟩:Ap)=false from by have h:=H3.out;simp only[Ot,if_true];rw[show decide (Bp<Cj)=false by simpa using h];simp];try rfl,by exact Aa⟩
 have b3:decide (Cj<=Bp)=false:=by simp;omega
 have H3:=Lib.hid q3
 by_cases q4:Cj<=Bn
 rotate_left
 .
  have b4:decide (Bn<Cj)=true:=by simp;omega
  have H4:=Lib.hid q4
  clear q4 q3
  go_wp2_with (first|(go_at_call 280;refine(Lq _ Co Cj Bg _ Cm (Le.ext Aa)).mono ?_;rintro e9 w1 ⟨rfl,hx1⟩;rw[p1];have J0:=hx1.cell I0;have J1:=hx1.cell I1;have J2:=hx1.cell I2;have J3:=hx1.cell I3;have J4:=hx1.cell I4;have J5:=hx1.cell I5;have J6:=hx1.cell I6;have J7:=hx1.cell I7;have J8:=hx1.cell I8;have J9:=hx1.cell I9;have J10:=hx1.cell I10;have J11:=hx1.cell I11;have J12:=hx1.cell I12;have J13:=hx1.cell I13;have J14:=hx1.cell I14;have J15:=hx1.cell I15;have J16:=hx1.cell I16;have J17:=hx1.cell I17;have J18:=hx1.cell I18;have hz1:=hx1.size))
  go_ret
  exact⟨by rw[show Ot (⟨⟨⟨Ad,Am⟩,⟨Ao,Bm⟩⟩,⟨Bl,Bp,Bs,Dd⟩,⟨Co,Cj,Bg,Cm⟩,true,⟨Ay,Bc,Bt⟩,Cq,Bn,Cy⟩:Ap)=false from by have h:=H4.out;simp only[Ot,if_true];rw[show decide (Cj<=Bn)=false by simpa using h];simp];try rfl,by exact Aa⟩
 have b4:decide (Bn<Cj)=false:=by simp;omega
 have H4:=Lib.hid q4
 obtain⟨k,hk⟩:∃k:Nat,Cj - Ay=(k:Int):=⟨(Cj - Ay).toNat,by omega⟩
 have hkt:(Cj - Ay).toNat=k:=by omega
 have hkl:k<=Bt.length:=by omega
 have HKK:=Lib.hid hk;have HKT:=Lib.hid hkt
 clear hk hkt
 go_upto_region 6 with(first|(go_at_call 280;refine(Lq _ Co Cj Bg _ Cm (Le.ext Aa)).mono ?_;rintro e9 w1 ⟨rfl,hx1⟩;rw[p1];have J0:=hx1.cell I0;have J1:=hx1.cell I1;have J2:=hx1.cell I2;have J3:=hx1.cell I3;have J4:=hx1.cell I4;have J5:=hx1.cell I5;have J6:=hx1.cell I6;have J7:=hx1.cell I7;have J8:=hx1.cell I8;have J9:=hx1.cell I9;have J10:=hx1.cell I10;have J11:=hx1.cell I11;have J12:=hx1.cell I12;have J13:=hx1.cell I13;have J14:=hx1.cell I14;have J15:=hx1.cell I15;have J16:=hx1.cell I16;have J17:=hx1.cell I17;have J18:=hx1.cell I18;have hz1:=hx1.size)|(go_at_call 363;refine(nX _ Ay Bc _ Bt Cj (Ht.ext Aa) HBOK.out oM).mono ?_;rintro e9 w2 ⟨_,rfl,hx2,d,hd,rfl⟩;have HD:=Lib.hid hd;clear hd;have K0:=hx2.cell J0;have K1:=hx2.cell J1;have K2:=hx2.cell J2;have K3:=hx2.cell J3;have K4:=hx2.cell J4;have K5:=hx2.cell J5;have K6:=hx2.cell J6;have K7:=hx2.cell J7;have K8:=hx2.cell J8;have K9:=hx2.cell J9;have K10:=hx2.cell J10;have K11:=hx2.cell J11;have K12:=hx2.cell J12;have K13:=hx2.cell J13;have K14:=hx2.cell J14;have K15:=hx2.cell J15;have K16:=hx2.cell J16;have K17:=hx2.cell J17;have K18:=hx2.cell J18;have hz2:=hx2.size))
 obtain⟨W6,hW6⟩:∃W,W=w2.alloc (.cells #[.int .i64 d.Index,.int .i64 d.Time,.int .i64 d.Client,.int .i64 d.Seq,.int .i64 d.Op.Kind,.int .i64 d.Op.A,.int .i64 d.Op.B,.int .i64 d.Op.C,.int .i64 d.Op.D] 281):=⟨_,rfl⟩
 have KT:Blk W6 w2.heap.size 281 #[.int .i64 d.Index,.int .i64 d.Time,.int .i64 d.Client,.int .i64 d.Seq,.int .i64 d.Op.Kind,.int .i64 d.Op.A,.int .i64 d.Op.B,.int .i64 d.Op.C,.int .i64 d.Op.D]:=by rw[hW6];exact Blk.new _ _ _
 have h26:Ext w2 W6:=by rw[hW6];exact(Ext.refl _).alloc _
 have T1:=KT.cell 1
 simp only[List.getElem?_toArray,List.getElem?_cons_zero,List.getElem?_cons_succ] at T1
 rw[<-hW6]
 have hE6:Ext w W6:=((hEw.trans hx1).trans hx2).trans h26
 clear hW6 KT
 have M0:=h26.cell K0;have M1:=h26.cell K1;have M2:=h26.cell K2;have M3:=h26.cell K3;have M4:=h26.cell K4;have M5:=h26.cell K5;have M6:=h26.cell K6;have M7:=h26.cell K7;have M8:=h26.cell K8;have M9:=h26.cell K9;have M10:=h26.cell K10;have M11:=h26.cell K11;have M12:=h26.cell K12;have M13:=h26.cell K13;have M14:=h26.cell K14;have M15:=h26.cell K15;have M16:=h26.cell K16;have M17:=h26.cell K17;have M18:=h26.cell K18
 go_upto_region 7 with(first|(go_at_call 364;refine(kV _ Bl Bp Bs _ Dd Ay Bc _ Bt k Cj (Lx.ext Aa) (Ht.ext Aa) HSN.out HKK.out hkl hlen).mono ?_;rintro e9 w3 ⟨_,rfl,hx3,x,bb,rfl,g3⟩;have P0:=hx3.cell M0;have P1:=hx3.cell M1;have P2:=hx3.cell M2;have P3:=hx3.cell M3;have P4:=hx3.cell M4;have P5:=hx3.cell M5;have P6:=hx3.cell M6;have P7:=hx3.cell M7;have P8:=hx3.cell M8;have P9:=hx3.cell M9;have P10:=hx3.cell M10;have P11:=hx3.cell M11;have P12:=hx3.cell M12;have P13:=hx3.cell M13;have P14:=hx3.cell M14;have P15:=hx3.cell M15;have P16:=hx3.cell M16;have P17:=hx3.cell M17;have P18:=hx3.cell M18;have T2:=hx3.cell T1;have hz3:=hx3.size;obtain⟨xa,xn,xk,rfl⟩:=g3.shape))
 have hn:Ot (⟨⟨⟨Ad,Am⟩,⟨Ao,Bm⟩⟩,⟨Bl,Bp,Bs,Dd⟩,⟨Co,Cj,Bg,Cm⟩,true,⟨Ay,Bc,Bt⟩,Cq,Bn,Cy⟩:Ap)=(decide (Bg=d.Time)&&eqB Cm (Td Dd (Bt.take k))):=by
  simp only[Ot,if_true]
  rw[p1,<-HD.out,HKT.out,show decide (Co=Bl+1)=true by simpa using H2.out,show decide (Bp<Cj)=true by simpa using H3.out,show decide (Cj<=Bn)=true by simpa using H4.out]
  rfl
 have HN:=Lib.hid hn
 clear hn
 by_cases q5:Bg=d.Time
 rotate_left
 .
  have b5:(Bg == d.Time)=false:=by simpa using q5
  have b6:decide (Bg=d.Time)=false:=by simpa using q5
  have H5:=Lib.hid q5
  clear q5
  go_wp2_with fail
  go_ret
  exact⟨by rw[HN.out,show decide (Bg=d.Time)=false by simpa using H5.out];rfl,by exact Aa⟩
 have b5:(Bg == d.Time)=true:=by simpa using q5
 have b6:decide (Bg=d.Time)=true:=by simpa using q5
 have H5:=Lib.hid q5
 clear q5
 go_wp2_with (first|(go_at_call 283;refine(Qj _ _ _ Cm _ (Le.ext Aa) (g3.ext Aa)).mono ?_;rintro e9 w4 ⟨rfl,hx4⟩))
 go_ret
 exact⟨by rw[HN.out,show decide (Bg=d.Time)=true by simpa using H5.out];rfl,by exact Aa⟩
theorem Ext.others{w w':World}(h:Ext w w'):KeepsOthers w w':=KeepsOthers.of_grownBy h.grown (fun _ _ e=>by cases e)
theorem Blk.own{β:Type}(g:Nat)(t:TypeId)(cs:β->Array Value):Go.Own (fun s W=>Blk W g t (cs s)):=fun s X Y row hs hg hrow =>
 hs.grown hg (fun e'=>by obtain⟨o,ho,hc⟩:=hrow g e'.symm;rw[show X.heap[g]?=_ from hs] at ho;cases ho;cases hc)
theorem Lm{F:Fence}{n:Nat}{P:Program}(w:World){o:Oper}{a:Act}{next:Act->World->Prop}{Q:Exit->Act->World->Prop}
  (s x:Operand) (t:TypeId) (hop:o.op=Op.call { callee:=Callee.builtin Builtin.append,args:=#[s,x],argTypes:=#[t,t] })
  (base:Nat) (e:TypeId) (i:TypeInfo) (z:Value) (size bytes:Nat) (h1:P.underlying t=some (.slice e)) (h2:P.info? e=some i) (h3:i.zero=some z) (h4:i.size=size) (h5:i.bytes=bytes) (h6:z.cells.size=size) (h7:0<size)
  (v:Value) (k:Nat) (xs:List Value) (hs:a.eval s=v) (hown:w.ownsRow base e size v k xs) (ad:Addr) (m c:Nat) (news:List Value) (hx:a.eval x=.slice (some ad) m c) (hn:news.length=m*size)
  (hc:∀j u,news[j]?=some u->w.cell? (ad.add j)=some u) (h1c:∀u ∈ news,u.oneCell'=true) (b1:k+m<=maxLen) (b2:(k+m)*bytes<=140737488355328) (b3:base<=w.heap.size)
  (hK:∀v' w',w'.ownsRow base e size v' (k+m) (xs++news)->w.grownBy w' v.ownBlock->next (a.put o.dst v') w') :
  o.wpIn F n P a w next Q:=by
 obtain⟨v',w',hrun,r1,r2,r3⟩:=run_append_own (P:=P) w base t o.type e i z size bytes h1 h2 h3 h4 h5 h6 h7 v k xs hown ad m c news hn hc h1c b1 b2 b3
 unfold Oper.wpIn
 refine⟨?_,?_⟩
 .
  simp[Oper.about,hop,resolve,Target.leads,Sem.run_pure]
 rw[Oper.semAt_plain F _ _ (by rw[hop];intro c hc';cases hc')]
 simp[execOp,hop,resolve,invoke,builtin,hs,hx,hrun,Result.andThen]
 exact hK _ _ r1 r2
theorem Blk.new4(w:World)(o o' o'':Obj)(t:TypeId)(cs:Array Value):Blk ((((w.alloc o).alloc o').alloc o'').alloc (.cells cs t)) (w.heap.size+1+1+1) t cs:=by
 have:=Blk.new (((w.alloc o).alloc o').alloc o'') t cs
 rwa [World.size_alloc,World.size_alloc,World.size_alloc] at this
theorem Blk.new5(w:World)(o o' o'' o3:Obj)(t:TypeId)(cs:Array Value):Blk (((((w.alloc o).alloc o').alloc o'').alloc o3).alloc (.cells cs t)) (w.heap.size+1+1+1+1) t cs:=by
 have:=Blk.new ((((w.alloc o).alloc o').alloc o'').alloc o3) t cs
 rwa [World.size_alloc,World.size_alloc,World.size_alloc,World.size_alloc] at this
attribute [local go_sem] Oper.semAt_some
def tL(d:Aq):Value:=.agg #[.int .i64 d.Index,.int .i64 d.Time,.int .i64 d.Client,.int .i64 d.Seq,.int .i64 d.Op.Kind,.int .i64 d.Op.A,.int .i64 d.Op.B,.int .i64 d.Op.C,.int .i64 d.Op.D]
def KpE(n₀ Bf:Nat)(W W':World):Prop:=Below n₀ W W'/\∀u,Boxed W Bf 2 u->Boxed W' Bf 2 u
theorem KpE.t{n₀ Bf:Nat}{A B C:World}(h:KpE n₀ Bf A B)(k:KpE n₀ Bf B C):KpE n₀ Bf A C:=⟨h.1.trans k.1,fun u hu=>k.2 u (h.2 u hu)⟩
theorem qM(F:Fence)(n:Nat)(hf:F.fn 413)(hro:F.round=none)(hn:1<=n)(l Bb Bf:Nat)(w0:World)(frm c0 c1:Int)(a:Option Addr)(cap:Nat)(L:List Aq)(hc:L.length<=cap)(hm:cap<=maxLen)
  (HA:Hid (∀i,i<L.length->∃(d:Aq) (b off:Nat),L[i]?=some d/\a=some ⟨b,off,none⟩/\b<w0.heap.size/\∀j u,j<9->(Aq.ints d)[j]?=some u->w0.cell? ⟨b,off+i*9+j,none⟩=some (.int .i64 u)))
  (J Jx:List Aq->World->Prop) (W:World) (hJ:AbidesFrom W.heap.size J)
  (hY:∀pre x W1,J pre W1->pre.length<L.length->YieldAt F (n - 1) Tryz.prog l #[tL x] W1 fun e W'=>(e=.returned (.bool true)/\J (pre++[x]) W'/\KpE w0.heap.size Bf W1 W')\/(e=.returned (.bool false)/\Jx (pre++[x]) W'))
  (hW:Ext w0 W) (hb:Blk W Bb 78 #[.int .i64 c0,.int .i64 c1,.slice a L.length cap]) (hbf:Boxed W Bf 2 (.int .i64 frm)) (h0:J [] W) :
  CallsIn F n Tryz.prog 413 #[.func (.yield l) #[] #[],.pointer (some ⟨Bb,0,none⟩),.pointer (some ⟨Bf,0,none⟩)] W fun e W'=>(∃v,e=.returned v) /\
   ((∃ys,ys=L.filter (fun e=>decide (frm<=e.Index))/\J ys W')\/(∃pre,True/\Jx pre W')):=by
 refine callsIn_of_wp Tryz.func413 rfl hf ?_ hro
 simp only[Tryz.ntmps413,List.size_toArray,List.length_cons,List.length_nil,Nat.reduceAdd,Nat.reduceSub,Array.replicate_succ,Array.replicate_zero,List.push_toArray,List.append_toArray,List.nil_append,List.cons_append]
 have hcs:=hb.cell 2
 unfold maxLen at hm
 gi_wp2
 clear hcs
 gi_loopw [9] (fun i wr=>∃k:Nat,k<=L.length/\i=.int .i64 k/\J ((L.take k).filter (fun e=>decide (frm<=e.Index))) wr/\Ext w0 wr/\Boxed wr Bf 2 (.int .i64 frm)/\W.heap.size<=wr.heap.size) (fun i _=>L.length - (intOf i).toNat)
 case atStart=>exact⟨0,Nat.zero_le _,rfl,h0,hW,hbf,Nat.le_refl _⟩
 case round =>
  obtain⟨k,hk,rfl,hJs,he,hF,hz⟩:=hrel
  by_cases hlt:k<L.length
  .
   obtain⟨d,b,off,hd,rfl,hb1,hcell⟩:=HA.out k hlt
   have d0:=he.cell (hcell 0 _ dC rfl)
   have d1:=he.cell (hcell 1 _ dC rfl)
   have d2:=he.cell (hcell 2 _ dC rfl)
   have d3:=he.cell (hcell 3 _ dC rfl)
   have d4:=he.cell (hcell 4 _ dC rfl)
   have d5:=he.cell (hcell 5 _ dC rfl)
   have d6:=he.cell (hcell 6 _ dC rfl)
   have d7:=he.cell (hcell 7 _ dC rfl)
   have d8:=he.cell (hcell 8 _ dC rfl)
   simp only[Nat.add_zero] at d0
   clear hcell
   obtain⟨W1,hW1⟩:∃W1,W1=(wr.alloc (.cells #[.int .i64 d.Index,.int .i64 d.Time,.int .i64 d.Client,.int .i64 d.Seq,.int .i64 d.Op.Kind,.int .i64 d.Op.A,.int .i64 d.Op.B,.int .i64 d.Op.C,.int .i64 d.Op.D] 281)):=⟨_,rfl⟩
   have e1:Ext wr W1:=by rw[hW1];exact Aa
   have hF1:W1.cell? ⟨Bf,0,none⟩=some (.int .i64 frm):=e1.cell hF.cell
   have hJ1:=hJ _ _ W1 none hJs e1.grown (fun r e=>by cases e)
   have hlen:((L.take k).filter (fun e=>decide (frm<=e.Index))).length<L.length:=Nat.lt_of_le_of_lt (List.length_filter_le _ _) (by rw[List.length_take];omega)
   obtain⟨fn,tmps,assign,body,hy,hR⟩:=hY _ d W1 hJ1 hlen
   simp only[tL] at hy
   have hcF:=hF.cell;have hlF:=hF.lt
   have HD:=Lib.hid hd
   clear hd
   subst hW1
   by_cases hfr:frm<=d.Index
   .
    have hnx:(L.take (k+1)).filter (fun e=>decide (frm<=e.Index))=(L.take k).filter (fun e=>decide (frm<=e.Index))++[d]:=by
     rw[Tw HD.out];simp[hfr]
    have HN:=Lib.hid hnx
    clear hnx
    gi_wp2
    refine hR.mono ?_
    rintro e W3 (⟨rfl,hJ3,hk3⟩|⟨rfl,hJx3⟩)
    .
     have hF3:=hk3.2 _ (show Boxed _ Bf _ _ from Blk.ext hF e1)
     have hz3:=hk3.1.size
     simp only[World.size_alloc] at hz3
     gi_wp2
     go_roundw
     case rel=>exact⟨k+1,by omega,by go_num,by rw[HN.out];exact hJ3,(show Ext w0 W3 from Below.trans (show Below w0.heap.size w0 _ from he.trans e1) hk3.1),hF3,by omega⟩
     case measure=>simp[intOf];omega
    gi_wp2
    refine bodyPost_ret (results_none rfl _ _ _) rfl ?_
    exact⟨⟨_,rfl⟩,.inr ⟨_,trivial,hJx3⟩⟩
   have hnx:(L.take (k+1)).filter (fun e=>decide (frm<=e.Index))=(L.take k).filter (fun e=>decide (frm<=e.Index)):=by
    rw[Tw HD.out];simp[hfr]
   have HN:=Lib.hid hnx
   clear hnx
   gi_wp2
   refine⟨fun _ h=>(by cases h),?_⟩
   gi_wp2
   go_roundw
   case rel=>exact⟨k+1,by omega,by go_num,by rw[HN.out];exact hJ1,he.trans e1,Blk.ext hF e1,by have:=e1.size;omega⟩
   case measure=>simp[intOf];omega
  obtain rfl:k=L.length:=by omega
  gi_wp2
  go_end0
  exact⟨⟨_,rfl⟩,.inl ⟨_,by rw[List.take_length],hJs⟩⟩
theorem aM(F:Fence)(n:Nat)(hf:F.fn 365)(hro:F.round=none)(c0 c1:Int)(s:Value)(frm:Int)(w:World):CallsIn F n Tryz.prog 365 #[.agg #[.int .i64 c0,.int .i64 c1,s],.int .i64 frm] w fun e w'=>e=.returned (.func (.func 413) #[] #[.pointer (some ⟨w.heap.size,0,none⟩),.pointer (some ⟨w.heap.size+1,0,none⟩)])/\w'=(w.alloc (.cells #[.int .i64 c0,.int .i64 c1,s] 78)).alloc (.cells #[.int .i64 frm] 2):=by
 refine callsIn_of_wp Tryz.func365 rfl hf ?_ hro
 simp only[Tryz.ntmps365,List.size_toArray,List.length_cons,List.length_nil,Nat.reduceAdd,Nat.reduceSub,Array.replicate_succ,Array.replicate_zero,List.push_toArray,List.append_toArray,List.nil_append,List.cons_append]
 gi_wp2
 go_ret
 exact⟨rfl,rfl⟩
def IoE(w W0:World)(Bo Bf:Nat)(f:Int)(pre:List Aq)(W:World):Prop:=((∃v,Boxed W Bo 79 v/\W.ownsRow w.heap.size 284 4 v pre.length ((Np (pre.map Lp)).map (.int .i64))/\True)/\Boxed W Bf 2 (.int .i64 f))/\Below w.heap.size W0 W
theorem IoE.own{w W0:World}{Bo Bf:Nat}{f:Int}{B:Nat}(h0:w.heap.size<=W0.heap.size)(hB:w.heap.size<=B):OwnFrom B (IoE w W0 Bo Bf f) :=
 OwnFrom.and (OwnFrom.and (Go.Own.from (holdsRow_own w.heap.size Bo 79 284 4 (fun pre:List Aq=>pre.length) (fun pre=>(Np (pre.map Lp)).map (Value.int .i64)) (fun _ _=>True)) _) (Go.Own.from (boxed_own _ _ (fun _=>Value.int .i64 f)) _)) (ownFrom_below h0 hB)
theorem IoE.ext{w W0:World}{Bo Bf:Nat}{f:Int}{pre:List Aq}{W W':World}(h:IoE w W0 Bo Bf f pre W)(e:Ext W W')(h0:w.heap.size<=W0.heap.size):IoE w W0 Bo Bf f pre W':=by
 obtain⟨⟨⟨v,h1,h2,h3⟩,h4⟩,h5⟩:=h
 exact⟨⟨⟨v,Blk.ext h1 e,h2.kept e.grown (by cases hv:v.ownBlock <;> simp),h3⟩,Blk.ext h4 e⟩,h5.trans (Below.mono e (Nat.le_trans h0 h5.size))⟩
theorem nY:(Tryz.prog.info? 284).map (fun i=>(i.zero,i.size,i.bytes))=some (some (.agg #[.int .i64 0,.int .i64 0,.int .i64 0,.int .i64 0]),4,32):=by kernel_rfl
theorem vA(w:World)(Ae Ax:Int)(Fy:Value)(Ao:List Aq)(x:Int)(Ek:Aj 9 w Fy (Ds Ao))(e0:Ao.length<=20)(e1:-1<=x/\x<=2000):Calls Tryz.prog 287 #[.agg #[.int .i64 Ae,.int .i64 Ax,Fy],.int .i64 x] w (Ret w fun r w'=>Aj 4 w' r (Np ((mM (⟨Ae,Ax,Ao⟩:Df) (x+1)).map Lp))):=by
 obtain⟨a2,cap2,rfl,hcap2,hm2,ha2⟩:=Ek.recs (f:=Aq.ints) (fun _=>rfl) dC
 have HA:=Lib.hid ha2
 clear ha2 Ek
 obtain⟨i0,hi,hz0,hz1,hz2⟩:=info_parts nY
 have hmx:Tryz.prog.follows .mixedOrders=true:=by kernel_rfl
 have hx1:IntKind.i64.wrap (x+1)=x+1:=by rw[IntKind.wrap_i64] <;> omega
 refine(callsIn_wide (n:=5)).1 ?_
 refine callsIn_of_wp_marks Tryz.func287 rfl trivial ?_ rfl
 simp only[Tryz.ntmps287,List.size_toArray,List.length_cons,List.length_nil,Nat.reduceAdd,Nat.reduceSub,Array.replicate_succ,Array.replicate_zero,List.push_toArray,List.append_toArray,List.nil_append,List.cons_append]
 gi_wp2_with (refine⟨trivial,?_⟩;gi_at_call 365;refine(aM Fence.wide 4 trivial rfl _ _ _ _ _).mono ?_;rintro e w' ⟨rfl,rfl⟩)
 obtain⟨W0,hW0⟩:∃W0,W0=((((w.alloc (.cells #[.int .i64 Ae,.int .i64 Ax,.slice a2 Ao.length cap2] 78)).alloc (.cells #[] 284)).alloc (.cells #[.slice (some ⟨w.heap.size+1,0,none⟩) 0 0] 79)).alloc (.cells #[.int .i64 Ae,.int .i64 Ax,.slice a2 Ao.length cap2] 78)).alloc (.cells #[.int .i64 (x+1)] 2):=⟨_,rfl⟩
 have hB0:Ext w W0:=by rw[hW0];exact Aa
 have hsz:W0.heap.size=w.heap.size+5:=by rw[hW0];simp
 have bO:Boxed W0 (w.heap.size+1+1) 79 (.slice (some ⟨w.heap.size+1,0,none⟩) 0 0):=by
  rw[hW0]
  exact((show Boxed _ (w.heap.size+1+1) _ _ from Blk.new3 _ _ _ _ _).alloc _).alloc _
 have bN:Blk W0 (w.heap.size+1) 284 #[]:=by
  rw[hW0]
  exact(((Blk.new2 _ _ _ _).alloc _).alloc _).alloc _
 have bK:Blk W0 (w.heap.size+1+1+1) 78 #[.int .i64 Ae,.int .i64 Ax,.slice a2 Ao.length cap2]:=by
  rw[hW0]
  exact(Blk.new4 _ _ _ _ _ _).alloc _
 have bF:Boxed W0 (w.heap.size+1+1+1+1) 2 (.int .i64 (x+1)):=by
  rw[hW0]
  exact Blk.new5 _ _ _ _ _ _ _
 have r0:W0.ownsRow w.heap.size 284 4 (.slice (some ⟨w.heap.size+1,0,none⟩) 0 0) 0 []:=⟨rfl,.inr ⟨w.heap.size+1,0,#[],rfl,by omega,bN,Nat.le_refl _,by decide,rfl,rfl⟩⟩
 (try simp only[World.size_alloc])
 rw[<-hW0]
 clear hW0
 refine wpIn_rangeFunc_ownH (F:=Fence.wide) rfl oM (gf:=413) (lb:=#[.pointer (some ⟨w.heap.size+1+1+1,0,none⟩),.pointer (some ⟨w.heap.size+1+1+1+1,0,none⟩)]) rfl trivial (enters_of Tryz.func413 (by kernel_rfl) rfl)
  (encs:=fun d=>#[tL d]) (Kp:=KpE w.heap.size (w.heap.size+1+1+1+1)) (S:=fun ys=>ys=Ao.filter (fun e=>decide (x+1<=e.Index))) (Sp:=fun _=>True) (N:=Ao.length) (w0:=W0)
  (fun l J Jx W hW hJ _ hY h0=>qM Fence.wide _ trivial rfl oM l _ _ w (x+1) Ae Ax a2 cap2 Ao hcap2 hm2 HA J Jx W hJ hY (hB0.trans hW) (bK.ext hW) (show Boxed W _ _ _ from Blk.ext bF hW) h0)
  KpE.t (fun W l o o' h1 h2 h3 h4=>⟨belowK_b oM W l o o' h1 h2 h3 h4,fun u hu=>hu.kept (grownBy_putObj' W l o') (fun e=>by cases e;rw[show W.heap[_]?=_ from hu] at h2;cases h2;cases h3)⟩) (Below.refl _ _) (fun _=>rfl)
  (IoE w W0 (w.heap.size+1+1) (w.heap.size+1+1+1+1) (x+1)) (fun _ _ _=>False)
  (IoE.own oM oM) (fun _ _ _ _ _ hs _ _=>hs)
  ⟨⟨⟨_,bO,r0,trivial⟩,bF⟩,Below.refl _ _⟩
  (fun y a' W=>∃Bx,W0.heap.size<=Bx/\Blk W Bx 281 #[.int .i64 y.Index,.int .i64 y.Time,.int .i64 y.Client,.int .i64 y.Seq,.int .i64 y.Op.Kind,.int .i64 y.Op.A,.int .i64 y.Op.B,.int .i64 y.Op.C,.int .i64 y.Op.D]/\a'={ tmps:=#[.agg #[.int .i64 Ae,.int .i64 Ax,.slice a2 Ao.length cap2],.int .i64 x,.pointer (some ⟨w.heap.size,0,none⟩),undef,.slice none 0 0,.pointer (some ⟨w.heap.size+1+1,0,none⟩),.pointer (some ⟨Bx,0,none⟩),.slice (some ⟨w.heap.size+1,0,none⟩) 0 0,.agg #[.int .i64 Ae,.int .i64 Ax,.slice a2 Ao.length cap2],.int .i64 x,.int .i64 (x+1),.func (.func 413) #[] #[.pointer (some ⟨w.heap.size+1+1+1,0,none⟩),.pointer (some ⟨w.heap.size+1+1+1+1,0,none⟩)],.agg #[.int .i64 y.Index,.int .i64 y.Time,.int .i64 y.Client,.int .i64 y.Seq,.int .i64 y.Op.Kind,.int .i64 y.Op.A,.int .i64 y.Op.B,.int .i64 y.Op.C,.int .i64 y.Op.D],undef,undef,undef,undef,undef,undef],defers:=[] })
  (fun y a' _ X Y row hs hg hr=>by obtain⟨Bx,h1,h2,h3⟩:=hs;exact⟨Bx,h1,h2.grown hg (fun e'=>by obtain⟨_,o,ho,hc⟩:=hr Bx e'.symm;rw[show X.heap[Bx]?=_ from h2] at ho;cases ho;cases hc),h3⟩)
  ?assign ?body ?done ?stop
 case assign =>
  rintro l pre y W K hi' hK
  simp only[tL]
  gi_wp2
  have hsW:W0.heap.size<=W.heap.size:=hi'.2.size
  have e1:Ext W (W.alloc (.cells #[.int .i64 y.Index,.int .i64 y.Time,.int .i64 y.Client,.int .i64 y.Seq,.int .i64 y.Op.Kind,.int .i64 y.Op.A,.int .i64 y.Op.B,.int .i64 y.Op.C,.int .i64 y.Op.D] 281)):=by exact Aa
  exact hK _ _ (e1.others.from _) ⟨Below.mono e1 oM,fun u hu=>Blk.ext hu e1⟩ (hi'.ext e1 oM) ⟨W.heap.size,hsW,Blk.new _ _ _,rfl⟩
 case body =>
  rintro l pre y a' W hl⟨r,hr⟩ hi'⟨Bx,hBx,bX,rfl⟩ hlt
  obtain⟨⟨⟨v,hv,hrow,-⟩,bF1⟩,hB⟩:=hi'
  have hc:=hv.cell;have hcl:=hv.lt
  have cX:=bX.cell;have cXl:=bX.lt
  have hsW:=hB.size
  gi_wp2
  refine wpIn_region_any hmx ?_
  change wpAnyIn _ _ _ _ _ _ _ _ _ (World.drew _)
  refine wpAnyIn_ready (rs:=[0,1]) (by kernel_rfl) (by simp) ?_
  refine AllReadyIn.cons rfl (fun K hK=>?_) (AllReadyIn.cons rfl (fun K hK=>?_) AllReadyIn.nil)
  .
   go_simp
   refine hK _ _ ?_
   clear hK K
   refine wpAnyIn_ready (rs:=[1]) (by kernel_rfl) (by simp) ?_
   refine AllReadyIn.cons rfl (fun K hK=>?_) AllReadyIn.nil
   go_simp
   refine hK _ _ ?_
   clear hK K
   refine wpAnyIn_ready (rs:=[2]) (by kernel_rfl) (by simp) ?_
   refine AllReadyIn.cons rfl (fun K hK=>?_) AllReadyIn.nil
   go_simp
   refine⟨trivial,?_⟩
   gi_at_call 366
   refine(CallsIn.inRound l (callsIn_wide.2 (fF _ y))).mono ?_
   rintro e w1⟨rfl,hx9⟩
   have e9:Ext W w1:=(Ext.drew (Ext.refl _)).trans hx9
   have hv1:=(show Boxed w1 _ _ _ from Blk.ext hv e9)
   have hc1:=hv1.cell;have hcl1:=hv1.lt;have hz9:=e9.size
   have hrow1:w1.ownsRow w.heap.size 284 4 v pre.length _:=hrow.kept e9.grown (by cases hv:v.ownBlock <;> simp)
   refine hK _ _ ?_
   clear hK K
   refine wpAnyIn_ready (rs:=[3]) (by kernel_rfl) (by simp) ?_
   refine AllReadyIn.cons rfl (fun K hK=>?_) AllReadyIn.nil
   go_simp
   refine hK _ _ ?_
   clear hK K
   refine wpAnyIn_ready (rs:=[4]) (by kernel_rfl) (by simp) ?_
   refine AllReadyIn.cons rfl (fun K hK=>?_) AllReadyIn.nil
   rw[if_pos (by rfl)]
   refine Lm _ _ _ 79 rfl w.heap.size 284 i0 _ 4 32 Tryz.underlying79 hi hz0 hz1 hz2 rfl dC v pre.length _ rfl (hrow1.kept (World.grownBy_alloc w1 _ none) (by cases hv:v.ownBlock <;> simp)) ⟨w1.heap.size,0,none⟩ 1 1 [.int .i64 (Lp y).Client,.int .i64 (Lp y).Seq,.int .i64 (Lp y).Index,.int .i64 (Lp y).Last] rfl rfl (fun j u hu=>by rw[Jz,Nat.zero_add,(Blk.new w1 _ _).cell j];simpa using hu) (by simp[Value.oneCell']) (by unfold maxLen;omega) oM (by simp;omega) ?_
   intro v' w2 hown' hgrow
   obtain⟨g',cap',rfl⟩:=ownsRow_succ hown'
   obtain⟨hv2,hv3,hr3,hk3,hb3⟩:=hv1.appended dC hrow1 oM oM hown' hgrow
   have hc2:=hv2.cell;have hf2:=hv2.frozen
   refine hK _ _ ?_
   clear hK K
   refine wpAnyIn_ready (rs:=[5]) (by kernel_rfl) (by simp) ?_
   refine AllReadyIn.cons rfl (fun K hK=>?_) AllReadyIn.nil
   go_simp
   refine hK _ _ ?_
   clear hK K
   refine wpAnyIn_done (by kernel_rfl) ?_ _
   gi_wp2
   have hFF:∀u,Boxed W (w.heap.size+1+1+1+1) 2 u->Boxed (w2.setCell ⟨w.heap.size+1+1,0,none⟩ (.slice (some ⟨g',0,none⟩) (pre.length+1) cap')) (w.heap.size+1+1+1+1) 2 u:=fun u hu=>(((show Boxed w1 _ _ u from Blk.ext hu e9).alloc _).kept hgrow (Boxed.not_row (show Boxed w1 _ _ u from Blk.ext hu e9) dC hrow1)).other oM _
   have hBB:Below w.heap.size W (w2.setCell ⟨w.heap.size+1+1,0,none⟩ (.slice (some ⟨g',0,none⟩) (pre.length+1) cap')):=(Below.mono e9 oM).trans hb3
   exact⟨(e9.others.trans hk3).from _,⟨hBB,hFF⟩,⟨⟨⟨_,hv3,by rw[List.map_append,List.map_singleton,Uo,List.map_append,List.length_append];exact hr3,trivial⟩,hFF _ bF1⟩,hB.trans hBB⟩⟩
  go_simp
  refine hK _ _ ?_
  clear hK K
  refine wpAnyIn_ready (rs:=[0,2]) (by kernel_rfl) (by simp) ?_
  refine AllReadyIn.cons rfl (fun K hK=>?_) (AllReadyIn.cons rfl (fun K hK=>?_) AllReadyIn.nil)
  .
   go_simp
   refine hK _ _ ?_
   clear hK K
   refine wpAnyIn_ready (rs:=[2]) (by kernel_rfl) (by simp) ?_
   refine AllReadyIn.cons rfl (fun K hK=>?_) AllReadyIn.nil
   go_simp
   refine⟨trivial,?_⟩
   gi_at_call 366
   refine(CallsIn.inRound l (callsIn_wide.2 (fF _ y))).mono ?_
   rintro e w1⟨rfl,hx9⟩
   have e9:Ext W w1:=(Ext.drew (Ext.refl _)).trans hx9
   have hv1:=(show Boxed w1 _ _ _ from Blk.ext hv e9)
   have hc1:=hv1.cell;have hcl1:=hv1.lt;have hz9:=e9.size
   have hrow1:w1.ownsRow w.heap.size 284 4 v pre.length _:=hrow.kept e9.grown (by cases hv:v.ownBlock <;> simp)
   refine hK _ _ ?_
   clear hK K
   refine wpAnyIn_ready (rs:=[3]) (by kernel_rfl) (by simp) ?_
   refine AllReadyIn.cons rfl (fun K hK=>?_) AllReadyIn.nil
   go_simp
   refine hK _ _ ?_
   clear hK K
   refine wpAnyIn_ready (rs:=[4]) (by kernel_rfl) (by simp) ?_
   refine AllReadyIn.cons rfl (fun K hK=>?_) AllReadyIn.nil
   rw[if_pos (by rfl)]
   refine Lm _ _ _ 79 rfl w.heap.size 284 i0 _ 4 32 Tryz.underlying79 hi hz0 hz1 hz2 rfl dC v pre.length _ rfl (hrow1.kept (World.grownBy_alloc w1 _ none) (by cases hv:v.ownBlock <;> simp)) ⟨w1.heap.size,0,none⟩ 1 1 [.int .i64 (Lp y).Client,.int .i64 (Lp y).Seq,.int .i64 (Lp y).Index,.int .i64 (Lp y).Last] rfl rfl (fun j u hu=>by rw[Jz,Nat.zero_add,(Blk.new w1 _ _).cell j];simpa using hu) (by simp[Value.oneCell']) (by unfold maxLen;omega) oM (by simp;omega) ?_
   intro v' w2 hown' hgrow
   obtain⟨g',cap',rfl⟩:=ownsRow_succ hown'
   obtain⟨hv2,hv3,hr3,hk3,hb3⟩:=hv1.appended dC hrow1 oM oM hown' hgrow
   have hc2:=hv2.cell;have hf2:=hv2.frozen
   refine hK _ _ ?_
   clear hK K
   refine wpAnyIn_ready (rs:=[5]) (by kernel_rfl) (by simp) ?_
   refine AllReadyIn.cons rfl (fun K hK=>?_) AllReadyIn.nil
   go_simp
   refine hK _ _ ?_
   clear hK K
   refine wpAnyIn_done (by kernel_rfl) ?_ _
   gi_wp2
   have hFF:∀u,Boxed W (w.heap.size+1+1+1+1) 2 u->Boxed (w2.setCell ⟨w.heap.size+1+1,0,none⟩ (.slice (some ⟨g',0,none⟩) (pre.length+1) cap')) (w.heap.size+1+1+1+1) 2 u:=fun u hu=>(((show Boxed w1 _ _ u from Blk.ext hu e9).alloc _).kept hgrow (Boxed.not_row (show Boxed w1 _ _ u from Blk.ext hu e9) dC hrow1)).other oM _
   have hBB:Below w.heap.size W (w2.setCell ⟨w.heap.size+1+1,0,none⟩ (.slice (some ⟨g',0,none⟩) (pre.length+1) cap')):=(Below.mono e9 oM).trans hb3
   exact⟨(e9.others.trans hk3).from _,⟨hBB,hFF⟩,⟨⟨⟨_,hv3,by rw[List.map_append,List.map_singleton,Uo,List.map_append,List.length_append];exact hr3,trivial⟩,hFF _ bF1⟩,hB.trans hBB⟩⟩
  go_simp
  refine⟨trivial,?_⟩
  gi_at_call 366
  refine(CallsIn.inRound l (callsIn_wide.2 (fF _ y))).mono ?_
  rintro e w1⟨rfl,hx9⟩
  have e9:Ext W w1:=(Ext.drew (Ext.refl _)).trans hx9
  have hv1:=(show Boxed w1 _ _ _ from Blk.ext hv e9)
  have hc1:=hv1.cell;have hcl1:=hv1.lt;have hz9:=e9.size
  have hrow1:w1.ownsRow w.heap.size 284 4 v pre.length _:=hrow.kept e9.grown (by cases hv:v.ownBlock <;> simp)
  refine hK _ _ ?_
  clear hK K
  refine wpAnyIn_ready (rs:=[0,3]) (by kernel_rfl) (by simp) ?_
  refine AllReadyIn.cons rfl (fun K hK=>?_) (AllReadyIn.cons rfl (fun K hK=>?_) AllReadyIn.nil)
  .
   go_simp
   refine hK _ _ ?_
   clear hK K
   refine wpAnyIn_ready (rs:=[3]) (by kernel_rfl) (by simp) ?_
   refine AllReadyIn.cons rfl (fun K hK=>?_) AllReadyIn.nil
   go_simp
   refine hK _ _ ?_
   clear hK K
   refine wpAnyIn_ready (rs:=[4]) (by kernel_rfl) (by simp) ?_
   refine AllReadyIn.cons rfl (fun K hK=>?_) AllReadyIn.nil
   rw[if_pos (by rfl)]
   refine Lm _ _ _ 79 rfl w.heap.size 284 i0 _ 4 32 Tryz.underlying79 hi hz0 hz1 hz2 rfl dC v pre.length _ rfl (hrow1.kept (World.grownBy_alloc w1 _ none) (by cases hv:v.ownBlock <;> simp)) ⟨w1.heap.size,0,none⟩ 1 1 [.int .i64 (Lp y).Client,.int .i64 (Lp y).Seq,.int .i64 (Lp y).Index,.int .i64 (Lp y).Last] rfl rfl (fun j u hu=>by rw[Jz,Nat.zero_add,(Blk.new w1 _ _).cell j];simpa using hu) (by simp[Value.oneCell']) (by unfold maxLen;omega) oM (by simp;omega) ?_
   intro v' w2 hown' hgrow
   obtain⟨g',cap',rfl⟩:=ownsRow_succ hown'
   obtain⟨hv2,hv3,hr3,hk3,hb3⟩:=hv1.appended dC hrow1 oM oM hown' hgrow
   have hc2:=hv2.cell;have hf2:=hv2.frozen
   refine hK _ _ ?_
   clear hK K
   refine wpAnyIn_ready (rs:=[5]) (by kernel_rfl) (by simp) ?_
   refine AllReadyIn.cons rfl (fun K hK=>?_) AllReadyIn.nil
   go_simp
   refine hK _ _ ?_
   clear hK K
   refine wpAnyIn_done (by kernel_rfl) ?_ _
   gi_wp2
   have hFF:∀u,Boxed W (w.heap.size+1+1+1+1) 2 u->Boxed (w2.setCell ⟨w.heap.size+1+1,0,none⟩ (.slice (some ⟨g',0,none⟩) (pre.length+1) cap')) (w.heap.size+1+1+1+1) 2 u:=fun u hu=>(((show Boxed w1 _ _ u from Blk.ext hu e9).alloc _).kept hgrow (Boxed.not_row (show Boxed w1 _ _ u from Blk.ext hu e9) dC hrow1)).other oM _
   have hBB:Below w.heap.size W (w2.setCell ⟨w.heap.size+1+1,0,none⟩ (.slice (some ⟨g',0,none⟩) (pre.length+1) cap')):=(Below.mono e9 oM).trans hb3
   exact⟨(e9.others.trans hk3).from _,⟨hBB,hFF⟩,⟨⟨⟨_,hv3,by rw[List.map_append,List.map_singleton,Uo,List.map_append,List.length_append];exact hr3,trivial⟩,hFF _ bF1⟩,hB.trans hBB⟩⟩
  go_simp
  refine hK _ _ ?_
  clear hK K
  refine wpAnyIn_ready (rs:=[0]) (by kernel_rfl) (by simp) ?_
  refine AllReadyIn.cons rfl (fun K hK=>?_) AllReadyIn.nil
  go_simp
  refine hK _ _ ?_
  clear hK K
  refine wpAnyIn_ready (rs:=[4]) (by kernel_rfl) (by simp) ?_
  refine AllReadyIn.cons rfl (fun K hK=>?_) AllReadyIn.nil
  rw[if_pos (by rfl)]
  refine Lm _ _ _ 79 rfl w.heap.size 284 i0 _ 4 32 Tryz.underlying79 hi hz0 hz1 hz2 rfl dC v pre.length _ rfl (hrow1.kept (World.grownBy_alloc w1 _ none) (by cases hv:v.ownBlock <;> simp)) ⟨w1.heap.size,0,none⟩ 1 1 [.int .i64 (Lp y).Client,.int .i64 (Lp y).Seq,.int .i64 (Lp y).Index,.int .i64 (Lp y).Last] rfl rfl (fun j u hu=>by rw[Jz,Nat.zero_add,(Blk.new w1 _ _).cell j];simpa using hu) (by simp[Value.oneCell']) (by unfold maxLen;omega) oM (by simp;omega) ?_
  intro v' w2 hown' hgrow
  obtain⟨g',cap',rfl⟩:=ownsRow_succ hown'
  obtain⟨hv2,hv3,hr3,hk3,hb3⟩:=hv1.appended dC hrow1 oM oM hown' hgrow
  have hc2:=hv2.cell;have hf2:=hv2.frozen
  refine hK _ _ ?_
  clear hK K
  refine wpAnyIn_ready (rs:=[5]) (by kernel_rfl) (by simp) ?_
  refine AllReadyIn.cons rfl (fun K hK=>?_) AllReadyIn.nil
  go_simp
  refine hK _ _ ?_
  clear hK K
  refine wpAnyIn_done (by kernel_rfl) ?_ _
  gi_wp2
  have hFF:∀u,Boxed W (w.heap.size+1+1+1+1) 2 u->Boxed (w2.setCell ⟨w.heap.size+1+1,0,none⟩ (.slice (some ⟨g',0,none⟩) (pre.length+1) cap')) (w.heap.size+1+1+1+1) 2 u:=fun u hu=>(((show Boxed w1 _ _ u from Blk.ext hu e9).alloc _).kept hgrow (Boxed.not_row (show Boxed w1 _ _ u from Blk.ext hu e9) dC hrow1)).other oM _
  have hBB:Below w.heap.size W (w2.setCell ⟨w.heap.size+1+1,0,none⟩ (.slice (some ⟨g',0,none⟩) (pre.length+1) cap')):=(Below.mono e9 oM).trans hb3
  exact⟨(e9.others.trans hk3).from _,⟨hBB,hFF⟩,⟨⟨⟨_,hv3,by rw[List.map_append,List.map_singleton,Uo,List.map_append,List.length_append];exact hr3,trivial⟩,hFF _ bF1⟩,hB.trans hBB⟩⟩
 case done =>
  rintro D ys W hD rfl⟨⟨⟨v,hv,hrow,-⟩,bF1⟩,hB⟩ hK
  have hc:=hv.cell
  gi_wp2
  refine⟨by simp,.inl ⟨_,_,rfl,run_takeDeferred hK,?_⟩⟩
  refine⟨_,results_tmp rfl _ _ _,v,rfl,?_,?_⟩
  .
   exact(show Below w.heap.size w _ from hB0).trans (hB.trans (belowK_b (w:=w) (Nat.le_refl _) W D _ _ oM hK rfl rfl))
  exact Af.ints (show Af w.heap.size 284 4 _ v _ from⟨_,ownsRow_putObj hrow _ hK rfl⟩)
 case stop =>
  rintro D c pre W _ _ h _
  exact h.elim
theorem iW(w:World)(v u:Value)(l m:List Is)(h:Aj 4 w v (Np l))(k:Aj 4 w u (Np m)):Calls Tryz.prog 286 #[v,u] w (Cp w (.bool (eqB l m))):=by
 obtain⟨a,c,rfl,hc,hm,ha⟩:=h.recs (f:=Is.ints) (fun _=>rfl) dC
 obtain⟨b,d,rfl,hd,hn,hb⟩:=k.recs (f:=Is.ints) (fun _=>rfl) dC
 have HA:=Lib.hid ha;have HB:=Lib.hid hb
 clear ha hb h k
 unfold maxLen at hm hn
 by_cases hl:l.length=m.length
 rotate_left
 .
  have hD:eqB l m=false:=Au (fun e=>hl (by rw[e]))
  have hb1:((l.length:Int) == (m.length:Int))=false:=by simp;omega
  have hb2:decide ((l.length:Int)=(m.length:Int))=false:=by simp;omega
  have hb3:decide (l.length=m.length)=false:=by simpa using hl
  have HD:=Lib.hid hD
  clear hl hD
  go_enter Tryz.func286,Tryz.ntmps286
  go_wp2
  go_ret
  exact⟨by rw[HD.out];try rfl,by exact Aa⟩
 obtain⟨N,hN⟩:∃N,N=m.length:=⟨_,rfl⟩
 rw[<-hN] at hl HB hd ⊢
 rw[hl] at HA hc ⊢
 have HL:=Lib.hid hl;have HN:=Lib.hid hN
 clear hl hN
 go_enter Tryz.func286,Tryz.ntmps286
 go_wp2_with fail
 go_loopw [13] (fun i wr=>∃k:Nat,k<=N/\i=.int .i64 k/\Ext w wr/\Hid (l.take k=m.take k)) (fun i _=>N - (intOf i).toNat)
 case atStart=>exact⟨0,Nat.zero_le _,rfl,Ext.refl _,Lib.hid (by simp)⟩
 case round =>
  obtain⟨k,hk,rfl,he,ht⟩:=hrel
  by_cases hlt:k<N
  .
   obtain⟨x,b1,o1,hx,rfl,hb1,c1⟩:=HA.out k hlt
   obtain⟨y,b2,o2,hy,rfl,hb2,c2⟩:=HB.out k hlt
   obtain⟨x0,x1,x2,x3⟩:=x
   obtain⟨y0,y1,y2,y3⟩:=y
   have d0:=he.cell (c1 0 _ dC rfl);have e0:=he.cell (c2 0 _ dC rfl)
   have d1:=he.cell (c1 1 _ dC rfl);have e1:=he.cell (c2 1 _ dC rfl)
   have d2:=he.cell (c1 2 _ dC rfl);have e2:=he.cell (c2 2 _ dC rfl)
   have d3:=he.cell (c1 3 _ dC rfl);have e3:=he.cell (c2 3 _ dC rfl)
   simp only[Nat.add_zero] at d0 e0
   have HX:=Lib.hid hx;have HY:=Lib.hid hy
   clear hx hy c1 c2
   by_cases hne:x0=y0
   rotate_left
   .
    have b1:(x0 == y0)=false:=by simpa using hne
    have b2:decide (x0=y0)=false:=by simpa using hne
    have hD:eqB l m=false:=Au (fun e=>by
     have h1:=HX.out;have h2:=HY.out
     rw[e,h2] at h1
     injection h1 with h1
     simp at h1
     omega)
    have HD:=Lib.hid hD
    clear hD hne
    go_wp2_with fail
    go_quiet (fail)
    go_wp2_with fail
    go_ret
    exact⟨by rw[HD.out];try rfl,by exact Aa⟩
   subst hne
   by_cases hne:x1=y1
   rotate_left
   .
    have b1:(x1 == y1)=false:=by simpa using hne
    have b2:decide (x1=y1)=false:=by simpa using hne
    have hD:eqB l m=false:=Au (fun e=>by
     have h1:=HX.out;have h2:=HY.out
     rw[e,h2] at h1
     injection h1 with h1
     simp at h1
     omega)
    have HD:=Lib.hid hD
    clear hD hne
    go_wp2_with fail
    go_quiet (fail)
    go_wp2_with fail
    go_ret
    exact⟨by rw[HD.out];try rfl,by exact Aa⟩
   subst hne
   by_cases hne:x2=y2
   rotate_left
   .
    have b1:(x2 == y2)=false:=by simpa using hne
    have b2:decide (x2=y2)=false:=by simpa using hne
    have hD:eqB l m=false:=Au (fun e=>by
     have h1:=HX.out;have h2:=HY.out
     rw[e,h2] at h1
     injection h1 with h1
     simp at h1
     omega)
    have HD:=Lib.hid hD
    clear hD hne
    go_wp2_with fail
    go_quiet (fail)
    go_wp2_with fail
    go_ret
    exact⟨by rw[HD.out];try rfl,by exact Aa⟩
   subst hne
   by_cases hne:x3=y3
   rotate_left
   .
    have b1:(x3 == y3)=false:=by simpa using hne
    have b2:decide (x3=y3)=false:=by simpa using hne
    have hD:eqB l m=false:=Au (fun e=>by
     have h1:=HX.out;have h2:=HY.out
     rw[e,h2] at h1
     injection h1 with h1
     simp at h1
     omega)
    have HD:=Lib.hid hD
    clear hD hne
    go_wp2_with fail
    go_quiet (fail)
    go_wp2_with fail
    go_ret
    exact⟨by rw[HD.out];try rfl,by exact Aa⟩
   subst hne
   go_wp2_with fail
   go_quiet (fail)
   go_wp2_with fail
   go_roundw
   case rel=>exact⟨k+1,by omega,by go_num,by exact Aa,Lib.hid (Jc HX.out HY.out ht.out)⟩
   case measure=>simp[intOf];omega
  obtain rfl:k=N:=by omega
  have hD:eqB l m=true:=by
   have h1:=ht.out
   rw[List.take_of_length_le (by rw[HL.out];omega),List.take_of_length_le (by rw[<-HN.out];omega)] at h1
   exact Fc h1
  have HD:=Lib.hid hD
  clear hD
  go_wp2_with fail
  go_ret
  exact⟨by rw[HD.out];try rfl,by exact Aa⟩
theorem vB{p:Prop}(h:p:=by intro KQ hKQ;(repeat (first|go_big_quiet_skip|(go_big_quiet_want;first|(refine Br _ _ _ ?_ rfl rfl (fun wq hq=>?_) ?_;rotate_left;(focus((try have y0:=hq.cell I0);(try have y1:=hq.cell I1);(try have y2:=hq.cell I2);(try have y3:=hq.cell I3);(try have y4:=hq.cell I4);(try have y5:=hq.cell I5);(try have y6:=hq.cell I6);(try have y7:=hq.cell I7);(try have y8:=hq.cell I8);(try have y9:=hq.cell I9);(try have y10:=hq.cell I10);(try have y11:=hq.cell I11);(try have y12:=hq.cell I12);(try have y13:=hq.cell I13);(try have y14:=hq.cell I14);(try have y15:=hq.cell I15);(try have y16:=hq.cell I16);(try have y17:=hq.cell I17);(try have y18:=hq.cell I18);go_simp;first|done|rfl));(try simp only[Ab,Act.put]);go_big_quiet_on)|(go_big_quiet_op;first|go_big_quiet_on|(refine⟨_,fun _ _=>rfl,?_⟩;go_big_quiet_on)|(apply Exists.intro;refine⟨fun wq hq=>?_,?_⟩;(focus(first|(fail)));go_big_quiet_on)))));exact wpQuiet_nil hKQ):p:=h
theorem vC{p:Prop}(h:p:=by intro KQ hKQ;(repeat (first|go_big_quiet_skip|(go_big_quiet_want;first|(refine Br _ _ _ ?_ rfl rfl (fun wq hq=>?_) ?_;rotate_left;(focus((try have y0:=hq.cell I0);(try have y1:=hq.cell I1);(try have y2:=hq.cell I2);(try have y3:=hq.cell I3);(try have y4:=hq.cell I4);(try have y5:=hq.cell I5);(try have y6:=hq.cell I6);(try have y7:=hq.cell I7);(try have y8:=hq.cell I8);(try have y9:=hq.cell I9);(try have y10:=hq.cell I10);(try have y11:=hq.cell I11);(try have y12:=hq.cell I12);(try have y13:=hq.cell I13);(try have y14:=hq.cell I14);(try have y15:=hq.cell I15);(try have y16:=hq.cell I16);(try have y17:=hq.cell I17);(try have y18:=hq.cell I18);go_simp;first|done|rfl));(try simp only[Ab,Act.put]);go_big_quiet_on)|(go_big_quiet_op;first|go_big_quiet_on|(refine⟨_,fun _ _=>rfl,?_⟩;go_big_quiet_on)|(apply Exists.intro;refine⟨fun wq hq=>?_,?_⟩;(focus(first|(fail)|(go_at_call 283;exact Cv hq (by have c:=Qj wq _ _ _ Cq (gs.ext (Ext.trans Aa hq)) (Mi.ext (hE4.trans hq));rw[show eqB ((Dn Dd Bt).getD Dd) Cq=_ from p6] at c;exact c))));go_big_quiet_on)))));exact wpQuiet_nil hKQ):p:=h
theorem qN{p:Prop}(h:p:=by intro KQ hKQ;(repeat (first|go_big_quiet_skip|(go_big_quiet_want;first|(refine Br _ _ _ ?_ rfl rfl (fun wq hq=>?_) ?_;rotate_left;(focus((try have y0:=hq.cell I0);(try have y1:=hq.cell I1);(try have y2:=hq.cell I2);(try have y3:=hq.cell I3);(try have y4:=hq.cell I4);(try have y5:=hq.cell I5);(try have y6:=hq.cell I6);(try have y7:=hq.cell I7);(try have y8:=hq.cell I8);(try have y9:=hq.cell I9);(try have y10:=hq.cell I10);(try have y11:=hq.cell I11);(try have y12:=hq.cell I12);(try have y13:=hq.cell I13);(try have y14:=hq.cell I14);(try have y15:=hq.cell I15);(try have y16:=hq.cell I16);(try have y17:=hq.cell I17);(try have y18:=hq.cell I18);go_simp;first|done|rfl));(try simp only[Ab,Act.put]);go_big_quiet_on)|(go_big_quiet_op;first|go_big_quiet_on|(refine⟨_,fun _ _=>rfl,?_⟩;go_big_quiet_on)|(apply Exists.intro;refine⟨fun wq hq=>?_,?_⟩;(focus(first|(fail)|(go_at_call 283;exact Cv hq (by have c:=Qj wq _ _ _ Cq (gs.ext (Ext.trans Aa hq)) (Mi.ext (hE4.trans hq));rw[show eqB ((Dn Dd Bt).getD Dd) Cq=_ from p6] at c;exact c))|(go_at_call 284;exact Cv hq (iO wq Ay Bc _ Bt (Ht.ext (hE4.trans hq)) HBP.out))|(go_at_call 176;exact Ce hq (by have c:=Cf wq Bn Ay (Mf (⟨Ay,Bc,Bt⟩:Df));rw[p7] at c;exact c))));go_big_quiet_on)))));exact wpQuiet_nil hKQ):p:=h
theorem tM(w:World)(Dl:Value)(Ad:List (List Int))(Fe:Value)(Am:List Eb)(Fy:Value)(Ao:List (List Int))(Iq:Value)(Bm:List Eb)(Bl:Int)(Bp:Int)(Bs:Int)(Qq:Value)(Dd:List Ar)(Co:Int)(Cj:Int)(Bg:Int)(Oz:Value)(Cm:List Ar)(Cn:Bool)(Ay:Int)(Bc:Int)(Pa:Value)(Bt:List Aq)(Pb:Value)(Cq:List Ar)(Bn:Int)(Pd:Value)(Cy:List Is)(Dk:Ck 0 w Dl (Ac Ad))(Ev:Ck 1 w Fe (Ah Am))(Ek:Ck 0 w Fy (Ac Ao))(Gm:Ck 1 w Iq (Ah Bm))(Lx:Aj 3 w Qq (Cz Dd))(Le:Aj 3 w Oz (Cz Cm))(Ht:Aj 9 w Pa (Ds Bt))(Mi:Aj 3 w Pb (Cz Cq))(Pe:Aj 4 w Pd (Np Cy)):Calls Tryz.prog 182 #[.agg #[Dl,Fe,Fy,Iq,.int .i64 Bl,.int .i64 Bp,.int .i64 Bs,Qq,.int .i64 Co,.int .i64 Cj,.int .i64 Bg,Oz,.bool Cn,.int .i64 Ay,.int .i64 Bc,Pa,Pb,.int .i64 Bn,Pd]] w (Cp w (.bool (Gl (⟨⟨⟨Ad,Am⟩,⟨Ao,Bm⟩⟩,⟨Bl,Bp,Bs,Dd⟩,⟨Co,Cj,Bg,Cm⟩,Cn,⟨Ay,Bc,Bt⟩,Cq,Bn,Cy⟩:Ap)))):=by
 obtain⟨a0,n0,k0,rfl⟩:=Dk.shape
 obtain⟨a1,n1,k1,rfl⟩:=Ev.shape
 obtain⟨a2,n2,k2,rfl⟩:=Ek.shape
 obtain⟨a3,n3,k3,rfl⟩:=Gm.shape
 obtain⟨a7,n7,k7,rfl⟩:=Lx.shape
 obtain⟨a11,n11,k11,rfl⟩:=Le.shape
 obtain⟨a15,n15,k15,rfl⟩:=Ht.shape
 obtain⟨a16,n16,k16,rfl⟩:=Mi.shape
 obtain⟨a18,n18,k18,rfl⟩:=Pe.shape
 obtain⟨W0,hW0⟩:∃W0,W0=w.alloc (.cells #[.slice a0 n0 k0,.slice a1 n1 k1,.slice a2 n2 k2,.slice a3 n3 k3,.int .i64 Bl,.int .i64 Bp,.int .i64 Bs,.slice a7 n7 k7,.int .i64 Co,.int .i64 Cj,.int .i64 Bg,.slice a11 n11 k11,.bool Cn,.int .i64 Ay,.int .i64 Bc,.slice a15 n15 k15,.slice a16 n16 k16,.int .i64 Bn,.slice a18 n18 k18] 81):=⟨_,rfl⟩
 have hEw:Ext w W0:=by rw[hW0];exact(Ext.refl _).alloc _
 have KX:Blk W0 w.heap.size 81 #[.slice a0 n0 k0,.slice a1 n1 k1,.slice a2 n2 k2,.slice a3 n3 k3,.int .i64 Bl,.int .i64 Bp,.int .i64 Bs,.slice a7 n7 k7,.int .i64 Co,.int .i64 Cj,.int .i64 Bg,.slice a11 n11 k11,.bool Cn,.int .i64 Ay,.int .i64 Bc,.slice a15 n15 k15,.slice a16 n16 k16,.int .i64 Bn,.slice a18 n18 k18]:=by rw[hW0];exact Blk.new _ _ _
 have hLX:=KX.lt
 have I0:=KX.cell 0;have I1:=KX.cell 1;have I2:=KX.cell 2;have I3:=KX.cell 3;have I4:=KX.cell 4;have I5:=KX.cell 5;have I6:=KX.cell 6;have I7:=KX.cell 7;have I8:=KX.cell 8;have I9:=KX.cell 9;have I10:=KX.cell 10;have I11:=KX.cell 11;have I12:=KX.cell 12;have I13:=KX.cell 13;have I14:=KX.cell 14;have I15:=KX.cell 15;have I16:=KX.cell 16;have I17:=KX.cell 17;have I18:=KX.cell 18
 simp only[List.getElem?_toArray,List.getElem?_cons_zero,List.getElem?_cons_succ] at I0 I1 I2 I3 I4 I5 I6 I7 I8 I9 I10 I11 I12 I13 I14 I15 I16 I17 I18
 have hR:W0.rangeAt w.heap.size 0 ([.slice a0 n0 k0,.slice a1 n1 k1,.slice a2 n2 k2,.slice a3 n3 k3,.int .i64 Bl,.int .i64 Bp,.int .i64 Bs,.slice a7 n7 k7,.int .i64 Co,.int .i64 Cj,.int .i64 Bg,.slice a11 n11 k11,.bool Cn,.int .i64 Ay,.int .i64 Bc,.slice a15 n15 k15,.slice a16 n16 k16,.int .i64 Bn,.slice a18 n18 k18]:List Value):=Bk.range (A:=[]) (cs:=([.slice a0 n0 k0,.slice a1 n1 k1,.slice a2 n2 k2,.slice a3 n3 k3,.int .i64 Bl,.int .i64 Bp,.int .i64 Bs,.slice a7 n7 k7,.int .i64 Co,.int .i64 Cj,.int .i64 Bg,.slice a11 n11 k11,.bool Cn,.int .i64 Ay,.int .i64 Bc,.slice a15 n15 k15,.slice a16 n16 k16,.int .i64 Bn,.slice a18 n18 k18]:List Value)) (C:=[]) (Bk.cast (show Bk W0 w.heap.size 81 ([.slice a0 n0 k0,.slice a1 n1 k1,.slice a2 n2 k2,.slice a3 n3 k3,.int .i64 Bl,.int .i64 Bp,.int .i64 Bs,.slice a7 n7 k7,.int .i64 Co,.int .i64 Cj,.int .i64 Bg,.slice a11 n11 k11,.bool Cn,.int .i64 Ay,.int .i64 Bc,.slice a15 n15 k15,.slice a16 n16 k16,.int .i64 Bn,.slice a18 n18 k18]:List Value) from KX) (by simp)) rfl
 go_enter Tryz.func182,Tryz.ntmps182
 go_upto_region 1 with(fail)
 rw[<-hW0]
 clear hW0 KX
 cases p1:Oc (⟨⟨Ad,Am⟩,⟨Ao,Bm⟩⟩:Jg)
 .
  as_aux_lemma =>
   go_wp2_with (first|(go_at_call 279;refine(Rr _ _ Ad _ Am _ Ao _ Bm (Dk.ext Aa) (Ev.ext Aa) (Ek.ext Aa) (Gm.ext Aa)).mono ?_;rintro e9 w1 ⟨rfl,hx1⟩;rw[p1];have I0:=hx1.cell I0;have I1:=hx1.cell I1;have I2:=hx1.cell I2;have I3:=hx1.cell I3;have I4:=hx1.cell I4;have I5:=hx1.cell I5;have I6:=hx1.cell I6;have I7:=hx1.cell I7;have I8:=hx1.cell I8;have I9:=hx1.cell I9;have I10:=hx1.cell I10;have I11:=hx1.cell I11;have I12:=hx1.cell I12;have I13:=hx1.cell I13;have I14:=hx1.cell I14;have I15:=hx1.cell I15;have I16:=hx1.cell I16;have I17:=hx1.cell I17;have I18:=hx1.cell I18;have hz1:=hx1.size))
   go_ret
   exact⟨by rw[show Gl (⟨⟨⟨Ad,Am⟩,⟨Ao,Bm⟩⟩,⟨Bl,Bp,Bs,Dd⟩,⟨Co,Cj,Bg,Cm⟩,Cn,⟨Ay,Bc,Bt⟩,Cq,Bn,Cy⟩:Ap)=false from by simp[Gl,Jl,p1]];try rfl,by exact Aa⟩
 cases p2:Eh (⟨Bl,Bp,Bs,Dd⟩:Di)
 .
  as_aux_lemma =>
   go_wp2_with (first|(go_at_call 279;refine(Rr _ _ Ad _ Am _ Ao _ Bm (Dk.ext Aa) (Ev.ext Aa) (Ek.ext Aa) (Gm.ext Aa)).mono ?_;rintro e9 w1 ⟨rfl,hx1⟩;rw[p1];have I0:=hx1.cell I0;have I1:=hx1.cell I1;have I2:=hx1.cell I2;have I3:=hx1.cell I3;have I4:=hx1.cell I4;have I5:=hx1.cell I5;have I6:=hx1.cell I6;have I7:=hx1.cell I7;have I8:=hx1.cell I8;have I9:=hx1.cell I9;have I10:=hx1.cell I10;have I11:=hx1.cell I11;have I12:=hx1.cell I12;have I13:=hx1.cell I13;have I14:=hx1.cell I14;have I15:=hx1.cell I15;have I16:=hx1.cell I16;have I17:=hx1.cell I17;have I18:=hx1.cell I18;have hz1:=hx1.size)|(go_at_call 280;refine(Lq _ Bl Bp Bs _ Dd (Lx.ext Aa)).mono ?_;rintro e9 w2 ⟨rfl,hx2⟩;rw[p2];have I0:=hx2.cell I0;have I1:=hx2.cell I1;have I2:=hx2.cell I2;have I3:=hx2.cell I3;have I4:=hx2.cell I4;have I5:=hx2.cell I5;have I6:=hx2.cell I6;have I7:=hx2.cell I7;have I8:=hx2.cell I8;have I9:=hx2.cell I9;have I10:=hx2.cell I10;have I11:=hx2.cell I11;have I12:=hx2.cell I12;have I13:=hx2.cell I13;have I14:=hx2.cell I14;have I15:=hx2.cell I15;have I16:=hx2.cell I16;have I17:=hx2.cell I17;have I18:=hx2.cell I18;have hz2:=hx2.size))
   go_ret
   exact⟨by rw[show Gl (⟨⟨⟨Ad,Am⟩,⟨Ao,Bm⟩⟩,⟨Bl,Bp,Bs,Dd⟩,⟨Co,Cj,Bg,Cm⟩,Cn,⟨Ay,Bc,Bt⟩,Cq,Bn,Cy⟩:Ap)=false from by simp[Gl,Jl,p2]];try rfl,by exact Aa⟩
 cases p3:Er (⟨Ay,Bc,Bt⟩:Df)
 .
  as_aux_lemma =>
   go_wp2_with (first|(go_at_call 279;refine(Rr _ _ Ad _ Am _ Ao _ Bm (Dk.ext Aa) (Ev.ext Aa) (Ek.ext Aa) (Gm.ext Aa)).mono ?_;rintro e9 w1 ⟨rfl,hx1⟩;rw[p1];have I0:=hx1.cell I0;have I1:=hx1.cell I1;have I2:=hx1.cell I2;have I3:=hx1.cell I3;have I4:=hx1.cell I4;have I5:=hx1.cell I5;have I6:=hx1.cell I6;have I7:=hx1.cell I7;have I8:=hx1.cell I8;have I9:=hx1.cell I9;have I10:=hx1.cell I10;have I11:=hx1.cell I11;have I12:=hx1.cell I12;have I13:=hx1.cell I13;have I14:=hx1.cell I14;have I15:=hx1.cell I15;have I16:=hx1.cell I16;have I17:=hx1.cell I17;have I18:=hx1.cell I18;have hz1:=hx1.size)|(go_at_call 280;refine(Lq _ Bl Bp Bs _ Dd (Lx.ext Aa)).mono ?_;rintro e9 w2 ⟨rfl,hx2⟩;rw[p2];have I0:=hx2.cell I0;have I1:=hx2.cell I1;have I2:=hx2.cell I2;have I3:=hx2.cell I3;have I4:=hx2.cell I4;have I5:=hx2.cell I5;have I6:=hx2.cell I6;have I7:=hx2.cell I7;have I8:=hx2.cell I8;have I9:=hx2.cell I9;have I10:=hx2.cell I10;have I11:=hx2.cell I11;have I12:=hx2.cell I12;have I13:=hx2.cell I13;have I14:=hx2.cell I14;have I15:=hx2.cell I15;have I16:=hx2.cell I16;have I17:=hx2.cell I17;have I18:=hx2.cell I18;have hz2:=hx2.size)|(go_at_call 281;refine(Tr _ Ay Bc _ Bt (Ht.ext Aa)).mono ?_;rintro e9 w3 ⟨rfl,hx3⟩;rw[p3];have I0:=hx3.cell I0;have I1:=hx3.cell I1;have I2:=hx3.cell I2;have I3:=hx3.cell I3;have I4:=hx3.cell I4;have I5:=hx3.cell I5;have I6:=hx3.cell I6;have I7:=hx3.cell I7;have I8:=hx3.cell I8;have I9:=hx3.cell I9;have I10:=hx3.cell I10;have I11:=hx3.cell I11;have I12:=hx3.cell I12;have I13:=hx3.cell I13;have I14:=hx3.cell I14;have I15:=hx3.cell I15;have I16:=hx3.cell I16;have I17:=hx3.cell I17;have I18:=hx3.cell I18;have hz3:=hx3.size))
   go_ret
   exact⟨by rw[show Gl (⟨⟨⟨Ad,Am⟩,⟨Ao,Bm⟩⟩,⟨Bl,Bp,Bs,Dd⟩,⟨Co,Cj,Bg,Cm⟩,Cn,⟨Ay,Bc,Bt⟩,Cq,Bn,Cy⟩:Ap)=false from by simp[Gl,Jl,p3]];try rfl,by exact Aa⟩
 by_cases q4:Ay=Bp
 rotate_left
 .
  have b4:(Ay != Bp)=true:=by simpa using q4
  have H4:=Lib.hid q4
  clear q4
  as_aux_lemma =>
   go_wp2_with (first|(go_at_call 279;refine(Rr _ _ Ad _ Am _ Ao _ Bm (Dk.ext Aa) (Ev.ext Aa) (Ek.ext Aa) (Gm.ext Aa)).mono ?_;rintro e9 w1 ⟨rfl,hx1⟩;rw[p1];have I0:=hx1.cell I0;have I1:=hx1.cell I1;have I2:=hx1.cell I2;have I3:=hx1.cell I3;have I4:=hx1.cell I4;have I5:=hx1.cell I5;have I6:=hx1.cell I6;have I7:=hx1.cell I7;have I8:=hx1.cell I8;have I9:=hx1.cell I9;have I10:=hx1.cell I10;have I11:=hx1.cell I11;have I12:=hx1.cell I12;have I13:=hx1.cell I13;have I14:=hx1.cell I14;have I15:=hx1.cell I15;have I16:=hx1.cell I16;have I17:=hx1.cell I17;have I18:=hx1.cell I18;have hz1:=hx1.size)|(go_at_call 280;refine(Lq _ Bl Bp Bs _ Dd (Lx.ext Aa)).mono ?_;rintro e9 w2 ⟨rfl,hx2⟩;rw[p2];have I0:=hx2.cell I0;have I1:=hx2.cell I1;have I2:=hx2.cell I2;have I3:=hx2.cell I3;have I4:=hx2.cell I4;have I5:=hx2.cell I5;have I6:=hx2.cell I6;have I7:=hx2.cell I7;have I8:=hx2.cell I8;have I9:=hx2.cell I9;have I10:=hx2.cell I10;have I11:=hx2.cell I11;have I12:=hx2.cell I12;have I13:=hx2.cell I13;have I14:=hx2.cell I14;have I15:=hx2.cell I15;have I16:=hx2.cell I16;have I17:=hx2.cell I17;have I18:=hx2.cell I18;have hz2:=hx2.size)|(go_at_call 281;refine(Tr _ Ay Bc _ Bt (Ht.ext Aa)).mono ?_;rintro e9 w3 ⟨rfl,hx3⟩;rw[p3];have I0:=hx3.cell I0;have I1:=hx3.cell I1;have I2:=hx3.cell I2;have I3:=hx3.cell I3;have I4:=hx3.cell I4;have I5:=hx3.cell I5;have I6:=hx3.cell I6;have I7:=hx3.cell I7;have I8:=hx3.cell I8;have I9:=hx3.cell I9;have I10:=hx3.cell I10;have I11:=hx3.cell I11;have I12:=hx3.cell I12;have I13:=hx3.cell I13;have I14:=hx3.cell I14;have I15:=hx3.cell I15;have I16:=hx3.cell I16;have I17:=hx3.cell I17;have I18:=hx3.cell I18;have hz3:=hx3.size))
   go_ret
   exact⟨by rw[show Gl (⟨⟨⟨Ad,Am⟩,⟨Ao,Bm⟩⟩,⟨Bl,Bp,Bs,Dd⟩,⟨Co,Cj,Bg,Cm⟩,Cn,⟨Ay,Bc,Bt⟩,Cq,Bn,Cy⟩:Ap)=false from by simp[Gl,Jl,H4.out]];try rfl,by exact Aa⟩
 have b4:(Ay != Bp)=false:=by simpa using q4
 have H4:=Lib.hid q4
 clear q4
 by_cases q5:Bc=Bs
 rotate_left
 .
  have b5:(Bc != Bs)=true:=by simpa using q5
  have H5:=Lib.hid q5
  clear q5
  as_aux_lemma =>
   go_wp2_with (first|(go_at_call 279;refine(Rr _ _ Ad _ Am _ Ao _ Bm (Dk.ext Aa) (Ev.ext Aa) (Ek.ext Aa) (Gm.ext Aa)).mono ?_;rintro e9 w1 ⟨rfl,hx1⟩;rw[p1];have I0:=hx1.cell I0;have I1:=hx1.cell I1;have I2:=hx1.cell I2;have I3:=hx1.cell I3;have I4:=hx1.cell I4;have I5:=hx1.cell I5;have I6:=hx1.cell I6;have I7:=hx1.cell I7;have I8:=hx1.cell I8;have I9:=hx1.cell I9;have I10:=hx1.cell I10;have I11:=hx1.cell I11;have I12:=hx1.cell I12;have I13:=hx1.cell I13;have I14:=hx1.cell I14;have I15:=hx1.cell I15;have I16:=hx1.cell I16;have I17:=hx1.cell I17;have I18:=hx1.cell I18;have hz1:=hx1.size)|(go_at_call 280;refine(Lq _ Bl Bp Bs _ Dd (Lx.ext Aa)).mono ?_;rintro e9 w2 ⟨rfl,hx2⟩;rw[p2];have I0:=hx2.cell I0;have I1:=hx2.cell I1;have I2:=hx2.cell I2;have I3:=hx2.cell I3;have I4:=hx2.cell I4;have I5:=hx2.cell I5;have I6:=hx2.cell I6;have I7:=hx2.cell I7;have I8:=hx2.cell I8;have I9:=hx2.cell I9;have I10:=hx2.cell I10;have I11:=hx2.cell I11;have I12:=hx2.cell I12;have I13:=hx2.cell I13;have I14:=hx2.cell I14;have I15:=hx2.cell I15;have I16:=hx2.cell I16;have I17:=hx2.cell I17;have I18:=hx2.cell I18;have hz2:=hx2.size)|(go_at_call 281;refine(Tr _ Ay Bc _ Bt (Ht.ext Aa)).mono ?_;rintro e9 w3 ⟨rfl,hx3⟩;rw[p3];have I0:=hx3.cell I0;have I1:=hx3.cell I1;have I2:=hx3.cell I2;have I3:=hx3.cell I3;have I4:=hx3.cell I4;have I5:=hx3.cell I5;have I6:=hx3.cell I6;have I7:=hx3.cell I7;have I8:=hx3.cell I8;have I9:=hx3.cell I9;have I10:=hx3.cell I10;have I11:=hx3.cell I11;have I12:=hx3.cell I12;have I13:=hx3.cell I13;have I14:=hx3.cell I14;have I15:=hx3.cell I15;have I16:=hx3.cell I16;have I17:=hx3.cell I17;have I18:=hx3.cell I18;have hz3:=hx3.size))
   go_ret
   exact⟨by rw[show Gl (⟨⟨⟨Ad,Am⟩,⟨Ao,Bm⟩⟩,⟨Bl,Bp,Bs,Dd⟩,⟨Co,Cj,Bg,Cm⟩,Cn,⟨Ay,Bc,Bt⟩,Cq,Bn,Cy⟩:Ap)=false from by simp[Gl,Jl,H5.out]];try rfl,by exact Aa⟩
 have b5:(Bc != Bs)=false:=by simpa using q5
 have H5:=Lib.hid q5
 clear q5
 have hpre:Jl (⟨⟨⟨Ad,Am⟩,⟨Ao,Bm⟩⟩,⟨Bl,Bp,Bs,Dd⟩,⟨Co,Cj,Bg,Cm⟩,Cn,⟨Ay,Bc,Bt⟩,Cq,Bn,Cy⟩:Ap)=true:=by
  simp only[Jl]
  rw[p1,p2,p3,show decide (Ay=Bp)=true by simpa using H4.out,show decide (Bc=Bs)=true by simpa using H5.out]
  rfl
 have HPRE:=Lib.hid hpre
 have HBP:Hid (Qg (⟨Ay,Bc,Bt⟩:Df)):=Lib.hid (Rp p3)
 have HSN:Hid (Ii Dd=true):=Lib.hid (Wo hpre).2.2.2.1
 clear hpre
 go_upto_region 4 with(first|(go_at_call 279;refine(Rr _ _ Ad _ Am _ Ao _ Bm (Dk.ext Aa) (Ev.ext Aa) (Ek.ext Aa) (Gm.ext Aa)).mono ?_;rintro e9 w1 ⟨rfl,hx1⟩;rw[p1];have I0:=hx1.cell I0;have I1:=hx1.cell I1;have I2:=hx1.cell I2;have I3:=hx1.cell I3;have I4:=hx1.cell I4;have I5:=hx1.cell I5;have I6:=hx1.cell I6;have I7:=hx1.cell I7;have I8:=hx1.cell I8;have I9:=hx1.cell I9;have I10:=hx1.cell I10;have I11:=hx1.cell I11;have I12:=hx1.cell I12;have I13:=hx1.cell I13;have I14:=hx1.cell I14;have I15:=hx1.cell I15;have I16:=hx1.cell I16;have I17:=hx1.cell I17;have I18:=hx1.cell I18;have hz1:=hx1.size)|(go_at_call 280;refine(Lq _ Bl Bp Bs _ Dd (Lx.ext Aa)).mono ?_;rintro e9 w2 ⟨rfl,hx2⟩;rw[p2];have I0:=hx2.cell I0;have I1:=hx2.cell I1;have I2:=hx2.cell I2;have I3:=hx2.cell I3;have I4:=hx2.cell I4;have I5:=hx2.cell I5;have I6:=hx2.cell I6;have I7:=hx2.cell I7;have I8:=hx2.cell I8;have I9:=hx2.cell I9;have I10:=hx2.cell I10;have I11:=hx2.cell I11;have I12:=hx2.cell I12;have I13:=hx2.cell I13;have I14:=hx2.cell I14;have I15:=hx2.cell I15;have I16:=hx2.cell I16;have I17:=hx2.cell I17;have I18:=hx2.cell I18;have hz2:=hx2.size)|(go_at_call 281;refine(Tr _ Ay Bc _ Bt (Ht.ext Aa)).mono ?_;rintro e9 w3 ⟨rfl,hx3⟩;rw[p3];have I0:=hx3.cell I0;have I1:=hx3.cell I1;have I2:=hx3.cell I2;have I3:=hx3.cell I3;have I4:=hx3.cell I4;have I5:=hx3.cell I5;have I6:=hx3.cell I6;have I7:=hx3.cell I7;have I8:=hx3.cell I8;have I9:=hx3.cell I9;have I10:=hx3.cell I10;have I11:=hx3.cell I11;have I12:=hx3.cell I12;have I13:=hx3.cell I13;have I14:=hx3.cell I14;have I15:=hx3.cell I15;have I16:=hx3.cell I16;have I17:=hx3.cell I17;have I18:=hx3.cell I18;have hz3:=hx3.size)|(go_at_call 282;refine(aI _ _ _ Dd Bt (Lx.ext Aa) (Ht.ext Aa) HSN.out (by have:=HBP.out.len;simp only at this;omega)).mono ?_;rintro e9 w4 ⟨_,rfl,hx4,xs,rfl,gs0⟩;have I0:=hx4.cell I0;have I1:=hx4.cell I1;have I2:=hx4.cell I2;have I3:=hx4.cell I3;have I4:=hx4.cell I4;have I5:=hx4.cell I5;have I6:=hx4.cell I6;have I7:=hx4.cell I7;have I8:=hx4.cell I8;have I9:=hx4.cell I9;have I10:=hx4.cell I10;have I11:=hx4.cell I11;have I12:=hx4.cell I12;have I13:=hx4.cell I13;have I14:=hx4.cell I14;have I15:=hx4.cell I15;have I16:=hx4.cell I16;have I17:=hx4.cell I17;have I18:=hx4.cell I18;have hz4:=hx4.size;have gs:=gs0;obtain⟨xa,xn,xk,rfl⟩:=gs.shape))
 have hR4:=Al hR (w':=w4) Aa
 have hE4:Ext w w4:=by exact Aa
 clear hR
 have hlog:Gl (⟨⟨⟨Ad,Am⟩,⟨Ao,Bm⟩⟩,⟨Bl,Bp,Bs,Dd⟩,⟨Co,Cj,Bg,Cm⟩,Cn,⟨Ay,Bc,Bt⟩,Cq,Bn,Cy⟩:Ap)=(Li (⟨⟨⟨Ad,Am⟩,⟨Ao,Bm⟩⟩,⟨Bl,Bp,Bs,Dd⟩,⟨Co,Cj,Bg,Cm⟩,Cn,⟨Ay,Bc,Bt⟩,Cq,Bn,Cy⟩:Ap)&&(Ph (⟨⟨⟨Ad,Am⟩,⟨Ao,Bm⟩⟩,⟨Bl,Bp,Bs,Dd⟩,⟨Co,Cj,Bg,Cm⟩,Cn,⟨Ay,Bc,Bt⟩,Cq,Bn,Cy⟩:Ap)&&Rs (⟨⟨⟨Ad,Am⟩,⟨Ao,Bm⟩⟩,⟨Bl,Bp,Bs,Dd⟩,⟨Co,Cj,Bg,Cm⟩,Cn,⟨Ay,Bc,Bt⟩,Cq,Bn,Cy⟩:Ap))):=by rw[Gl,HPRE.out,Bool.true_and]
 have HLOG:=Lib.hid hlog
 clear hlog hx1 hx2 hx3 hx4 p1 p2 p3 b4 b5 hEw
 as_aux_lemma =>
  cases hso:(Dn Dd Bt).isSome
  .
   as_aux_lemma =>
    refine rx0 vB fun w5 hx5=>?_
    go_wp2_with fail
    go_ret
    exact⟨by rw[show Gl (⟨⟨⟨Ad,Am⟩,⟨Ao,Bm⟩⟩,⟨Bl,Bp,Bs,Dd⟩,⟨Co,Cj,Bg,Cm⟩,Cn,⟨Ay,Bc,Bt⟩,Cq,Bn,Cy⟩:Ap)=false from by rw[HLOG.out];simp[Li,hso]];try rfl,by exact Aa⟩
  cases p6:eqB (Td Dd Bt) Cq
  .
   as_aux_lemma =>
    refine rx0 vC fun w5 hx5=>?_
    go_wp2_with fail
    go_ret
    exact⟨by rw[show Gl (⟨⟨⟨Ad,Am⟩,⟨Ao,Bm⟩⟩,⟨Bl,Bp,Bs,Dd⟩,⟨Co,Cj,Bg,Cm⟩,Cn,⟨Ay,Bc,Bt⟩,Cq,Bn,Cy⟩:Ap)=false from by rw[HLOG.out];simp[Li,p6]];try rfl,by exact Aa⟩
  cases p7:inb Bn Ay (Mf (⟨Ay,Bc,Bt⟩:Df))
  .
   as_aux_lemma =>
    refine rx0 qN fun w5 hx5=>?_
    go_wp2_with fail
    go_ret
    exact⟨by rw[show Gl (⟨⟨⟨Ad,Am⟩,⟨Ao,Bm⟩⟩,⟨Bl,Bp,Bs,Dd⟩,⟨Co,Cj,Bg,Cm⟩,Cn,⟨Ay,Bc,Bt⟩,Cq,Bn,Cy⟩:Ap)=false from by rw[HLOG.out];simp[Li,p7]];try rfl,by exact Aa⟩
  have hmid:Li (⟨⟨⟨Ad,Am⟩,⟨Ao,Bm⟩⟩,⟨Bl,Bp,Bs,Dd⟩,⟨Co,Cj,Bg,Cm⟩,Cn,⟨Ay,Bc,Bt⟩,Cq,Bn,Cy⟩:Ap)=true:=by
   simp only[Li]
   rw[hso,p6,p7]
   rfl
  have HP:=Lib.hid (uY HPRE.out hmid)
  have HMID:=Lib.hid hmid
  clear hmid
  have HDU:Hid (-1<=Bn/\Bn<=2000):=Lib.hid (by have h1:=Dz.1 p7;have h2:=HBP.out.top;have h3:=HBP.out.base;simp only[Mf] at h1 h2 h3;omega)
  refine rx0 qN fun w5 hx5=>?_
  have hfin:Gl (⟨⟨⟨Ad,Am⟩,⟨Ao,Bm⟩⟩,⟨Bl,Bp,Bs,Dd⟩,⟨Co,Cj,Bg,Cm⟩,Cn,⟨Ay,Bc,Bt⟩,Cq,Bn,Cy⟩:Ap)=(Ot (⟨⟨⟨Ad,Am⟩,⟨Ao,Bm⟩⟩,⟨Bl,Bp,Bs,Dd⟩,⟨Co,Cj,Bg,Cm⟩,Cn,⟨Ay,Bc,Bt⟩,Cq,Bn,Cy⟩:Ap)&&Ph (⟨⟨⟨Ad,Am⟩,⟨Ao,Bm⟩⟩,⟨Bl,Bp,Bs,Dd⟩,⟨Co,Cj,Bg,Cm⟩,Cn,⟨Ay,Bc,Bt⟩,Cq,Bn,Cy⟩:Ap)):=tK HPRE.out HMID.out
  have HFIN:=Lib.hid hfin
  have I0:=hx5.cell I0;have I1:=hx5.cell I1;have I2:=hx5.cell I2;have I3:=hx5.cell I3;have I4:=hx5.cell I4;have I5:=hx5.cell I5;have I6:=hx5.cell I6;have I7:=hx5.cell I7;have I8:=hx5.cell I8;have I9:=hx5.cell I9;have I10:=hx5.cell I10;have I11:=hx5.cell I11;have I12:=hx5.cell I12;have I13:=hx5.cell I13;have I14:=hx5.cell I14;have I15:=hx5.cell I15;have I16:=hx5.cell I16;have I17:=hx5.cell I17;have I18:=hx5.cell I18
  have hE5:=hE4.trans hx5
  have hR5:=Al hR4 hx5
  clear hR4
  have hz5:=hx5.size
  have hlen:Hid (Bt.length<=20):=Lib.hid HBP.out.len
  clear hfin hx5 hso p6 p7 hE4
  as_aux_lemma =>
   go_upto_region 6 with(fail)
   cases p8:Ot (⟨⟨⟨Ad,Am⟩,⟨Ao,Bm⟩⟩,⟨Bl,Bp,Bs,Dd⟩,⟨Co,Cj,Bg,Cm⟩,Cn,⟨Ay,Bc,Bt⟩,Cq,Bn,Cy⟩:Ap)
   .
    refine wp_region_held_drew (S:=fun w'=>Ext w5 w') (by kernel_rfl) (by(try dsimp only);exact xT) (fun hHeld=>?_)
    refine wpAnyH_take (i:=0) (v:=.agg ([.slice a0 n0 k0,.slice a1 n1 k1,.slice a2 n2 k2,.slice a3 n3 k3,.int .i64 Bl,.int .i64 Bp,.int .i64 Bs,.slice a7 n7 k7,.int .i64 Co,.int .i64 Cj,.int .i64 Bg,.slice a11 n11 k11,.bool Cn,.int .i64 Ay,.int .i64 Bc,.slice a15 n15 k15,.slice a16 n16 k16,.int .i64 Bn,.slice a18 n18 k18]:List Value).toArray) rfl (by kernel_rfl) (by kernel_rfl) (by kernel_rfl) (fun _ _ _ h=>h) (yieldsIf_load_mid (by rfl) 81 (.tmp 1) rfl w.heap.size 0 (by rfl) ([.slice a0 n0 k0,.slice a1 n1 k1,.slice a2 n2 k2,.slice a3 n3 k3,.int .i64 Bl,.int .i64 Bp,.int .i64 Bs,.slice a7 n7 k7,.int .i64 Co,.int .i64 Cj,.int .i64 Bg,.slice a11 n11 k11,.bool Cn,.int .i64 Ay,.int .i64 Bc,.slice a15 n15 k15,.slice a16 n16 k16,.int .i64 Bn,.slice a18 n18 k18]:List Value) _ (fun _ hSw=>Al hR5 hSw) Tryz.underlying81 rfl (by kernel_rfl)) (by assumption) ?_
    (try simp only[Ab,Act.put])
    refine wr1 1 fun Kz hKz=>?_
    (try simp only[Ab])
    go_simp
    go_at_call 285
    refine(iV _ _ Ad _ Am _ Ao _ Bm Bl Bp Bs _ Dd Co Cj Bg _ Cm Cn Ay Bc _ Bt _ Cq Bn _ Cy (Dk.ext Aa) (Ev.ext Aa) (Ek.ext Aa) (Gm.ext Aa) (Lx.ext Aa) (Le.ext Aa) (Ht.ext Aa) (Mi.ext Aa) (Pe.ext Aa) HP.out).mono ?_
    rintro e9 w6⟨rfl,hx6⟩
    rw[p8]
    have X6:Ext w5 w6:=Ext.trans Aa hx6
    clear hx6
    refine hKz.out _ _ (by(try dsimp only);exact xT) (fun hHeld=>?_)
    clear hKz Kz
    (try simp only[Ab,Act.put])
    refine wt 2 ?_
    (try simp only[Ab,Act.put])
    refine wpAnyH_take (i:=3) (v:=undef) rfl (by kernel_rfl) (by kernel_rfl) (by kernel_rfl) (fun _ _ _ h=>h) (Or.inr ⟨by rfl,rfl⟩) (by assumption) ?_
    (try simp only[Ab,Act.put])
    refine wpAnyH_take (i:=4) (v:=undef) rfl (by kernel_rfl) (by kernel_rfl) (by kernel_rfl) (fun _ _ _ h=>h) (Or.inr ⟨by rfl,rfl⟩) (by assumption) ?_
    (try simp only[Ab,Act.put])
    refine wpAnyH_take (i:=5) (v:=undef) rfl (by kernel_rfl) (by kernel_rfl) (by kernel_rfl) (fun _ _ _ h=>h) (Or.inr ⟨by rfl,rfl⟩) (by assumption) ?_
    (try simp only[Ab,Act.put])
    refine wpAnyH_take (i:=6) (v:=undef) rfl (by kernel_rfl) (by kernel_rfl) (by kernel_rfl) (fun _ _ _ h=>h) (Or.inr ⟨by rfl,rfl⟩) (by assumption) ?_
    (try simp only[Ab,Act.put])
    refine wpAnyH_take (i:=7) (v:=undef) rfl (by kernel_rfl) (by kernel_rfl) (by kernel_rfl) (fun _ _ _ h=>h) (Or.inr ⟨by rfl,rfl⟩) (by assumption) ?_
    (try simp only[Ab,Act.put])
    refine wpAnyH_take (i:=8) (v:=undef) rfl (by kernel_rfl) (by kernel_rfl) (by kernel_rfl) (fun _ _ _ h=>h) (Or.inr ⟨by rfl,rfl⟩) (by assumption) ?_
    (try simp only[Ab,Act.put])
    refine wpAnyH_take (i:=9) (v:=undef) rfl (by kernel_rfl) (by kernel_rfl) (by kernel_rfl) (fun _ _ _ h=>h) (Or.inr ⟨by rfl,rfl⟩) (by assumption) ?_
    (try simp only[Ab,Act.put])
    refine wpAnyH_take (i:=10) (v:=undef) rfl (by kernel_rfl) (by kernel_rfl) (by kernel_rfl) (fun _ _ _ h=>h) (Or.inr ⟨by rfl,rfl⟩) (by assumption) ?_
    (try simp only[Ab,Act.put])
    refine wt 11 ?_
    (try simp only[Ab,Act.put])
    refine wt 12 ?_
    (try simp only[Ab,Act.put])
    refine wpAnyH_done (by kernel_rfl) ?_ _
    go_wp2_with fail
    go_ret
    exact⟨by rw[HFIN.out,p8];rfl,by exact Aa⟩
   as_aux_lemma =>
    refine wp_region_held_drew (S:=fun w'=>Ext w5 w') (by kernel_rfl) (by(try dsimp only);exact xT) (fun hHeld=>?_)
    refine wpAnyH_take (i:=0) (v:=.agg ([.slice a0 n0 k0,.slice a1 n1 k1,.slice a2 n2 k2,.slice a3 n3 k3,.int .i64 Bl,.int .i64 Bp,.int .i64 Bs,.slice a7 n7 k7,.int .i64 Co,.int .i64 Cj,.int .i64 Bg,.slice a11 n11 k11,.bool Cn,.int .i64 Ay,.int .i64 Bc,.slice a15 n15 k15,.slice a16 n16 k16,.int .i64 Bn,.slice a18 n18 k18]:List Value).toArray) rfl (by kernel_rfl) (by kernel_rfl) (by kernel_rfl) (fun _ _ _ h=>h) (yieldsIf_load_mid (by rfl) 81 (.tmp 1) rfl w.heap.size 0 (by rfl) ([.slice a0 n0 k0,.slice a1 n1 k1,.slice a2 n2 k2,.slice a3 n3 k3,.int .i64 Bl,.int .i64 Bp,.int .i64 Bs,.slice a7 n7 k7,.int .i64 Co,.int .i64 Cj,.int .i64 Bg,.slice a11 n11 k11,.bool Cn,.int .i64 Ay,.int .i64 Bc,.slice a15 n15 k15,.slice a16 n16 k16,.int .i64 Bn,.slice a18 n18 k18]:List Value) _ (fun _ hSw=>Al hR5 hSw) Tryz.underlying81 rfl (by kernel_rfl)) (by assumption) ?_
    (try simp only[Ab,Act.put])
    refine wr1 1 fun Kz hKz=>?_
    (try simp only[Ab])
    go_simp
    go_at_call 285
    refine(iV _ _ Ad _ Am _ Ao _ Bm Bl Bp Bs _ Dd Co Cj Bg _ Cm Cn Ay Bc _ Bt _ Cq Bn _ Cy (Dk.ext Aa) (Ev.ext Aa) (Ek.ext Aa) (Gm.ext Aa) (Lx.ext Aa) (Le.ext Aa) (Ht.ext Aa) (Mi.ext Aa) (Pe.ext Aa) HP.out).mono ?_
    rintro e9 w6⟨rfl,hx6⟩
    rw[p8]
    have X6:Ext w5 w6:=Ext.trans Aa hx6
    clear hx6
    refine hKz.out _ _ (by(try dsimp only);exact xT) (fun hHeld=>?_)
    clear hKz Kz
    (try simp only[Ab,Act.put])
    refine wt 2 ?_
    (try simp only[Ab,Act.put])
    refine wt 3 ?_
    (try simp only[Ab,Act.put])
    refine wpAnyH_take (i:=4) (v:=?_) rfl (by kernel_rfl) (by kernel_rfl) (by kernel_rfl) (fun _ _ _ h=>h) (Or.inl ⟨by rfl,?_⟩) (by assumption) ?_
    rotate_left
    focus(intro w hSw;(try dsimp only at hSw);have q18:=hSw.cell I18;go_simp <;> with_reducible rfl)
    (try simp only[Ab,Act.put])
    refine wt 5 ?_
    (try simp only[Ab,Act.put])
    refine wpAnyH_take (i:=6) (v:=?_) rfl (by kernel_rfl) (by kernel_rfl) (by kernel_rfl) (fun _ _ _ h=>h) (Or.inl ⟨by rfl,?_⟩) (by assumption) ?_
    rotate_left
    focus(intro w hSw;(try dsimp only at hSw);have q13:=hSw.cell I13;have q14:=hSw.cell I14;have q15:=hSw.cell I15;go_simp <;> with_reducible rfl)
    (try simp only[Ab,Act.put])
    refine wt 7 ?_
    (try simp only[Ab,Act.put])
    refine wpAnyH_take (i:=8) (v:=?_) rfl (by kernel_rfl) (by kernel_rfl) (by kernel_rfl) (fun _ _ _ h=>h) (Or.inl ⟨by rfl,?_⟩) (by assumption) ?_
    rotate_left
    focus(intro w hSw;(try dsimp only at hSw);have q17:=hSw.cell I17;go_simp <;> with_reducible rfl)
    (try simp only[Ab,Act.put])
    refine wr1 9 fun Kz hKz=>?_
    (try simp only[Ab])
    go_simp
    go_at_call 287
    refine(vA _ Ay Bc _ Bt Bn (Ht.ext Aa) hlen.out HDU.out).mono ?_
    rintro e w7⟨xo,rfl,hx7,go⟩
    have X7:Ext w5 w7:=Ext.trans Aa hx7
    clear hx7
    refine hKz.out _ _ (by(try dsimp only);exact xT) (fun hHeld=>?_)
    clear hKz Kz
    (try simp only[Ab,Act.put])
    refine wr1 10 fun Kz hKz=>?_
    (try simp only[Ab])
    go_simp
    go_at_call 286
    refine(iW _ _ _ Cy _ (Pe.ext Aa) (go.ext Aa)).mono ?_
    rintro e w8⟨rfl,hx8⟩
    have X8:Ext w5 w8:=Ext.trans Aa hx8
    clear hx8
    refine hKz.out _ _ (by(try dsimp only);exact xT) (fun hHeld=>?_)
    clear hKz Kz
    (try simp only[Ab,Act.put])
    refine wt 11 ?_
    (try simp only[Ab,Act.put])
    refine wt 12 ?_
    (try simp only[Ab,Act.put])
    refine wpAnyH_done (by kernel_rfl) ?_ _
    go_wp2_with fail
    go_ret
    exact⟨by rw[HFIN.out,p8];rfl,by exact Aa⟩
end Go.Proofs.YtkpmbocbbgocbaaGreat
