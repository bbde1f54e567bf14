/- WFc WFd WHb. -/
import Derived.Test.YtkpmbocbbgocbaaGreatQGp
import Derived.Test.YtkpmbocbbgocbaaGreatQB10
set_option linter.unusedSimpArgs false
set_option linter.unusedVariables false
set_option maxHeartbeats 8000000
set_option maxRecDepth 100000
namespace Go.Proofs.YtkpmbocbbgocbaaGreat
open Go.RowKit Go.G8
theorem Vb(w:World)(c0 c1 c2:Int)(s:Value)(l:List Ar)(h:Aj 3 w s (Cz l)):Calls Tryz.prog 314 #[.agg #[.int .i64 c0,.int .i64 c1,.int .i64 c2,s]] w (Cp w (.bool (eqB (⟨c0,c1,c2,l⟩:Di) Ip))):=by
 obtain⟨a1,k1,rfl,hc,hm,-⟩:=h.recs (f:=Ar.ints) (fun _=>rfl) dC
 unfold maxLen at hm;clear h
 obtain⟨W0,hW0⟩:∃W0,W0=(w.alloc (.cells #[.int .i64 c0,.int .i64 c1,.int .i64 c2,.slice a1 l.length k1] 75)):=⟨_,rfl⟩
 have E0:Ext w W0:=by rw[hW0];exact Aa
 have KA:Blk W0 (w.heap.size) 75 #[.int .i64 c0,.int .i64 c1,.int .i64 c2,.slice a1 l.length k1]:=by rw[hW0];exact Blk.new _ _ _
 go_enter Tryz.func314,Tryz.ntmps314
 go_upto_region 1 with(fail)
 rw[<-hW0]
 clear hW0
 have X0:Ext w W0:=E0
 obtain⟨CA,FA,LA⟩:=KA.cfl
 by_cases e0:c0=0
 rotate_left
 .
  have e01:(c0 == 0)=false:=by simpa using e0
  have e02:decide (c0=0)=false:=by simpa using e0
  have He0:=Lib.hid e0;clear e0
  go_wp2_with (fail)
  go_ret
  exact⟨by rw[show eqB (⟨c0,c1,c2,l⟩:Di) Ip=false from by exact Au (fun e=>He0.out (by injection e))];try rfl,by exact Aa⟩
 have e01:(c0 == 0)=true:=by simpa using e0
 have e02:decide (c0=0)=true:=by simpa using e0
 have He0:=Lib.hid e0;clear e0
 by_cases e1:c1=0
 rotate_left
 .
  have e11:(c1 == 0)=false:=by simpa using e1
  have e12:decide (c1=0)=false:=by simpa using e1
  have He1:=Lib.hid e1;clear e1
  go_wp2_with (fail)
  go_ret
  exact⟨by rw[show eqB (⟨c0,c1,c2,l⟩:Di) Ip=false from by exact Au (fun e=>He1.out (by injection e))];try rfl,by exact Aa⟩
 have e11:(c1 == 0)=true:=by simpa using e1
 have e12:decide (c1=0)=true:=by simpa using e1
 have He1:=Lib.hid e1;clear e1
 by_cases e2:c2=0
 rotate_left
 .
  have e21:(c2 == 0)=false:=by simpa using e2
  have e22:decide (c2=0)=false:=by simpa using e2
  have He2:=Lib.hid e2;clear e2
  go_wp2_with (fail)
  go_ret
  exact⟨by rw[show eqB (⟨c0,c1,c2,l⟩:Di) Ip=false from by exact Au (fun e=>He2.out (by injection e))];try rfl,by exact Aa⟩
 have e21:(c2 == 0)=true:=by simpa using e2
 have e22:decide (c2=0)=true:=by simpa using e2
 have He2:=Lib.hid e2;clear e2
 cases l with
 | cons x l =>
  simp only[List.length_cons] at hc hm CA KA ⊢
  have e4:(((l.length+1:Nat):Int) == 0)=false:=by simp;omega
  have e5:decide (l.length+1=0)=false:=by simp
  go_wp2_with (fail)
  go_ret
  exact⟨by rw[show eqB (⟨c0,c1,c2,x::l⟩:Di) Ip=false from by exact Au (fun e=>by injection e;rename_i e;cases e)];try rfl,by exact Aa⟩
 | nil =>
  simp only[List.length_nil] at hc hm CA KA ⊢
  go_wp2_with (fail)
  go_ret
  exact⟨by rw[show eqB (⟨c0,c1,c2,[]⟩:Di) Ip=true from by rw[He0.out,He1.out,He2.out];exact Fc rfl];try rfl,by exact Aa⟩
theorem fW{w:World}{v:Value}{n:Ap}(h:Lz w v n):Calls Tryz.prog 209 #[v] w (Cp w (.bool (Ig n))):=by
 obtain⟨p,rfl⟩:=h.list
 obtain⟨s0,s1,s2,s3,s7,s11,s15,s16,s18,rfl,h0,h1,h2,h3,h7,h11,h15,h16,h18⟩:=h.leaves
 clear h
 obtain⟨a0,n0,k0,rfl⟩:=h0.shape
 obtain⟨a1,n1,k1,rfl⟩:=h1.shape
 obtain⟨a2,n2,k2,rfl⟩:=h2.shape
 obtain⟨a3,n3,k3,rfl⟩:=h3.shape
 obtain⟨a7,n7,k7,rfl⟩:=h7.shape
 obtain⟨a11,n11,k11,rfl⟩:=h11.shape
 obtain⟨a15,k15,rfl,hc15,hm15,-⟩:=h15.recs (f:=Aq.ints) (fun _=>rfl) dC
 unfold maxLen at hm15
 obtain⟨N15,hn15⟩:∃x,x=n.Book.Entries.length:=⟨_,rfl⟩
 rw[<-hn15] at hc15 ⊢
 have HN15:=Lib.hid hn15;clear hn15 h15
 obtain⟨a16,k16,rfl,hc16,hm16,-⟩:=h16.recs (f:=Ar.ints) (fun _=>rfl) dC
 unfold maxLen at hm16
 obtain⟨N16,hn16⟩:∃x,x=n.Seen.length:=⟨_,rfl⟩
 rw[<-hn16] at hc16 ⊢
 have HN16:=Lib.hid hn16;clear hn16 h16
 obtain⟨a18,k18,rfl,hc18,hm18,-⟩:=h18.recs (f:=Is.ints) (fun _=>rfl) dC
 unfold maxLen at hm18
 obtain⟨N18,hn18⟩:∃x,x=n.Owe.length:=⟨_,rfl⟩
 rw[<-hn18] at hc18 ⊢
 have HN18:=Lib.hid hn18;clear hn18 h18
 obtain⟨bz,hbz⟩:∃b:Bool,n.More=b:=⟨_,rfl⟩
 rw[hbz]
 have HB:=Lib.hid hbz;clear hbz
 have HM:=Lib.hid (show Ig n=(Jy n.Two&&_) from by rw[Ig,mT])
 obtain⟨W0,hW0⟩:∃W0,W0=(w.alloc (.cells #[.slice a0 n0 k0,.slice a1 n1 k1,.slice a2 n2 k2,.slice a3 n3 k3,.int .i64 n.Head.Num,.int .i64 n.Head.Base,.int .i64 n.Head.Time,.slice a7 n7 k7,.int .i64 n.Next.Num,.int .i64 n.Next.Base,.int .i64 n.Next.Time,.slice a11 n11 k11,.bool bz,.int .i64 n.Book.Base,.int .i64 n.Book.Time,.slice a15 N15 k15,.slice a16 N16 k16,.int .i64 n.Durable,.slice a18 N18 k18] 81)):=⟨_,rfl⟩
 have E0:Ext w W0:=by rw[hW0];exact Aa
 have KA:Blk W0 (w.heap.size) 81 #[.slice a0 n0 k0,.slice a1 n1 k1,.slice a2 n2 k2,.slice a3 n3 k3,.int .i64 n.Head.Num,.int .i64 n.Head.Base,.int .i64 n.Head.Time,.slice a7 n7 k7,.int .i64 n.Next.Num,.int .i64 n.Next.Base,.int .i64 n.Next.Time,.slice a11 n11 k11,.bool bz,.int .i64 n.Book.Base,.int .i64 n.Book.Time,.slice a15 N15 k15,.slice a16 N16 k16,.int .i64 n.Durable,.slice a18 N18 k18]:=by rw[hW0];exact Blk.new _ _ _
 go_enter Tryz.func209,Tryz.ntmps209
 go_upto_region 1 with(fail)
 rw[<-hW0]
 clear hW0
 have X0:Ext w W0:=E0
 obtain⟨CA,FA,LA⟩:=KA.cfl
 go_wp2_with (fail)
 refine(Wl _ _ n.Two.A.Kept _ n.Two.A.Wait _ n.Two.B.Kept _ n.Two.B.Wait (h0.ext Aa) (h1.ext Aa) (h2.ext Aa) (h3.ext Aa)).mono ?_
 rintro e w1⟨rfl,hx1⟩
 have KA:=KA.ext hx1;clear CA FA LA
 have X1:=X0.trans hx1;clear hx1
 obtain⟨CA,FA,LA⟩:=KA.cfl
 cases p0:Jy (⟨⟨n.Two.A.Kept,n.Two.A.Wait⟩,⟨n.Two.B.Kept,n.Two.B.Wait⟩⟩:Jg)
 .
  go_wp2_with (fail)
  go_ret
  exact⟨by rw[show Ig n=false from by rw[HM.out];simp[show Jy n.Two=false from p0]];try rfl,by exact Aa⟩
 have P0:=Lib.hid (show Jy n.Two=true from p0);clear p0
 go_wp2_with (fail)
 refine(Vb _ n.Head.Num n.Head.Base n.Head.Time _ n.Head.Seen (h7.ext Aa)).mono ?_
 rintro e w2⟨rfl,hx2⟩
 have KA:=KA.ext hx2;clear CA FA LA
 have X2:=X1.trans hx2;clear hx2
 obtain⟨CA,FA,LA⟩:=KA.cfl
 cases p1:eqB (⟨n.Head.Num,n.Head.Base,n.Head.Time,n.Head.Seen⟩:Di) Ip
 .
  go_wp2_with (fail)
  go_ret
  exact⟨by rw[show Ig n=false from by rw[HM.out];simp[show eqB n.Head Ip=false from p1]];try rfl,by exact Aa⟩
 have P1:=Lib.hid (show eqB n.Head Ip=true from p1);clear p1
 go_wp2_with (fail)
 refine(Vb _ n.Next.Num n.Next.Base n.Next.Time _ n.Next.Seen (h11.ext Aa)).mono ?_
 rintro e w3⟨rfl,hx3⟩
 have KA:=KA.ext hx3;clear CA FA LA
 have X3:=X2.trans hx3;clear hx3
 obtain⟨CA,FA,LA⟩:=KA.cfl
 cases p2:eqB (⟨n.Next.Num,n.Next.Base,n.Next.Time,n.Next.Seen⟩:Di) Ip
 .
  go_wp2_with (fail)
  go_ret
  exact⟨by rw[show Ig n=false from by rw[HM.out];simp[show eqB n.Next Ip=false from p2]];try rfl,by exact Aa⟩
 have P2:=Lib.hid (show eqB n.Next Ip=true from p2);clear p2
 cases bz
 rotate_left
 .
  go_wp2_with (fail)
  go_ret
  exact⟨by rw[show Ig n=false from by rw[HM.out];simp[HB.out]];try rfl,by exact Aa⟩
 by_cases e1:n.Book.Base=0
 rotate_left
 .
  have e11:(n.Book.Base == 0)=false:=by simpa using e1
  have e12:decide (n.Book.Base=0)=false:=by simpa using e1
  have He1:=Lib.hid e1;clear e1
  go_wp2_with (fail)
  go_ret
  exact⟨by rw[show Ig n=false from by rw[HM.out];simp[show eqB n.Book (⟨0,0,[]⟩:Df)=false from Au (fun e=>He1.out (by rw[e]))]];try rfl,by exact Aa⟩
 have e11:(n.Book.Base == 0)=true:=by simpa using e1
 have e12:decide (n.Book.Base=0)=true:=by simpa using e1
 have He1:=Lib.hid e1;clear e1
 by_cases e2:n.Book.Time=0
 rotate_left
 .
  have e21:(n.Book.Time == 0)=false:=by simpa using e2
  have e22:decide (n.Book.Time=0)=false:=by simpa using e2
  have He2:=Lib.hid e2;clear e2
  go_wp2_with (fail)
  go_ret
  exact⟨by rw[show Ig n=false from by rw[HM.out];simp[show eqB n.Book (⟨0,0,[]⟩:Df)=false from Au (fun e=>He2.out (by rw[e]))]];try rfl,by exact Aa⟩
 have e21:(n.Book.Time == 0)=true:=by simpa using e2
 have e22:decide (n.Book.Time=0)=true:=by simpa using e2
 have He2:=Lib.hid e2;clear e2
 by_cases hl15:N15=0
 rotate_left
 .
  have y1:((N15:Int) == 0)=false:=by simp;omega
  have y2:decide (N15=0)=false:=by simpa using hl15
  have HL15:=Lib.hid hl15;clear hl15
  go_wp2_with (fail)
  go_ret
  exact⟨by rw[show Ig n=false from by rw[HM.out];simp[show eqB n.Book (⟨0,0,[]⟩:Df)=false from Au (fun e=>HL15.out (by rw[HN15.out,e];rfl))]];try rfl,by exact Aa⟩
 have y15:((N15:Int) == 0)=true:=by simp;omega
 have z15:decide (N15=0)=true:=by simpa using hl15
 have HL15:=Lib.hid hl15;clear hl15
 by_cases hl16:N16=0
 rotate_left
 .
  have y1:((N16:Int) == 0)=false:=by simp;omega
  have y2:decide (N16=0)=false:=by simpa using hl16
  have HL16:=Lib.hid hl16;clear hl16
  go_wp2_with (fail)
  go_ret
  exact⟨by rw[show Ig n=false from by rw[HM.out];simp[show eqB n.Seen ([]:List Ar)=false from Au (fun e=>HL16.out (by rw[HN16.out,e];rfl))]];try rfl,by exact Aa⟩
 have y16:((N16:Int) == 0)=true:=by simp;omega
 have z16:decide (N16=0)=true:=by simpa using hl16
 have HL16:=Lib.hid hl16;clear hl16
 by_cases e3:n.Durable=0
 rotate_left
 .
  have e31:(n.Durable == 0)=false:=by simpa using e3
  have e32:decide (n.Durable=0)=false:=by simpa using e3
  have He3:=Lib.hid e3;clear e3
  go_wp2_with (fail)
  go_ret
  exact⟨by rw[show Ig n=false from by rw[HM.out];simp[He3.out]];try rfl,by exact Aa⟩
 have e31:(n.Durable == 0)=true:=by simpa using e3
 have e32:decide (n.Durable=0)=true:=by simpa using e3
 have He3:=Lib.hid e3;clear e3
 by_cases hl18:N18=0
 rotate_left
 .
  have y1:((N18:Int) == 0)=false:=by simp;omega
  have y2:decide (N18=0)=false:=by simpa using hl18
  have HL18:=Lib.hid hl18;clear hl18
  go_wp2_with (fail)
  go_ret
  exact⟨by rw[show Ig n=false from by rw[HM.out];simp[show eqB n.Owe ([]:List Is)=false from Au (fun e=>HL18.out (by rw[HN18.out,e];rfl))]];try rfl,by exact Aa⟩
 have y18:((N18:Int) == 0)=true:=by simp;omega
 have z18:decide (N18=0)=true:=by simpa using hl18
 have HL18:=Lib.hid hl18;clear hl18
 go_wp2_with (fail)
 go_ret
 exact⟨by rw[show Ig n=true from by rw[HM.out,P0.out,P1.out,P2.out,show eqB n.Book (⟨0,0,[]⟩:Df)=true from Fc (by have q0:=He1.out;have q1:=He2.out;have q2:n.Book.Entries=[]:=List.eq_nil_of_length_eq_zero (by rw[<-HN15.out];exact HL15.out);revert q0 q1 q2;cases n.Book;simp only;intro q0 q1 q2;rw[q0,q1,q2]),show eqB n.Seen ([]:List Ar)=true from Fc (List.eq_nil_of_length_eq_zero (by rw[<-HN16.out];exact HL16.out)),show eqB n.Owe ([]:List Is)=true from Fc (List.eq_nil_of_length_eq_zero (by rw[<-HN18.out];exact HL18.out))];simp[HB.out,He3.out]];try rfl,by exact Aa⟩
theorem Lz.len{w:World}{p:List Value}{n:Ap}(h:Lz w (.agg p.toArray) n):p.length=19:=by
 obtain⟨L,e,hl,-⟩:=h.cells
 rw[Ct e];exact hl
theorem Ix.list{w:World}{v:Value}{n:It}(h:Ix w v n):∃p:List Value,v=.agg p.toArray:=by
 obtain⟨L,e,hl,-⟩:=h.cells
 exact⟨_,e⟩
theorem Ix.len{w:World}{p:List Value}{n:It}(h:Ix w (.agg p.toArray) n):p.length=12:=by
 obtain⟨L,e,hl,-⟩:=h.cells
 rw[Ct e];exact hl
theorem rT{w:World}{v:Value}{n:Ap}(h:Lz w v n)(up:Bool):Calls Tryz.prog 108 #[v,.bool up] w (Cp w (.bool (Mn n up))):=by
 obtain⟨p,rfl⟩:=h.list
 have hl:=h.len
 have E0:Ext w (w.alloc (.cells p.toArray 81)):=by exact Aa
 have BD:Bk (w.alloc (.cells p.toArray 81)) w.heap.size 81 p:=Bk.new _ _ _
 have hR:(w.alloc (.cells p.toArray 81)).rangeAt w.heap.size 0 p:=Bk.range (A:=[]) (C:=[]) (Bk.cast BD (by simp)) rfl
 go_enter Tryz.func108,Tryz.ntmps108
 cases up
 .
  go_wp2_with (first|(refine wpList_load_mid rfl 81 _ rfl w.heap.size 0 (by rfl) p _ hR Tryz.underlying81 rfl (by rw[hl];kernel_rfl) ?_))
  refine(fW (h.ext E0)).mono ?_
  rintro e w1⟨rfl,hx1⟩
  go_wp2_with fail
  go_ret
  exact⟨rfl,E0.trans hx1⟩
 go_wp2_with (first|(refine wpList_load_mid rfl 81 _ rfl w.heap.size 0 (by rfl) p _ hR Tryz.underlying81 rfl (by rw[hl];kernel_rfl) ?_))
 refine(rC (h.ext E0)).mono ?_
 rintro e w1⟨rfl,hx1⟩
 go_wp2_with fail
 go_ret
 exact⟨rfl,E0.trans hx1⟩
theorem tZ{p:Prop}(h:p:=by intro KQ hKQ;(repeat (first|go_big_quiet_skip|(go_big_quiet_want;first|(refine Br _ _ _ ?_ rfl rfl (fun wq hq=>?_) ?_;rotate_left;(focus((try have y0:=hq.cell I0);(try have y1:=hq.cell I1);(try have y2:=hq.cell I2);(try have y3:=hq.cell I3);(try have y4:=hq.cell I4);(try have y5:=hq.cell I5);(try have y6:=hq.cell I6);(try have y7:=hq.cell I7);(try have y8:=hq.cell I8);(try have y9:=hq.cell I9);(try have y10:=hq.cell I10);(try have y11:=hq.cell I11);go_simp;first|done|rfl));(try simp only[Ab,Act.put]);go_big_quiet_on)|(go_big_quiet_op;first|go_big_quiet_on|(refine⟨_,fun _ _=>rfl,?_⟩;go_big_quiet_on)|(apply Exists.intro;refine⟨fun wq hq=>?_,?_⟩;(focus(first|(go_at_call 317;exact Cv hq (by have c:=Nq wq _ s.Disk.Kept _ s.Disk.Wait (h0.ext (E0.trans hq)) (h1.ext (E0.trans hq));rw[show Fu (⟨s.Disk.Kept,s.Disk.Wait⟩:Ez)=_ from b1] at c;exact c))));go_big_quiet_on)))));exact wpQuiet_nil hKQ):p:=h
theorem Wt{p:Prop}(h:p:=by intro KQ hKQ;(repeat (first|go_big_quiet_skip|(go_big_quiet_want;first|(refine Br _ _ _ ?_ rfl rfl (fun wq hq=>?_) ?_;rotate_left;(focus((try have y0:=hq.cell I0);(try have y1:=hq.cell I1);(try have y2:=hq.cell I2);(try have y3:=hq.cell I3);(try have y4:=hq.cell I4);(try have y5:=hq.cell I5);(try have y6:=hq.cell I6);(try have y7:=hq.cell I7);(try have y8:=hq.cell I8);(try have y9:=hq.cell I9);(try have y10:=hq.cell I10);(try have y11:=hq.cell I11);go_simp;first|done|rfl));(try simp only[Ab,Act.put]);go_big_quiet_on)|(go_big_quiet_op;first|go_big_quiet_on|(refine⟨_,fun _ _=>rfl,?_⟩;go_big_quiet_on)|(apply Exists.intro;refine⟨fun wq hq=>?_,?_⟩;(focus(first|(go_at_call 317;exact Cv hq (by have c:=Nq wq _ s.Disk.Kept _ s.Disk.Wait (h0.ext (E0.trans hq)) (h1.ext (E0.trans hq));rw[show Fu (⟨s.Disk.Kept,s.Disk.Wait⟩:Ez)=_ from b1] at c;exact c))|(go_at_call 319;exact Cv hq (iI wq))|(go_at_call 318;exact Cv hq (by have c:=cI (w:=wq) (s:=s.State) ⟨_,_,rfl,(h4.ext (E0.trans hq)),(h5.ext (E0.trans hq))⟩ (Aj.nil 2 _) (Aj.nil 5 _);rw[b2] at c;exact c))));go_big_quiet_on)))));exact wpQuiet_nil hKQ):p:=h
theorem bH{w:World}{v:Value}{s:It}(h:Ix w v s):Calls Tryz.prog 211 #[v] w (Cp w (.bool (Em s))):=by
 obtain⟨t0,t1,t4,t5,rfl,h0,h1,h4,h5⟩:=h
 obtain⟨a0,n0,k0,rfl⟩:=h0.shape
 obtain⟨a1,n1,k1,rfl⟩:=h1.shape
 obtain⟨a4,n4,k4,rfl⟩:=h4.shape
 obtain⟨a5,n5,k5,rfl⟩:=h5.shape
 obtain⟨W0,hW0⟩:∃W0,W0=(w.alloc (.cells #[.slice a0 n0 k0,.slice a1 n1 k1,.int .i64 s.State.Index,.int .i64 s.State.Time,.slice a4 n4 k4,.slice a5 n5 k5,.int .i64 s.State.Lease.Holder,.int .i64 s.State.Lease.Epoch,.int .i64 s.State.Lease.Until,.int .i64 s.Num,.int .i64 s.Last,.int .i64 s.Busy] 88)):=⟨_,rfl⟩
 have E0:Ext w W0:=by rw[hW0];exact Aa
 have KA:Blk W0 (w.heap.size) 88 #[.slice a0 n0 k0,.slice a1 n1 k1,.int .i64 s.State.Index,.int .i64 s.State.Time,.slice a4 n4 k4,.slice a5 n5 k5,.int .i64 s.State.Lease.Holder,.int .i64 s.State.Lease.Epoch,.int .i64 s.State.Lease.Until,.int .i64 s.Num,.int .i64 s.Last,.int .i64 s.Busy]:=by rw[hW0];exact Blk.new _ _ _
 go_enter Tryz.func211,Tryz.ntmps211
 go_upto_region 1 with(fail)
 rw[<-hW0]
 clear hW0
 have X0:Ext w W0:=E0
 obtain⟨CA,FA,LA⟩:=KA.cfl
 have I0:=KA.cell 0;have I1:=KA.cell 1;have I2:=KA.cell 2;have I3:=KA.cell 3;have I4:=KA.cell 4;have I5:=KA.cell 5;have I6:=KA.cell 6;have I7:=KA.cell 7;have I8:=KA.cell 8;have I9:=KA.cell 9;have I10:=KA.cell 10;have I11:=KA.cell 11
 simp only[List.getElem?_toArray,List.getElem?_cons_zero,List.getElem?_cons_succ] at I0 I1 I2 I3 I4 I5 I6 I7 I8 I9 I10 I11
 clear CA FA LA KA
 cases b1:Fu s.Disk
 .
  refine rx0 tZ fun w1 hx1=>?_
  go_wp2_with (fail)
  go_ret
  exact⟨by rw[show Em s=false from by unfold Em;simp[b1]];try rfl,by exact Aa⟩
 cases b2:eqB s.State Ha
 .
  refine rx0 Wt fun w1 hx1=>?_
  go_wp2_with (fail)
  go_ret
  exact⟨by rw[show Em s=false from by unfold Em;simp[b2]];try rfl,by exact Aa⟩
 by_cases e0:s.Num=0
 rotate_left
 .
  have e01:(s.Num == 0)=false:=by simpa using e0
  have He0:=Lib.hid e0;clear e0
  refine rx0 Wt fun w1 hx1=>?_
  go_wp2_with (fail)
  go_ret
  exact⟨by rw[show Em s=false from by unfold Em;simp[He0.out]];try rfl,by exact Aa⟩
 have e01:(s.Num == 0)=true:=by simpa using e0
 have He0:=Lib.hid e0;clear e0
 by_cases e1:s.Last=0
 rotate_left
 .
  have e11:(s.Last == 0)=false:=by simpa using e1
  have He1:=Lib.hid e1;clear e1
  refine rx0 Wt fun w1 hx1=>?_
  go_wp2_with (fail)
  go_ret
  exact⟨by rw[show Em s=false from by unfold Em;simp[He1.out]];try rfl,by exact Aa⟩
 have e11:(s.Last == 0)=true:=by simpa using e1
 have He1:=Lib.hid e1;clear e1
 by_cases e2:s.Busy=0
 rotate_left
 .
  have e21:(s.Busy == 0)=false:=by simpa using e2
  have He2:=Lib.hid e2;clear e2
  refine rx0 Wt fun w1 hx1=>?_
  go_wp2_with (fail)
  go_ret
  exact⟨by rw[show Em s=false from by unfold Em;simp[He2.out]];try rfl,by exact Aa⟩
 have e21:(s.Busy == 0)=true:=by simpa using e2
 have He2:=Lib.hid e2;clear e2
 refine rx0 Wt fun w1 hx1=>?_
 go_wp2_with (fail)
 go_ret
 exact⟨by rw[show Em s=true from by unfold Em;simp[b1,b2,He0.out,He1.out,He2.out]];try rfl,by exact Aa⟩
theorem lM{w:World}{v:Value}{n:It}(h:Ix w v n)(up:Bool):Calls Tryz.prog 109 #[v,.bool up] w (Cp w (.bool (Ho n up))):=by
 obtain⟨p,rfl⟩:=h.list
 have hl:=h.len
 have E0:Ext w (w.alloc (.cells p.toArray 88)):=by exact Aa
 have BD:Bk (w.alloc (.cells p.toArray 88)) w.heap.size 88 p:=Bk.new _ _ _
 have hR:(w.alloc (.cells p.toArray 88)).rangeAt w.heap.size 0 p:=Bk.range (A:=[]) (C:=[]) (Bk.cast BD (by simp)) rfl
 go_enter Tryz.func109,Tryz.ntmps109
 cases up
 .
  go_wp2_with (first|(refine wpList_load_mid rfl 88 _ rfl w.heap.size 0 (by rfl) p _ hR Tryz.underlying88 rfl (by rw[hl];kernel_rfl) ?_))
  refine(bH (h.ext E0)).mono ?_
  rintro e w1⟨rfl,hx1⟩
  go_wp2_with fail
  go_ret
  exact⟨rfl,E0.trans hx1⟩
 go_wp2_with (first|(refine wpList_load_mid rfl 88 _ rfl w.heap.size 0 (by rfl) p _ hR Tryz.underlying88 rfl (by rw[hl];kernel_rfl) ?_))
 refine(kR (h.ext E0)).mono ?_
 rintro e w1⟨rfl,hx1⟩
 go_wp2_with fail
 go_ret
 exact⟨rfl,E0.trans hx1⟩
theorem Sz{w:World}{v:Value}{d:Fb}(h:Gu w v d):Calls Tryz.prog 40 #[v] w (Cp w (.bool (Ch d))):=by
 obtain⟨p0,p1,p2,p3,p4,p5,p6,t7,t8,rfl,l0,l1,l2,l3,l4,l5,l6,g0,g1,g2,g3,g4,g5,g6,g7,g8⟩:=h
 have h8:=g8
 obtain⟨ua,uc,rfl,huc,hum,-⟩:=Sl.bools g8
 unfold maxLen at hum
 obtain⟨un,hun⟩:∃x,x=d.Up.length:=⟨_,rfl⟩
 rw[<-hun] at huc ⊢
 have HUN:=Lib.hid hun;clear hun
 obtain⟨L,hL⟩:∃L:List Value,L=(p0++(p1++(p2++(p3++(p4++(p5++(p6++([t7]++([Value.slice ua un uc]++[]))))))))):=⟨_,rfl⟩
 have hLn:L.length=73:=by rw[hL];simp[l0,l1,l2,l3,l4,l5,l6]
 rw[<-hL]
 obtain⟨W0,hW0⟩:∃W0,W0=w.alloc (.cells L.toArray 106):=⟨_,rfl⟩
 have E0:Ext w W0:=by rw[hW0];exact(Ext.refl _).alloc _
 have BL:Bk W0 w.heap.size 106 L:=by rw[hW0];exact Bk.new _ _ _
 have RL:W0.rangeAt w.heap.size 0 L:=Bk.range (A:=[]) (C:=[]) (Bk.cast BL (by simp)) rfl
 have BD:Bk W0 w.heap.size 106 (p0++(p1++(p2++(p3++(p4++(p5++(p6++([t7]++([Value.slice ua un uc]++[]))))))))):=Bk.cast BL hL
 have LW:=BL.lt
 have R0:W0.rangeAt w.heap.size 0 p0:=Bk.range (A:=[]) (cs:=p0) (C:=(p1++(p2++(p3++(p4++(p5++(p6++([t7]++([Value.slice ua un uc]++[]))))))))) (Bk.c BD) (by simp[l0,l1,l2,l3,l4,l5,l6])
 have R1:W0.rangeAt w.heap.size 19 p1:=Bk.range (A:=p0) (cs:=p1) (C:=(p2++(p3++(p4++(p5++(p6++([t7]++([Value.slice ua un uc]++[])))))))) (Bk.c BD) (by simp[l0,l1,l2,l3,l4,l5,l6])
 have R2:W0.rangeAt w.heap.size 31 p2:=Bk.range (A:=(p0++p1)) (cs:=p2) (C:=(p3++(p4++(p5++(p6++([t7]++([Value.slice ua un uc]++[]))))))) (Bk.c BD) (by simp[l0,l1,l2,l3,l4,l5,l6])
 have R3:W0.rangeAt w.heap.size 46 p3:=Bk.range (A:=(p0++p1++p2)) (cs:=p3) (C:=(p4++(p5++(p6++([t7]++([Value.slice ua un uc]++[])))))) (Bk.c BD) (by simp[l0,l1,l2,l3,l4,l5,l6])
 have R4:W0.rangeAt w.heap.size 61 p4:=Bk.range (A:=(p0++p1++p2++p3)) (cs:=p4) (C:=(p5++(p6++([t7]++([Value.slice ua un uc]++[]))))) (Bk.c BD) (by simp[l0,l1,l2,l3,l4,l5,l6])
 have R5:W0.rangeAt w.heap.size 65 p5:=Bk.range (A:=(p0++p1++p2++p3++p4)) (cs:=p5) (C:=(p6++([t7]++([Value.slice ua un uc]++[])))) (Bk.c BD) (by simp[l0,l1,l2,l3,l4,l5,l6])
 have R6:W0.rangeAt w.heap.size 69 p6:=Bk.range (A:=(p0++p1++p2++p3++p4++p5)) (cs:=p6) (C:=([t7]++([Value.slice ua un uc]++[]))) (Bk.c BD) (by simp[l0,l1,l2,l3,l4,l5,l6])
 have cC:W0.cell? ⟨w.heap.size,71,none⟩=some t7:=Bk.cellAt (A:=(p0++p1++p2++p3++p4++p5++p6)) (C:=([Value.slice ua un uc]++[])) (Bk.c BD) (by simp[l0,l1,l2,l3,l4,l5,l6])
 have cU:W0.cell? ⟨w.heap.size,72,none⟩=some (.slice ua un uc):=Bk.cellAt (A:=(p0++p1++p2++p3++p4++p5++p6++[t7])) (C:=[]) (Bk.c BD) (by simp[l0,l1,l2,l3,l4,l5,l6])
 clear hL BL BD
 go_enter Tryz.func40,Tryz.ntmps40
 go_upto_region 1 with(fail)
 rw[<-hW0]
 clear hW0
 have g7:Aj 1 w t7 d.Clocks:=g7
 have tl:=g7
 obtain⟨ta,tn,tk,rfl,htl,htc,htm,-⟩:=tl.open_
 simp only[Nat.mul_one] at htl
 unfold maxLen at htm
 have HTL:=Lib.hid htl;clear htl tl
 by_cases a6:un=6
 rotate_left
 .
  have n1:((un:Int) != 6)=true:=by simp;omega
  have n2:decide (un=6)=false:=by simpa using a6
  have Ha6:=Lib.hid a6;clear a6
  go_wp2_with (fail)
  go_ret
  exact⟨by rw[show Ch d=false from by unfold Ch;simp[show ¬ d.Up.length=6 from by rw[<-HUN.out];exact Ha6.out]];try rfl,by exact Aa⟩
 have n1a6:((un:Int) != 6)=false:=by simp;omega
 have n2a6:decide (un=6)=true:=by simpa using a6
 have Ha6:=Lib.hid a6
 have H6:=Lib.hid (show d.Up.length=6 from by rw[<-HUN.out];exact a6);clear a6
 obtain⟨ub,uo,uc2,eu,-,-,hub,hup⟩:=Rt h8 H6.out
 rw[<-HUN.out,Ha6.out] at eu
 cases eu
 have hup:=fun k hk=>E0.cell (hup k hk)
 have hb0:0<un:=(by have:=Ha6.out;omega);have hb1:1<un:=(by have:=Ha6.out;omega);have hb2:2<un:=(by have:=Ha6.out;omega);have hb3:3<un:=(by have:=Ha6.out;omega);have hb4:4<un:=(by have:=Ha6.out;omega);have hb5:5<un:=(by have:=Ha6.out;omega)
 have hc1:(1:Int)<(un:Int):=by omega
 have hc2:(2:Int)<(un:Int):=by omega
 have hc3:(3:Int)<(un:Int):=by omega
 by_cases t6:tn=6
 rotate_left
 .
  have n1:((tn:Int) != 6)=true:=by simp;omega
  have n2:decide (tn=6)=false:=by simpa using t6
  have Ht6:=Lib.hid t6;clear t6
  go_wp2_with (fail)
  go_ret
  exact⟨by rw[show Ch d=false from by unfold Ch;simp[show He d.Clocks=false from by unfold He;rw[show decide (d.Clocks.length=6)=false by simp[HTL.out,Ht6.out]];rfl]];try rfl,by exact Aa⟩
 have n1t6:((tn:Int) != 6)=false:=by simp;omega
 have n2t6:decide (tn=6)=true:=by simpa using t6
 have Ht6:=Lib.hid t6
 clear t6
 have u0:=hup 0 dC;have u1:=hup 1 dC;have u2:=hup 2 dC;have u3:=hup 3 dC;have u4:=hup 4 dC;have u5:=hup 5 dC
 simp only[Nat.add_zero] at u0
 clear hup
 cases b4:Jk d 4
 .
  rw[b4] at u4
  go_wp2_with (fail)
  go_ret
  exact⟨by rw[show Ch d=false from by unfold Ch;simp[Dh,b4]];try rfl,by exact Aa⟩
 rw[b4] at u4
 have B4:=Lib.hid b4;clear b4
 cases b5:Jk d 5
 .
  rw[b5] at u5
  go_wp2_with (fail)
  go_ret
  exact⟨by rw[show Ch d=false from by unfold Ch;simp[Dh,b5]];try rfl,by exact Aa⟩
 rw[b5] at u5
 have B5:=Lib.hid b5;clear b5
 obtain⟨y0,hy0⟩:∃b,b=Jk d 0:=⟨_,rfl⟩
 rw[<-hy0] at u0
 have Y0:=Lib.hid hy0;clear hy0
 obtain⟨y1,hy1⟩:∃b,b=Jk d 1:=⟨_,rfl⟩
 rw[<-hy1] at u1
 have Y1:=Lib.hid hy1;clear hy1
 obtain⟨y2,hy2⟩:∃b,b=Jk d 2:=⟨_,rfl⟩
 rw[<-hy2] at u2
 have Y2:=Lib.hid hy2;clear hy2
 obtain⟨y3,hy3⟩:∃b,b=Jk d 3:=⟨_,rfl⟩
 rw[<-hy3] at u3
 have Y3:=Lib.hid hy3;clear hy3
 go_upto_region 3 with(fail)
 refine wp_region_held_drew (S:=fun w'=>Ext W0 w') (by kernel_rfl) (by(try dsimp only);exact Aa) (fun hHeld=>?_)
 refine wt 0 ?_
 (try simp only[Ab,Act.put])
 refine wpAnyH_take (i:=1) (v:=?_) rfl (by kernel_rfl) (by kernel_rfl) (by kernel_rfl) (fun _ _ _ h=>h) (Or.inl ⟨by rfl,?_⟩) (by assumption) ?_
 rotate_left
 focus(intro w hSw;(try dsimp only at hSw);have qC:=hSw.cell cC;go_simp <;> with_reducible rfl)
 (try simp only[Ab,Act.put])
 refine wr1 2 fun Kz hKz=>?_
 (try simp only[Ab])
 go_simp
 go_at_call 107
 refine(jE _ _ d.Clocks (g7.ext Aa)).mono ?_
 rintro e v1⟨rfl,hx1⟩
 skip
 have Z1:Ext W0 v1:=Ext.trans Aa hx1
 clear hx1
 refine hKz.out _ _ (by(try dsimp only);exact Aa) (fun hHeld=>?_)
 clear hKz Kz
 (try simp only[Ab,Act.put])
 cases q1:He d.Clocks
 .
  refine wt 3 ?_
  (try simp only[Ab,Act.put])
  refine wt 4 ?_
  (try simp only[Ab,Act.put])
  refine wpAnyH_take (i:=5) (v:=undef) rfl (by kernel_rfl) (by kernel_rfl) (by kernel_rfl) (fun _ _ _ h=>h) (Or.inr ⟨by rfl,rfl⟩) (by assumption) ?_
  (try simp only[Ab,Act.put])
  refine wpAnyH_take (i:=6) (v:=undef) rfl (by kernel_rfl) (by kernel_rfl) (by kernel_rfl) (fun _ _ _ h=>h) (Or.inr ⟨by rfl,rfl⟩) (by assumption) ?_
  (try simp only[Ab,Act.put])
  refine wpAnyH_take (i:=7) (v:=undef) rfl (by kernel_rfl) (by kernel_rfl) (by kernel_rfl) (fun _ _ _ h=>h) (Or.inr ⟨by rfl,rfl⟩) (by assumption) ?_
  (try simp only[Ab,Act.put])
  refine wpAnyH_take (i:=8) (v:=undef) rfl (by kernel_rfl) (by kernel_rfl) (by kernel_rfl) (fun _ _ _ h=>h) (Or.inr ⟨by rfl,rfl⟩) (by assumption) ?_
  (try simp only[Ab,Act.put])
  refine wpAnyH_take (i:=9) (v:=undef) rfl (by kernel_rfl) (by kernel_rfl) (by kernel_rfl) (fun _ _ _ h=>h) (Or.inr ⟨by rfl,rfl⟩) (by assumption) ?_
  (try simp only[Ab,Act.put])
  refine wpAnyH_take (i:=10) (v:=undef) rfl (by kernel_rfl) (by kernel_rfl) (by kernel_rfl) (fun _ _ _ h=>h) (Or.inr ⟨by rfl,rfl⟩) (by assumption) ?_
  (try simp only[Ab,Act.put])
  refine wpAnyH_take (i:=11) (v:=undef) rfl (by kernel_rfl) (by kernel_rfl) (by kernel_rfl) (fun _ _ _ h=>h) (Or.inr ⟨by rfl,rfl⟩) (by assumption) ?_
  (try simp only[Ab,Act.put])
  refine wpAnyH_take (i:=12) (v:=undef) rfl (by kernel_rfl) (by kernel_rfl) (by kernel_rfl) (fun _ _ _ h=>h) (Or.inr ⟨by rfl,rfl⟩) (by assumption) ?_
  (try simp only[Ab,Act.put])
  refine wt 13 ?_
  (try simp only[Ab,Act.put])
  refine wt 14 ?_
  (try simp only[Ab,Act.put])
  refine wpAnyH_take (i:=15) (v:=undef) rfl (by kernel_rfl) (by kernel_rfl) (by kernel_rfl) (fun _ _ _ h=>h) (Or.inr ⟨by rfl,rfl⟩) (by assumption) ?_
  (try simp only[Ab,Act.put])
  refine wpAnyH_take (i:=16) (v:=undef) rfl (by kernel_rfl) (by kernel_rfl) (by kernel_rfl) (fun _ _ _ h=>h) (Or.inr ⟨by rfl,rfl⟩) (by assumption) ?_
  (try simp only[Ab,Act.put])
  refine wpAnyH_take (i:=17) (v:=undef) rfl (by kernel_rfl) (by kernel_rfl) (by kernel_rfl) (fun _ _ _ h=>h) (Or.inr ⟨by rfl,rfl⟩) (by assumption) ?_
  (try simp only[Ab,Act.put])
  refine wpAnyH_take (i:=18) (v:=undef) rfl (by kernel_rfl) (by kernel_rfl) (by kernel_rfl) (fun _ _ _ h=>h) (Or.inr ⟨by rfl,rfl⟩) (by assumption) ?_
  (try simp only[Ab,Act.put])
  refine wpAnyH_take (i:=19) (v:=undef) rfl (by kernel_rfl) (by kernel_rfl) (by kernel_rfl) (fun _ _ _ h=>h) (Or.inr ⟨by rfl,rfl⟩) (by assumption) ?_
  (try simp only[Ab,Act.put])
  refine wpAnyH_take (i:=20) (v:=undef) rfl (by kernel_rfl) (by kernel_rfl) (by kernel_rfl) (fun _ _ _ h=>h) (Or.inr ⟨by rfl,rfl⟩) (by assumption) ?_
  (try simp only[Ab,Act.put])
  refine wpAnyH_take (i:=21) (v:=undef) rfl (by kernel_rfl) (by kernel_rfl) (by kernel_rfl) (fun _ _ _ h=>h) (Or.inr ⟨by rfl,rfl⟩) (by assumption) ?_
  (try simp only[Ab,Act.put])
  refine wpAnyH_take (i:=22) (v:=undef) rfl (by kernel_rfl) (by kernel_rfl) (by kernel_rfl) (fun _ _ _ h=>h) (Or.inr ⟨by rfl,rfl⟩) (by assumption) ?_
  (try simp only[Ab,Act.put])
  refine wt 23 ?_
  (try simp only[Ab,Act.put])
  refine wpAnyH_done (by kernel_rfl) ?_ _
  go_wp2_with fail
  go_ret
  exact⟨by rw[show Ch d=false from by unfold Ch;simp[q1]];try rfl,by exact Aa⟩
 refine wt 3 ?_
 (try simp only[Ab,Act.put])
 refine wt 4 ?_
 (try simp only[Ab,Act.put])
 refine wt 5 ?_
 (try simp only[Ab,Act.put])
 refine wpAnyH_take (i:=6) (v:=.agg p0.toArray) rfl (by kernel_rfl) (by kernel_rfl) (by kernel_rfl) (fun _ _ _ h=>h) (yieldsIf_load_mid (by rfl) 81 (.tmp 32) rfl w.heap.size 0 (by rfl) p0 _ (fun _ hSw=>Al R0 hSw) Tryz.underlying81 rfl (by rw[l0];kernel_rfl)) (by assumption) ?_
 (try simp only[Ab,Act.put])
 refine wt 7 ?_
 (try simp only[Ab,Act.put])
 refine wpAnyH_take (i:=8) (v:=?_) rfl (by kernel_rfl) (by kernel_rfl) (by kernel_rfl) (fun _ _ _ h=>h) (Or.inl ⟨by rfl,?_⟩) (by assumption) ?_
 rotate_left
 focus(intro w hSw;(try dsimp only at hSw);have qU:=hSw.cell cU;go_simp <;> with_reducible rfl)
 (try simp only[Ab,Act.put])
 refine wt 9 ?_
 (try simp only[Ab,Act.put])
 refine wpAnyH_take (i:=10) (v:=?_) rfl (by kernel_rfl) (by kernel_rfl) (by kernel_rfl) (fun _ _ _ h=>h) (Or.inl ⟨by rfl,?_⟩) (by assumption) ?_
 rotate_left
 focus(intro w hSw;(try dsimp only at hSw);have qx:=hSw.cell u0;go_simp <;> with_reducible rfl)
 (try simp only[Ab,Act.put])
 refine wr1 11 fun Kz hKz=>?_
 (try simp only[Ab])
 go_simp
 go_at_call 108
 refine(rT (g0.ext Aa) y0).mono ?_
 rintro e v2⟨rfl,hx2⟩
 skip
 have Z2:Ext W0 v2:=Ext.trans Aa hx2
 clear hx2
 refine hKz.out _ _ (by(try dsimp only);exact Aa) (fun hHeld=>?_)
 clear hKz Kz
 (try simp only[Ab,Act.put])
 cases q2:Mn d.Log y0
 .
  refine wt 12 ?_
  (try simp only[Ab,Act.put])
  refine wt 13 ?_
  (try simp only[Ab,Act.put])
  refine wt 14 ?_
  (try simp only[Ab,Act.put])
  refine wpAnyH_take (i:=15) (v:=undef) rfl (by kernel_rfl) (by kernel_rfl) (by kernel_rfl) (fun _ _ _ h=>h) (Or.inr ⟨by rfl,rfl⟩) (by assumption) ?_
  (try simp only[Ab,Act.put])
  refine wpAnyH_take (i:=16) (v:=undef) rfl (by kernel_rfl) (by kernel_rfl) (by kernel_rfl) (fun _ _ _ h=>h) (Or.inr ⟨by rfl,rfl⟩) (by assumption) ?_
  (try simp only[Ab,Act.put])
  refine wpAnyH_take (i:=17) (v:=undef) rfl (by kernel_rfl) (by kernel_rfl) (by kernel_rfl) (fun _ _ _ h=>h) (Or.inr ⟨by rfl,rfl⟩) (by assumption) ?_
  (try simp only[Ab,Act.put])
  refine wpAnyH_take (i:=18) (v:=undef) rfl (by kernel_rfl) (by kernel_rfl) (by kernel_rfl) (fun _ _ _ h=>h) (Or.inr ⟨by rfl,rfl⟩) (by assumption) ?_
  (try simp only[Ab,Act.put])
  refine wpAnyH_take (i:=19) (v:=undef) rfl (by kernel_rfl) (by kernel_rfl) (by kernel_rfl) (fun _ _ _ h=>h) (Or.inr ⟨by rfl,rfl⟩) (by assumption) ?_
  (try simp only[Ab,Act.put])
  refine wpAnyH_take (i:=20) (v:=undef) rfl (by kernel_rfl) (by kernel_rfl) (by kernel_rfl) (fun _ _ _ h=>h) (Or.inr ⟨by rfl,rfl⟩) (by assumption) ?_
  (try simp only[Ab,Act.put])
  refine wpAnyH_take (i:=21) (v:=undef) rfl (by kernel_rfl) (by kernel_rfl) (by kernel_rfl) (fun _ _ _ h=>h) (Or.inr ⟨by rfl,rfl⟩) (by assumption) ?_
  (try simp only[Ab,Act.put])
  refine wpAnyH_take (i:=22) (v:=undef) rfl (by kernel_rfl) (by kernel_rfl) (by kernel_rfl) (fun _ _ _ h=>h) (Or.inr ⟨by rfl,rfl⟩) (by assumption) ?_
  (try simp only[Ab,Act.put])
  refine wt 23 ?_
  (try simp only[Ab,Act.put])
  refine wpAnyH_done (by kernel_rfl) ?_ _
  go_wp2_with fail
  go_ret
  exact⟨by rw[show Ch d=false from by unfold Ch;simp[show Mn d.Log (Jk d 0)=false from by rw[<-Y0.out];exact q2]];try rfl,by exact Aa⟩
 refine wt 12 ?_
 (try simp only[Ab,Act.put])
 refine wt 13 ?_
 (try simp only[Ab,Act.put])
 refine wt 14 ?_
 (try simp only[Ab,Act.put])
 refine wt 15 ?_
 (try simp only[Ab,Act.put])
 refine wpAnyH_take (i:=16) (v:=.agg p1.toArray) rfl (by kernel_rfl) (by kernel_rfl) (by kernel_rfl) (fun _ _ _ h=>h) (yieldsIf_load_mid (by rfl) 88 (.tmp 42) rfl w.heap.size 19 (by rfl) p1 _ (fun _ hSw=>Al R1 hSw) Tryz.underlying88 rfl (by rw[l1];kernel_rfl)) (by assumption) ?_
 (try simp only[Ab,Act.put])
 refine wt 17 ?_
 (try simp only[Ab,Act.put])
 refine wpAnyH_take (i:=18) (v:=?_) rfl (by kernel_rfl) (by kernel_rfl) (by kernel_rfl) (fun _ _ _ h=>h) (Or.inl ⟨by rfl,?_⟩) (by assumption) ?_
 rotate_left
 focus(intro w hSw;(try dsimp only at hSw);have qU:=hSw.cell cU;go_simp <;> with_reducible rfl)
 (try simp only[Ab,Act.put])
 refine wt 19 ?_
 (try simp only[Ab,Act.put])
 refine wpAnyH_take (i:=20) (v:=?_) rfl (by kernel_rfl) (by kernel_rfl) (by kernel_rfl) (fun _ _ _ h=>h) (Or.inl ⟨by rfl,?_⟩) (by assumption) ?_
 rotate_left
 focus(intro w hSw;(try dsimp only at hSw);have qx:=hSw.cell u1;go_simp <;> with_reducible rfl)
 (try simp only[Ab,Act.put])
 refine wr1 21 fun Kz hKz=>?_
 (try simp only[Ab])
 go_simp
 go_at_call 109
 refine(lM (g1.ext Aa) y1).mono ?_
 rintro e v3⟨rfl,hx3⟩
 skip
 have Z3:Ext W0 v3:=Ext.trans Aa hx3
 clear hx3
 refine hKz.out _ _ (by(try dsimp only);exact Aa) (fun hHeld=>?_)
 clear hKz Kz
 (try simp only[Ab,Act.put])
 cases q3:Ho d.Store y1
 .
  refine wt 22 ?_
  (try simp only[Ab,Act.put])
  refine wt 23 ?_
  (try simp only[Ab,Act.put])
  refine wpAnyH_done (by kernel_rfl) ?_ _
  go_wp2_with fail
  go_ret
  exact⟨by rw[show Ch d=false from by unfold Ch;simp[show Ho d.Store (Jk d 1)=false from by rw[<-Y1.out];exact q3]];try rfl,by exact Aa⟩
 refine wt 22 ?_
 (try simp only[Ab,Act.put])
 refine wt 23 ?_
 (try simp only[Ab,Act.put])
 refine wpAnyH_done (by kernel_rfl) ?_ _
 have Q1:=Lib.hid q1;have Q2:=Lib.hid (show Mn d.Log (Jk d 0)=true from by rw[<-Y0.out];exact q2);have Q3:=Lib.hid (show Ho d.Store (Jk d 1)=true from by rw[<-Y1.out];exact q3);clear q1 q2 q3
 go_upto_region 5 with(fail)
 refine wp_region_held_drew (S:=fun w'=>Ext W0 w') (by kernel_rfl) (by(try dsimp only);exact Aa) (fun hHeld=>?_)
 refine wt 0 ?_
 (try simp only[Ab,Act.put])
 refine wpAnyH_take (i:=1) (v:=.agg p2.toArray) rfl (by kernel_rfl) (by kernel_rfl) (by kernel_rfl) (fun _ _ _ h=>h) (yieldsIf_load_mid (by rfl) 96 (.tmp 51) rfl w.heap.size 31 (by rfl) p2 _ (fun _ hSw=>Al R2 hSw) Tryz.underlying96 rfl (by rw[l2];kernel_rfl)) (by assumption) ?_
 (try simp only[Ab,Act.put])
 refine wt 2 ?_
 (try simp only[Ab,Act.put])
 refine wpAnyH_take (i:=3) (v:=?_) rfl (by kernel_rfl) (by kernel_rfl) (by kernel_rfl) (fun _ _ _ h=>h) (Or.inl ⟨by rfl,?_⟩) (by assumption) ?_
 rotate_left
 focus(intro w hSw;(try dsimp only at hSw);have qU:=hSw.cell cU;go_simp <;> with_reducible rfl)
 (try simp only[Ab,Act.put])
 refine wt 4 ?_
 (try simp only[Ab,Act.put])
 refine wpAnyH_take (i:=5) (v:=?_) rfl (by kernel_rfl) (by kernel_rfl) (by kernel_rfl) (fun _ _ _ h=>h) (Or.inl ⟨by rfl,?_⟩) (by assumption) ?_
 rotate_left
 focus(intro w hSw;(try dsimp only at hSw);have qx:=hSw.cell u2;go_simp <;> with_reducible rfl)
 (try simp only[Ab,Act.put])
 refine wr1 6 fun Kz hKz=>?_
 (try simp only[Ab])
 go_simp
 go_at_call 110
 refine(aZ _ (g2.ext Aa) 2 (.inl rfl) y2).mono ?_
 rintro e v4⟨rfl,hx4⟩
 skip
 have Z4:Ext W0 v4:=Ext.trans Aa hx4
 clear hx4
 refine hKz.out _ _ (by(try dsimp only);exact Aa) (fun hHeld=>?_)
 clear hKz Kz
 (try simp only[Ab,Act.put])
 cases q4:Et d.Left 2 y2
 .
  refine wt 7 ?_
  (try simp only[Ab,Act.put])
  refine wt 8 ?_
  (try simp only[Ab,Act.put])
  refine wpAnyH_take (i:=9) (v:=undef) rfl (by kernel_rfl) (by kernel_rfl) (by kernel_rfl) (fun _ _ _ h=>h) (Or.inr ⟨by rfl,rfl⟩) (by assumption) ?_
  (try simp only[Ab,Act.put])
  refine wpAnyH_take (i:=10) (v:=undef) rfl (by kernel_rfl) (by kernel_rfl) (by kernel_rfl) (fun _ _ _ h=>h) (Or.inr ⟨by rfl,rfl⟩) (by assumption) ?_
  (try simp only[Ab,Act.put])
  refine wpAnyH_take (i:=11) (v:=undef) rfl (by kernel_rfl) (by kernel_rfl) (by kernel_rfl) (fun _ _ _ h=>h) (Or.inr ⟨by rfl,rfl⟩) (by assumption) ?_
  (try simp only[Ab,Act.put])
  refine wpAnyH_take (i:=12) (v:=undef) rfl (by kernel_rfl) (by kernel_rfl) (by kernel_rfl) (fun _ _ _ h=>h) (Or.inr ⟨by rfl,rfl⟩) (by assumption) ?_
  (try simp only[Ab,Act.put])
  refine wpAnyH_take (i:=13) (v:=undef) rfl (by kernel_rfl) (by kernel_rfl) (by kernel_rfl) (fun _ _ _ h=>h) (Or.inr ⟨by rfl,rfl⟩) (by assumption) ?_
  (try simp only[Ab,Act.put])
  refine wpAnyH_take (i:=14) (v:=undef) rfl (by kernel_rfl) (by kernel_rfl) (by kernel_rfl) (fun _ _ _ h=>h) (Or.inr ⟨by rfl,rfl⟩) (by assumption) ?_
  (try simp only[Ab,Act.put])
  refine wpAnyH_take (i:=15) (v:=undef) rfl (by kernel_rfl) (by kernel_rfl) (by kernel_rfl) (fun _ _ _ h=>h) (Or.inr ⟨by rfl,rfl⟩) (by assumption) ?_
  (try simp only[Ab,Act.put])
  refine wpAnyH_take (i:=16) (v:=undef) rfl (by kernel_rfl) (by kernel_rfl) (by kernel_rfl) (fun _ _ _ h=>h) (Or.inr ⟨by rfl,rfl⟩) (by assumption) ?_
  (try simp only[Ab,Act.put])
  refine wt 17 ?_
  (try simp only[Ab,Act.put])
  refine wpAnyH_done (by kernel_rfl) ?_ _
  go_wp2_with fail
  go_ret
  exact⟨by rw[show Ch d=false from by unfold Ch;simp[show Hg d=false from by unfold Hg;rw[<-Y2.out,q4];rfl]];try rfl,by exact Aa⟩
 refine wt 7 ?_
 (try simp only[Ab,Act.put])
 refine wt 8 ?_
 (try simp only[Ab,Act.put])
 refine wt 9 ?_
 (try simp only[Ab,Act.put])
 refine wpAnyH_take (i:=10) (v:=.agg p3.toArray) rfl (by kernel_rfl) (by kernel_rfl) (by kernel_rfl) (fun _ _ _ h=>h) (yieldsIf_load_mid (by rfl) 96 (.tmp 60) rfl w.heap.size 46 (by rfl) p3 _ (fun _ hSw=>Al R3 hSw) Tryz.underlying96 rfl (by rw[l3];kernel_rfl)) (by assumption) ?_
 (try simp only[Ab,Act.put])
 refine wt 11 ?_
 (try simp only[Ab,Act.put])
 refine wpAnyH_take (i:=12) (v:=?_) rfl (by kernel_rfl) (by kernel_rfl) (by kernel_rfl) (fun _ _ _ h=>h) (Or.inl ⟨by rfl,?_⟩) (by assumption) ?_
 rotate_left
 focus(intro w hSw;(try dsimp only at hSw);have qU:=hSw.cell cU;go_simp <;> with_reducible rfl)
 (try simp only[Ab,Act.put])
 refine wt 13 ?_
 (try simp only[Ab,Act.put])
 refine wpAnyH_take (i:=14) (v:=?_) rfl (by kernel_rfl) (by kernel_rfl) (by kernel_rfl) (fun _ _ _ h=>h) (Or.inl ⟨by rfl,?_⟩) (by assumption) ?_
 rotate_left
 focus(intro w hSw;(try dsimp only at hSw);have qx:=hSw.cell u3;go_simp <;> with_reducible rfl)
 (try simp only[Ab,Act.put])
 refine wr1 15 fun Kz hKz=>?_
 (try simp only[Ab])
 go_simp
 go_at_call 110
 refine(aZ _ (g3.ext Aa) 3 (.inr rfl) y3).mono ?_
 rintro e v5⟨rfl,hx5⟩
 skip
 have Z5:Ext W0 v5:=Ext.trans Aa hx5
 clear hx5
 refine hKz.out _ _ (by(try dsimp only);exact Aa) (fun hHeld=>?_)
 clear hKz Kz
 (try simp only[Ab,Act.put])
 cases q5:Et d.Right 3 y3
 .
  refine wt 16 ?_
  (try simp only[Ab,Act.put])
  refine wt 17 ?_
  (try simp only[Ab,Act.put])
  refine wpAnyH_done (by kernel_rfl) ?_ _
  go_wp2_with fail
  go_ret
  exact⟨by rw[show Ch d=false from by unfold Ch;simp[show Hg d=false from by unfold Hg;rw[<-Y2.out,<-Y3.out,q4,q5];rfl]];try rfl,by exact Aa⟩
 refine wt 16 ?_
 (try simp only[Ab,Act.put])
 refine wt 17 ?_
 (try simp only[Ab,Act.put])
 refine wpAnyH_done (by kernel_rfl) ?_ _
 have Q4:=Lib.hid (show Hg d=true from by unfold Hg;rw[<-Y2.out,<-Y3.out,q4,q5];rfl);clear q4 q5
 go_upto_region 7 with(fail)
 have HC4:=g4
 obtain⟨s1,s2,e4,-,-⟩:=g4.leaves
 have d4:W0.cell? ⟨w.heap.size,61,none⟩=some (.int .i64 d.Ann.Id):=by
  have:=R4 0 (.int .i64 d.Ann.Id) (by rw[Ct (M:=[Value.int .i64 d.Ann.Id,s1,s2,Value.int .i64 d.Ann.Last]) e4];rfl)
  simpa using this
 clear e4 s1 s2
 have HC5:=g5
 obtain⟨s1,s2,e5,-,-⟩:=g5.leaves
 have d5:W0.cell? ⟨w.heap.size,65,none⟩=some (.int .i64 d.Bob.Id):=by
  have:=R5 0 (.int .i64 d.Bob.Id) (by rw[Ct (M:=[Value.int .i64 d.Bob.Id,s1,s2,Value.int .i64 d.Bob.Last]) e5];rfl)
  simpa using this
 clear e5 s1 s2
 go_wp2_with (first|(refine wpList_load_mid rfl 100 _ rfl w.heap.size 61 (by rfl) p4 _ (Al R4 Aa) Tryz.underlying100 rfl (by rw[l4];kernel_rfl) ?_))
 refine(Tz (HC4.ext Aa)).mono ?_
 rintro e z1⟨rfl,hx⟩
 have S1:Ext W0 z1:=Ext.trans Aa hx;clear hx
 cases k4:Dm d.Ann
 .
  go_wp2_with (fail)
  go_ret
  exact⟨by rw[show Ch d=false from by unfold Ch;simp[show Dh d=false from by unfold Dh;simp[k4]]];try rfl,by exact Aa⟩
 have f4:=S1.cell d4
 by_cases e4:d.Ann.Id=4
 rotate_left
 .
  have e41:(d.Ann.Id == 4)=false:=by simpa using e4
  have e42:decide (d.Ann.Id=4)=false:=by simpa using e4
  have He4:=Lib.hid e4;clear e4
  go_wp2_with (fail)
  go_ret
  exact⟨by rw[show Ch d=false from by unfold Ch;simp[show Dh d=false from by unfold Dh;simp[He4.out]]];try rfl,by exact Aa⟩
 have e41:(d.Ann.Id == 4)=true:=by simpa using e4
 have e42:decide (d.Ann.Id=4)=true:=by simpa using e4
 have He4:=Lib.hid e4;clear e4
 go_wp2_with (first|(refine Hp rfl 100 _ rfl w.heap.size 65 (by rfl) p5 _ (Al R5 Aa) Tryz.underlying100 rfl (by rw[l5];kernel_rfl) ?_))
 refine(Tz (HC5.ext Aa)).mono ?_
 rintro e z2⟨rfl,hx⟩
 have S2:Ext W0 z2:=Ext.trans Aa hx;clear hx
 cases k5:Dm d.Bob
 .
  go_wp2_with (fail)
  go_ret
  exact⟨by rw[show Ch d=false from by unfold Ch;simp[show Dh d=false from by unfold Dh;simp[k5]]];try rfl,by exact Aa⟩
 have f5:=S2.cell d5
 by_cases e5:d.Bob.Id=5
 rotate_left
 .
  have e51:(d.Bob.Id == 5)=false:=by simpa using e5
  have e52:decide (d.Bob.Id=5)=false:=by simpa using e5
  have He5:=Lib.hid e5;clear e5
  go_wp2_with (fail)
  go_ret
  exact⟨by rw[show Ch d=false from by unfold Ch;simp[show Dh d=false from by unfold Dh;simp[He5.out]]];try rfl,by exact Aa⟩
 have e51:(d.Bob.Id == 5)=true:=by simpa using e5
 have e52:decide (d.Bob.Id=5)=true:=by simpa using e5
 have He5:=Lib.hid e5;clear e5
 have QC:=Lib.hid (show Dh d=true from by unfold Dh;simp[B4.out,B5.out,k4,k5,He4.out,He5.out]);clear k4 k5
 go_wp2_with (first|(refine Hp rfl 104 _ rfl w.heap.size 69 (by rfl) p6 _ (Al R6 Aa) Tryz.underlying104 rfl (by rw[l6];kernel_rfl) ?_))
 refine(rD (g6.ext Aa)).mono ?_
 rintro e z3⟨rfl,hx⟩
 have S3:Ext W0 z3:=Ext.trans Aa hx;clear hx
 have HD:=Lib.hid (show Ch d=Gh d.Net from by unfold Ch;rw[Q1.out,Q2.out,Q3.out,Q4.out,QC.out,show decide (d.Up.length=6)=true by simpa using H6.out];simp)
 go_wp2_with fail
 go_ret
 exact⟨by rw[HD.out];try rfl,by exact Aa⟩
end Go.Proofs.YtkpmbocbbgocbaaGreat
