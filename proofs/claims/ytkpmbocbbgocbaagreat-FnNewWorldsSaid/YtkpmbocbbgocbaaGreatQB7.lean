/- LkD LkF LkA LkG LkH. -/
import Derived.Test.YtkpmbocbbgocbaaGreatQB6
set_option linter.unusedSimpArgs false
set_option linter.unusedVariables false
set_option maxHeartbeats 8000000
set_option maxRecDepth 100000
namespace Go.Proofs.YtkpmbocbbgocbaaGreat
open Go.RowKit Go.G8
theorem tO:(Tryz.prog.info? 281).map (fun i=>(i.zero,i.size,i.bytes))=some (some (.agg #[.int .i64 0,.int .i64 0,.int .i64 0,.int .i64 0,.int .i64 0,.int .i64 0,.int .i64 0,.int .i64 0,.int .i64 0]),9,72):=by kernel_rfl
theorem dH(w:World)(Ae Ax:Int)(Fy:Value)(Ao:List Aq)(f t:Int)(Ek:Aj 9 w Fy (Ds Ao))(e0:Ao.length<=20):Calls Tryz.prog 380 #[.agg #[.int .i64 Ae,.int .i64 Ax,Fy],.int .i64 f,.int .i64 t] w (Ret w fun r w'=>Aj 9 w' r (Ds (Wn (⟨Ae,Ax,Ao⟩:Df) f t))):=by
 obtain⟨i0,hi,hz0,hz1,hz2⟩:=info_parts tO
 obtain⟨a2,cap2,rfl,hcap2,hm2,ha2⟩:=Ek.recs (f:=Aq.ints) (fun _=>rfl) dC
 have HA:=Lib.hid ha2
 clear ha2
 unfold maxLen at hm2
 obtain⟨W0,hW0⟩:∃W0,W0=w.alloc (.cells #[.int .i64 Ae,.int .i64 Ax,.slice a2 Ao.length cap2] 78):=⟨_,rfl⟩
 have hEw:Ext w W0:=by rw[hW0];exact(Ext.refl _).alloc _
 have KX:Blk W0 w.heap.size 78 #[.int .i64 Ae,.int .i64 Ax,.slice a2 Ao.length cap2]:=by rw[hW0];exact Blk.new _ _ _
 have hLX:=KX.lt
 have I0:=KX.cell 0;have I1:=KX.cell 1;have I2:=KX.cell 2
 simp only[List.getElem?_toArray,List.getElem?_cons_zero,List.getElem?_cons_succ] at I0 I1 I2
 go_enter Tryz.func380,Tryz.ntmps380
 go_upto_region 1 with(fail)
 rw[<-hW0]
 clear hW0 KX
 go_wp2_with fail
 go_loopw [7,8] (fun out ii wr=>∃k:Nat,k<=Ao.length/\ii=.int .i64 k/\Ext W0 wr/\Af W0.heap.size 281 9 wr out (Ds ((Ao.take k).filter (fun e=>inb e.Index f t)))) (fun _ ii _=>Ao.length - (intOf ii).toNat)
 case atStart=>exact⟨0,Nat.zero_le _,rfl,(Ext.refl _).alloc _,Af.lit0m W0 _ _⟩
 case round =>
  obtain⟨k,hk,rfl,he,hown⟩:=hrel
  have hzr:=he.size
  obtain⟨a1,n1,c1,rfl,-,-,-⟩:=hown.open_
  have hEr:=hEw.trans he
  have J0:=he.cell I0;have J1:=he.cell I1;have J2:=he.cell I2
  by_cases hlt:k<Ao.length
  .
   obtain⟨d,b1,o1,hd,rfl,hb1,c⟩:=HA.out k hlt
   have d0:=hEr.cell (c 0 _ dC rfl)
   have d1:=hEr.cell (c 1 _ dC rfl)
   have d2:=hEr.cell (c 2 _ dC rfl)
   have d3:=hEr.cell (c 3 _ dC rfl)
   have d4:=hEr.cell (c 4 _ dC rfl)
   have d5:=hEr.cell (c 5 _ dC rfl)
   have d6:=hEr.cell (c 6 _ dC rfl)
   have d7:=hEr.cell (c 7 _ dC rfl)
   have d8:=hEr.cell (c 8 _ dC rfl)
   simp only[Nat.add_zero] at d0
   have HN:=Lib.hid (Tw (p:=fun e=>inb e.Index f t) hd)
   have HLEN:Hid (((Ao.take k).filter (fun e=>inb e.Index f t)).length<=20):=Lib.hid (by have h1:=List.length_filter_le (fun e:Aq=>inb e.Index f t) (Ao.take k);rw[List.length_take] at h1;omega)
   clear hd c
   cases hp:inb d.Index f t
   .
    go_wp2_with (first|(go_at_call 303;refine(Dv _ _ _ _).mono ?_;rintro e9 w9 ⟨rfl,rfl⟩;rw[hp]))
    go_roundw
    case rel=>exact⟨k+1,by omega,by go_num,by exact Aa,Oj hown (by rw[HN.out];simp only[hp];simp)⟩
    case measure=>simp[intOf];omega
   go_wp2_with (first|(go_at_call 303;refine(Dv _ _ _ _).mono ?_;rintro e9 w9 ⟨rfl,rfl⟩;rw[hp])|(at_builtin;refine Fg rfl _ _ 76 rfl 281 i0 _ 9 72 Tryz.underlying76 hi hz0 hz1 hz2 rfl dC (W0.heap.size) _ _ rfl (Own.ext hown Aa) _ (([d.Index,d.Time,d.Client,d.Seq,d.Op.Kind,d.Op.A,d.Op.B,d.Op.C,d.Op.D]:List Int).map (.int .i64)) rfl (Sl.oneAtM _ #[.int .i64 d.Index,.int .i64 d.Time,.int .i64 d.Client,.int .i64 d.Seq,.int .i64 d.Op.Kind,.int .i64 d.Op.A,.int .i64 d.Op.B,.int .i64 d.Op.C,.int .i64 d.Op.D] _ 9 _ (by first|rfl|simp) rfl) (ints_oneCell _ _) 1000 (by have:=HLEN.out;simp only[List.length_map,List.length_cons,List.length_nil,List.length_append,Zb];omega) (by unfold maxLen;omega) oM (by simp;omega) W0 Aa oM ?_;rotate_right;intro v1 wa hown1 hea _;have hza:=hea.size))
   go_roundw
   case rel=>exact⟨k+1,by omega,by go_num,by exact Aa,Oj (Vs hown1) (by rw[HN.out];simp only[hp,if_true];rw[iS])⟩
   case measure=>simp[intOf];omega
  obtain rfl:k=Ao.length:=by omega
  rw[List.take_length] at hown
  go_wp2_with fail
  go_ret
  exact⟨_,rfl,by exact Aa,hown.ints⟩
theorem aR{p:Prop}(h:p:=by intro KQ hKQ;(repeat (first|go_big_quiet_skip|(go_big_quiet_want;first|(refine Br _ _ _ ?_ rfl rfl (fun wq hq=>?_) ?_;rotate_left;(focus((try have u0:=hq.cell x90);(try have u1:=hq.cell x91);(try have u2:=hq.cell x92);(try have u3:=hq.cell x93);(try have v0:=hq.cell d0);(try have v1:=hq.cell d1);(try have v2:=hq.cell d2);(try have v3:=hq.cell d3);(try have v4:=hq.cell d4);(try have v5:=hq.cell d5);(try have v6:=hq.cell d6);(try have v7:=hq.cell d7);(try have v8:=hq.cell d8);(try have z18:=hq.cell J18);go_simp;first|done|rfl));(try simp only[Ab,Act.put]);go_big_quiet_on)|(go_big_quiet_op;first|go_big_quiet_on|(refine⟨_,fun _ _=>rfl,?_⟩;go_big_quiet_on)|(apply Exists.intro;refine⟨fun wq hq=>?_,?_⟩;(focus(go_at_call 381;exact Cv hq (by have c:=qJ wq d;rw[<-HYE.out] at c;exact c)));go_big_quiet_on)))));exact wpQuiet_nil hKQ):p:=h
theorem oI(w:World)(Dl:Value)(Ad:List (List Int))(Fe:Value)(Am:List Eb)(Fy:Value)(Ao:List (List Int))(Iq:Value)(Bm:List Eb)(Bl:Int)(Bp:Int)(Bs:Int)(Qq:Value)(Dd:List Ar)(Co:Int)(Cj:Int)(Bg:Int)(Oz:Value)(Cm:List Ar)(Cn:Bool)(Ay:Int)(Bc:Int)(Pa:Value)(Bt:List Aq)(Pb:Value)(Cq:List Ar)(Bn:Int)(Pd:Value)(Cy:List Is)(Dk:Ck 0 w Dl (Ac Ad))(Ev:Ck 1 w Fe (Ah Am))(Ek:Ck 0 w Fy (Ac Ao))(Gm:Ck 1 w Iq (Ah Bm))(Lx:Aj 3 w Qq (Cz Dd))(Le:Aj 3 w Oz (Cz Cm))(Ht:Aj 9 w Pa (Ds Bt))(Mi:Aj 3 w Pb (Cz Cq))(Pe:Aj 4 w Pd (Np Cy))(e0:Qg (⟨⟨⟨Ad,Am⟩,⟨Ao,Bm⟩⟩,⟨Bl,Bp,Bs,Dd⟩,⟨Co,Cj,Bg,Cm⟩,Cn,⟨Ay,Bc,Bt⟩,Cq,Bn,Cy⟩:Ap).Book)(e1:-1<=Bn/\Bn<=2000):Calls Tryz.prog 310 #[.agg #[Dl,Fe,Fy,Iq,.int .i64 Bl,.int .i64 Bp,.int .i64 Bs,Qq,.int .i64 Co,.int .i64 Cj,.int .i64 Bg,Oz,.bool Cn,.int .i64 Ay,.int .i64 Bc,Pa,Pb,.int .i64 Bn,Pd]] w (Cp w (.bool (Ph (⟨⟨⟨Ad,Am⟩,⟨Ao,Bm⟩⟩,⟨Bl,Bp,Bs,Dd⟩,⟨Co,Cj,Bg,Cm⟩,Cn,⟨Ay,Bc,Bt⟩,Cq,Bn,Cy⟩:Ap)))):=by
 obtain⟨a0,n0,k0,rfl⟩:=Dk.shape
 obtain⟨a1,n1,k1,rfl⟩:=Ev.shape
 obtain⟨a2,n2,k2,rfl⟩:=Ek.shape
 obtain⟨a3,n3,k3,rfl⟩:=Gm.shape
 obtain⟨a7,n7,k7,rfl⟩:=Lx.shape
 obtain⟨a11,n11,k11,rfl⟩:=Le.shape
 obtain⟨a15,n15,k15,rfl⟩:=Ht.shape
 obtain⟨a16,n16,k16,rfl⟩:=Mi.shape
 obtain⟨a18,k18,rfl,hc18,hm18,ha18⟩:=Pe.recs (f:=Is.ints) (fun _=>rfl) dC
 have HA18:=Lib.hid ha18
 clear ha18
 unfold maxLen at hm18
 have hlen:=e0.len
 simp only at hlen
 have HP:=Lib.hid e0
 clear e0
 obtain⟨W0,hW0⟩:∃W0,W0=w.alloc (.cells #[.slice a0 n0 k0,.slice a1 n1 k1,.slice a2 n2 k2,.slice a3 n3 k3,.int .i64 Bl,.int .i64 Bp,.int .i64 Bs,.slice a7 n7 k7,.int .i64 Co,.int .i64 Cj,.int .i64 Bg,.slice a11 n11 k11,.bool Cn,.int .i64 Ay,.int .i64 Bc,.slice a15 n15 k15,.slice a16 n16 k16,.int .i64 Bn,.slice a18 Cy.length k18] 81):=⟨_,rfl⟩
 have hEw:Ext w W0:=by rw[hW0];exact(Ext.refl _).alloc _
 have KX:Blk W0 w.heap.size 81 #[.slice a0 n0 k0,.slice a1 n1 k1,.slice a2 n2 k2,.slice a3 n3 k3,.int .i64 Bl,.int .i64 Bp,.int .i64 Bs,.slice a7 n7 k7,.int .i64 Co,.int .i64 Cj,.int .i64 Bg,.slice a11 n11 k11,.bool Cn,.int .i64 Ay,.int .i64 Bc,.slice a15 n15 k15,.slice a16 n16 k16,.int .i64 Bn,.slice a18 Cy.length k18]:=by rw[hW0];exact Blk.new _ _ _
 have hLX:=KX.lt
 have I0:=KX.cell 0;have I1:=KX.cell 1;have I2:=KX.cell 2;have I3:=KX.cell 3;have I4:=KX.cell 4;have I5:=KX.cell 5;have I6:=KX.cell 6;have I7:=KX.cell 7;have I8:=KX.cell 8;have I9:=KX.cell 9;have I10:=KX.cell 10;have I11:=KX.cell 11;have I12:=KX.cell 12;have I13:=KX.cell 13;have I14:=KX.cell 14;have I15:=KX.cell 15;have I16:=KX.cell 16;have I17:=KX.cell 17;have I18:=KX.cell 18
 simp only[List.getElem?_toArray,List.getElem?_cons_zero,List.getElem?_cons_succ] at I0 I1 I2 I3 I4 I5 I6 I7 I8 I9 I10 I11 I12 I13 I14 I15 I16 I17 I18
 go_enter Tryz.func310,Tryz.ntmps310
 go_upto_region 1 with(fail)
 rw[<-hW0]
 clear hW0 KX
 have hwd:IntKind.i64.wrap (Bn+1)=Bn+1:=by rw[IntKind.wrap_i64] <;> omega
 go_upto_region 2 with(first|(go_at_call 380;refine(dH _ Ay Bc _ Bt (Bn+1) 2000 (Ht.ext Aa) hlen).mono ?_;rintro e9 w1 ⟨x,rfl,hx1,g1⟩;have J0:=hx1.cell I0;have J1:=hx1.cell I1;have J2:=hx1.cell I2;have J3:=hx1.cell I3;have J4:=hx1.cell I4;have J5:=hx1.cell I5;have J6:=hx1.cell I6;have J7:=hx1.cell I7;have J8:=hx1.cell I8;have J9:=hx1.cell I9;have J10:=hx1.cell I10;have J11:=hx1.cell I11;have J12:=hx1.cell I12;have J13:=hx1.cell I13;have J14:=hx1.cell I14;have J15:=hx1.cell I15;have J16:=hx1.cell I16;have J17:=hx1.cell I17;have J18:=hx1.cell I18;have hz1:=hx1.size;obtain⟨a9,k9,rfl,hc9,hm9,ha9⟩:=g1.recs (f:=Aq.ints) (fun _=>rfl) dC))
 obtain⟨m,hm⟩:∃m,m=Wn ⟨Ay,Bc,Bt⟩ (Bn+1) 2000:=⟨_,rfl⟩
 rw[<-hm] at g1 hc9 ha9 ⊢
 have HA9:=Lib.hid ha9
 unfold maxLen at hm9
 have how:Ph (⟨⟨⟨Ad,Am⟩,⟨Ao,Bm⟩⟩,⟨Bl,Bp,Bs,Dd⟩,⟨Co,Cj,Bg,Cm⟩,Cn,⟨Ay,Bc,Bt⟩,Cq,Bn,Cy⟩:Ap)=eqB Cy (m.map Lp):=by rw[hm,nW HP.out];rfl
 have HOW:=Lib.hid how
 have hE1:Ext w w1:=by exact Aa
 clear how hm ha9 hx1
 have X1:Ext w1 w1:=Ext.refl _
 by_cases hl:Cy.length=m.length
 rotate_left
 .
  have hD:Ph (⟨⟨⟨Ad,Am⟩,⟨Ao,Bm⟩⟩,⟨Bl,Bp,Bs,Dd⟩,⟨Co,Cj,Bg,Cm⟩,Cn,⟨Ay,Bc,Bt⟩,Cq,Bn,Cy⟩:Ap)=false:=by rw[HOW.out];exact Au (fun e=>hl (by rw[e];simp))
  have hb1:((m.length:Int) != (Cy.length:Int))=true:=by simp;omega
  have hb2:decide ((m.length:Int)=(Cy.length:Int))=false:=by simp;omega
  have HD:=Lib.hid hD
  clear hl hD
  go_wp2_with fail
  go_ret
  exact⟨by rw[HD.out];try rfl,by exact Aa⟩
 obtain⟨N,hN⟩:∃N,N=m.length:=⟨_,rfl⟩
 rw[<-hN] at hl HA9 hc9 ⊢
 rw[hl] at HA18 hc18 J18 ⊢
 have HL:=Lib.hid hl;have HN:=Lib.hid hN
 clear hl hN
 go_wp2_with fail
 go_loopw [4] (fun i wr=>∃k:Nat,k<=N/\i=.int .i64 k/\Ext w1 wr/\Hid (Cy.take k=(m.map Lp).take k)) (fun i _=>N - (intOf i).toNat)
 case atStart=>exact⟨0,Nat.zero_le _,rfl,Ext.refl _,Lib.hid (by simp)⟩
 case round =>
  obtain⟨k,hk,rfl,he,ht⟩:=hrel
  have hEr:=hE1.trans he
  have J18:=he.cell J18
  by_cases hlt:k<N
  .
   obtain⟨x,b1,o1,hx,rfl,hb1,c1⟩:=HA18.out k hlt
   obtain⟨d,b2,o2,hd,rfl,hb2,c2⟩:=HA9.out k hlt
   obtain⟨x0,x1,x2,x3⟩:=x
   have x90:=hEr.cell (c1 0 _ dC rfl)
   have x91:=hEr.cell (c1 1 _ dC rfl)
   have x92:=hEr.cell (c1 2 _ dC rfl)
   have x93:=hEr.cell (c1 3 _ dC rfl)
   have d0:=he.cell (c2 0 _ dC rfl)
   have d1:=he.cell (c2 1 _ dC rfl)
   have d2:=he.cell (c2 2 _ dC rfl)
   have d3:=he.cell (c2 3 _ dC rfl)
   have d4:=he.cell (c2 4 _ dC rfl)
   have d5:=he.cell (c2 5 _ dC rfl)
   have d6:=he.cell (c2 6 _ dC rfl)
   have d7:=he.cell (c2 7 _ dC rfl)
   have d8:=he.cell (c2 8 _ dC rfl)
   simp only[Nat.add_zero] at x90 d0
   have hy:(m.map Lp)[k]?=some (Lp d):=by rw[List.getElem?_map,hd];rfl
   obtain⟨ye,hye⟩:∃y,y=Lp d:=⟨_,rfl⟩
   rw[<-hye] at hy
   obtain⟨y0,y1,y2,y3⟩:=ye
   have HX:=Lib.hid hx;have HY:=Lib.hid hy;have HYE:=Lib.hid hye
   clear hx hy hye c1 c2 hd
   go_upto_region 7 with(fail)
   by_cases hne:x0=y0
   rotate_left
   .
    have b1:(x0 == y0)=false:=by simpa using hne
    have b2:decide (x0=y0)=false:=by simpa using hne
    have hD:Ph (⟨⟨⟨Ad,Am⟩,⟨Ao,Bm⟩⟩,⟨Bl,Bp,Bs,Dd⟩,⟨Co,Cj,Bg,Cm⟩,Cn,⟨Ay,Bc,Bt⟩,Cq,Bn,Cy⟩:Ap)=false:=by
     rw[HOW.out]
     refine Au (fun e=>?_)
     have h1:=HX.out
     rw[e,HY.out] at h1
     injection h1 with h1
     injection h1
     omega
    have HD:=Lib.hid hD
    clear hD hne
    refine rx0 aR fun w1 hx1=>?_
    go_wp2_with fail
    go_ret
    exact⟨by rw[HD.out];try rfl,by exact Aa⟩
   subst hne
   by_cases hne:x1=y1
   rotate_left
   .
    have b1:(x1 == y1)=false:=by simpa using hne
    have b2:decide (x1=y1)=false:=by simpa using hne
    have hD:Ph (⟨⟨⟨Ad,Am⟩,⟨Ao,Bm⟩⟩,⟨Bl,Bp,Bs,Dd⟩,⟨Co,Cj,Bg,Cm⟩,Cn,⟨Ay,Bc,Bt⟩,Cq,Bn,Cy⟩:Ap)=false:=by
     rw[HOW.out]
     refine Au (fun e=>?_)
     have h1:=HX.out
     rw[e,HY.out] at h1
     injection h1 with h1
     injection h1
     omega
    have HD:=Lib.hid hD
    clear hD hne
    refine rx0 aR fun w1 hx1=>?_
    go_wp2_with fail
    go_ret
    exact⟨by rw[HD.out];try rfl,by exact Aa⟩
   subst hne
   by_cases hne:x2=y2
   rotate_left
   .
    have b1:(x2 == y2)=false:=by simpa using hne
    have b2:decide (x2=y2)=false:=by simpa using hne
    have hD:Ph (⟨⟨⟨Ad,Am⟩,⟨Ao,Bm⟩⟩,⟨Bl,Bp,Bs,Dd⟩,⟨Co,Cj,Bg,Cm⟩,Cn,⟨Ay,Bc,Bt⟩,Cq,Bn,Cy⟩:Ap)=false:=by
     rw[HOW.out]
     refine Au (fun e=>?_)
     have h1:=HX.out
     rw[e,HY.out] at h1
     injection h1 with h1
     injection h1
     omega
    have HD:=Lib.hid hD
    clear hD hne
    refine rx0 aR fun w1 hx1=>?_
    go_wp2_with fail
    go_ret
    exact⟨by rw[HD.out];try rfl,by exact Aa⟩
   subst hne
   by_cases hne:x3=y3
   rotate_left
   .
    have b1:(x3 == y3)=false:=by simpa using hne
    have b2:decide (x3=y3)=false:=by simpa using hne
    have hD:Ph (⟨⟨⟨Ad,Am⟩,⟨Ao,Bm⟩⟩,⟨Bl,Bp,Bs,Dd⟩,⟨Co,Cj,Bg,Cm⟩,Cn,⟨Ay,Bc,Bt⟩,Cq,Bn,Cy⟩:Ap)=false:=by
     rw[HOW.out]
     refine Au (fun e=>?_)
     have h1:=HX.out
     rw[e,HY.out] at h1
     injection h1 with h1
     injection h1
     omega
    have HD:=Lib.hid hD
    clear hD hne
    refine rx0 aR fun w1 hx1=>?_
    go_wp2_with fail
    go_ret
    exact⟨by rw[HD.out];try rfl,by exact Aa⟩
   subst hne
   refine rx0 aR fun w1 hx1=>?_
   go_wp2_with fail
   go_roundw
   case rel=>exact⟨k+1,by omega,by go_num,by exact Aa,Lib.hid (Jc HX.out HY.out ht.out)⟩
   case measure=>simp[intOf];omega
  obtain rfl:k=N:=by omega
  have hD:Ph (⟨⟨⟨Ad,Am⟩,⟨Ao,Bm⟩⟩,⟨Bl,Bp,Bs,Dd⟩,⟨Co,Cj,Bg,Cm⟩,Cn,⟨Ay,Bc,Bt⟩,Cq,Bn,Cy⟩:Ap)=true:=by
   have h1:=ht.out
   rw[List.take_of_length_le (by rw[HL.out];omega),List.take_of_length_le (by rw[List.length_map,<-HN.out];omega)] at h1
   rw[HOW.out];exact Fc h1
  have HD:=Lib.hid hD
  clear hD
  go_wp2_with fail
  go_ret
  exact⟨by rw[HD.out];try rfl,by exact Aa⟩
theorem aS(w:World)(Ae:Int)(Ax:Int)(Fy:Value)(Ao:List Aq)(Ew:Int)(Ek:Aj 9 w Fy (Ds Ao))(e0:0<=Ae/\Ae<=Ew/\Ew<=Ae+Ao.length/\Ew<=2000):Calls Tryz.prog 382 #[.agg #[.int .i64 Ae,.int .i64 Ax,Fy],.int .i64 Ew] w (Cp w (.int .i64 (Od (⟨Ae,Ax,Ao⟩:Df) Ew))):=by
 obtain⟨a2,cap2,rfl,hcap2,hm2,ha2⟩:=Ek.recs (f:=Aq.ints) (fun _=>rfl) dC
 have HA:=Lib.hid ha2
 clear ha2
 unfold maxLen at hm2
 obtain⟨W0,hW0⟩:∃W0,W0=w.alloc (.cells #[.int .i64 Ae,.int .i64 Ax,.slice a2 Ao.length cap2] 78):=⟨_,rfl⟩
 have hEw:Ext w W0:=by rw[hW0];exact(Ext.refl _).alloc _
 have KX:Blk W0 w.heap.size 78 #[.int .i64 Ae,.int .i64 Ax,.slice a2 Ao.length cap2]:=by rw[hW0];exact Blk.new _ _ _
 have hLX:=KX.lt
 have I0:=KX.cell 0;have I1:=KX.cell 1;have I2:=KX.cell 2
 simp only[List.getElem?_toArray,List.getElem?_cons_zero,List.getElem?_cons_succ] at I0 I1 I2
 go_enter Tryz.func382,Tryz.ntmps382
 go_upto_region 1 with(fail)
 rw[<-hW0]
 clear hW0 KX
 by_cases hi:Ew=Ae
 .
  have hi1:(Ew == Ae)=true:=by simpa using hi
  have HI:=Lib.hid hi
  clear hi
  go_wp2_with fail
  go_ret
  exact⟨by rw[show Od (⟨Ae,Ax,Ao⟩:Df) Ew=Ax from by simp[Od,HI.out]];try rfl,by exact Aa⟩
 have hi1:(Ew == Ae)=false:=by simpa using hi
 obtain⟨k,hk⟩:∃k:Nat,(k:Int)=Ew - Ae - 1:=⟨(Ew - Ae - 1).toNat,by omega⟩
 have hw1:IntKind.i64.wrap (Ew - Ae)=Ew - Ae:=by rw[IntKind.wrap_i64] <;> omega
 have hw2:IntKind.i64.wrap (Ew - Ae - 1)=(k:Int):=by rw[hk,IntKind.wrap_i64] <;> omega
 have hkl:k<Ao.length:=by omega
 obtain⟨d,b1,o1,hd,rfl,hb1,c⟩:=HA.out k hkl
 have ht:Od (⟨Ae,Ax,Ao⟩:Df) Ew=d.Time:=Xq (by simpa using hk) hd
 have HT:=Lib.hid ht
 have d1:=hEw.cell (c 1 _ dC rfl)
 have HK:=Lib.hid hk
 clear ht hd hi hk c
 go_wp2_with fail
 go_ret
 exact⟨by rw[HT.out];try rfl,by exact Aa⟩
theorem oJ(w:World)(Dl:Value)(Ad:List (List Int))(Fe:Value)(Am:List Eb)(Fy:Value)(Ao:List (List Int))(Iq:Value)(Bm:List Eb)(Bl:Int)(Bp:Int)(Bs:Int)(Qq:Value)(Dd:List Ar)(Co:Int)(Cj:Int)(Bg:Int)(Oz:Value)(Cm:List Ar)(Cn:Bool)(Ay:Int)(Bc:Int)(Pa:Value)(Bt:List Aq)(Pb:Value)(Cq:List Ar)(Bn:Int)(Pd:Value)(Cy:List Is)(Ew:Int)(Dk:Ck 0 w Dl (Ac Ad))(Ev:Ck 1 w Fe (Ah Am))(Ek:Ck 0 w Fy (Ac Ao))(Gm:Ck 1 w Iq (Ah Bm))(Lx:Aj 3 w Qq (Cz Dd))(Le:Aj 3 w Oz (Cz Cm))(Ht:Aj 9 w Pa (Ds Bt))(Mi:Aj 3 w Pb (Cz Cq))(Pe:Aj 4 w Pd (Np Cy))(e0:qK (⟨⟨⟨Ad,Am⟩,⟨Ao,Bm⟩⟩,⟨Bl,Bp,Bs,Dd⟩,⟨Co,Cj,Bg,Cm⟩,Cn,⟨Ay,Bc,Bt⟩,Cq,Bn,Cy⟩:Ap))(e1:Bp<Ew/\Ew<=Bn):Calls Tryz.prog 312 #[.agg #[Dl,Fe,Fy,Iq,.int .i64 Bl,.int .i64 Bp,.int .i64 Bs,Qq,.int .i64 Co,.int .i64 Cj,.int .i64 Bg,Oz,.bool Cn,.int .i64 Ay,.int .i64 Bc,Pa,Pb,.int .i64 Bn,Pd],.int .i64 Ew] w (Ret w fun r w'=>∃x,r=.agg #[.int .i64 (Bl+1),.int .i64 Ew,.int .i64 (Od (⟨Ay,Bc,Bt⟩:Df) Ew),x]/\Aj 3 w' x (Cz (Oq (⟨⟨⟨Ad,Am⟩,⟨Ao,Bm⟩⟩,⟨Bl,Bp,Bs,Dd⟩,⟨Co,Cj,Bg,Cm⟩,Cn,⟨Ay,Bc,Bt⟩,Cq,Bn,Cy⟩:Ap) Ew).Seen)):=by
 obtain⟨a0,n0,k0,rfl⟩:=Dk.shape
 obtain⟨a1,n1,k1,rfl⟩:=Ev.shape
 obtain⟨a2,n2,k2,rfl⟩:=Ek.shape
 obtain⟨a3,n3,k3,rfl⟩:=Gm.shape
 obtain⟨a7,n7,k7,rfl⟩:=Lx.shape
 obtain⟨a11,n11,k11,rfl⟩:=Le.shape
 obtain⟨a15,n15,k15,rfl⟩:=Ht.shape
 obtain⟨a16,n16,k16,rfl⟩:=Mi.shape
 obtain⟨a18,n18,k18,rfl⟩:=Pe.shape
 have hb:=e0.base;have hnum:=e0.num;have hdur:=e0.dur;have htop:=e0.book.top;have hbb:=e0.book.base;have hlen:=e0.book.len
 simp only[Mf] at hb hnum hdur htop hbb hlen
 have hb1:=Int.le_of_eq hb;have hb2:=Int.le_of_eq hb.symm
 clear hb
 have HBOK:=Lib.hid e0.bok;have HSN:=Lib.hid (Jq e0.seen);have HP:=Lib.hid e0
 simp only at HBOK HSN
 clear e0
 obtain⟨W0,hW0⟩:∃W0,W0=(w.alloc (.cells #[.slice a0 n0 k0,.slice a1 n1 k1,.slice a2 n2 k2,.slice a3 n3 k3,.int .i64 Bl,.int .i64 Bp,.int .i64 Bs,.slice a7 n7 k7,.int .i64 Co,.int .i64 Cj,.int .i64 Bg,.slice a11 n11 k11,.bool Cn,.int .i64 Ay,.int .i64 Bc,.slice a15 n15 k15,.slice a16 n16 k16,.int .i64 Bn,.slice a18 n18 k18] 81)).alloc (.cells #[.int .i64 0,.int .i64 0,.int .i64 0,.slice none 0 0] 75):=⟨_,rfl⟩
 have hEw:Ext w W0:=by rw[hW0];exact((Ext.refl _).alloc _).alloc _
 have KX:Blk W0 w.heap.size 81 #[.slice a0 n0 k0,.slice a1 n1 k1,.slice a2 n2 k2,.slice a3 n3 k3,.int .i64 Bl,.int .i64 Bp,.int .i64 Bs,.slice a7 n7 k7,.int .i64 Co,.int .i64 Cj,.int .i64 Bg,.slice a11 n11 k11,.bool Cn,.int .i64 Ay,.int .i64 Bc,.slice a15 n15 k15,.slice a16 n16 k16,.int .i64 Bn,.slice a18 n18 k18]:=by rw[hW0];exact(Blk.new _ _ _).alloc _
 have KR:Blk W0 (w.heap.size+1) 75 #[.int .i64 0,.int .i64 0,.int .i64 0,.slice none 0 0]:=by rw[hW0];exact Blk.new2 _ _ _ _
 have I0:=KX.cell 0;have I1:=KX.cell 1;have I2:=KX.cell 2;have I3:=KX.cell 3;have I4:=KX.cell 4;have I5:=KX.cell 5;have I6:=KX.cell 6;have I7:=KX.cell 7;have I8:=KX.cell 8;have I9:=KX.cell 9;have I10:=KX.cell 10;have I11:=KX.cell 11;have I12:=KX.cell 12;have I13:=KX.cell 13;have I14:=KX.cell 14;have I15:=KX.cell 15;have I16:=KX.cell 16;have I17:=KX.cell 17;have I18:=KX.cell 18
 simp only[List.getElem?_toArray,List.getElem?_cons_zero,List.getElem?_cons_succ] at I0 I1 I2 I3 I4 I5 I6 I7 I8 I9 I10 I11 I12 I13 I14 I15 I16 I17 I18
 have hz0:w.heap.size+1<W0.heap.size:=KR.lt
 go_enter Tryz.func312,Tryz.ntmps312
 go_upto_region 1 with(fail)
 rw[<-hW0]
 clear hW0 KX
 have hw4:IntKind.i64.wrap (Bl+1)=Bl+1:=by rw[IntKind.wrap_i64] <;> omega
 have hw13:IntKind.i64.wrap (Ay+1)=Ay+1:=by rw[IntKind.wrap_i64] <;> omega
 have HPL:Hid ((Wn ⟨Ay,Bc,Bt⟩ (Ay+1) Ew).length<=20):=Lib.hid (by have h1:=List.length_filter_le (fun e:Aq=>inb e.Index (Ay+1) Ew) Bt;unfold Wn;simp only;omega)
 go_cut [5] (fun cx5 wx=>∃g,cx5=.pointer (some ⟨g,0,none⟩)/\Ext W0 wx/\W0.heap.size<=g/\Blk wx g 75 #[.int .i64 (Bl+1),.int .i64 Ew,.int .i64 (Od (⟨Ay,Bc,Bt⟩:Df) Ew),.slice none 0 0])
 case first =>
  refine wp_region_held_drew (S:=fun w'=>Ext W0 w') (by kernel_rfl) (by(try dsimp only);exact xT) (fun hHeld=>?_)
  refine wt 0 ?_
  (try simp only[Ab,Act.put])
  refine wt 1 ?_
  (try simp only[Ab,Act.put])
  refine wpAnyH_take (i:=2) (v:=?_) rfl (by kernel_rfl) (by kernel_rfl) (by kernel_rfl) (fun _ _ _ h=>h) (Or.inl ⟨by rfl,?_⟩) (by assumption) ?_
  rotate_left
  focus(intro w hSw;(try dsimp only at hSw);have q4:=hSw.cell I4;go_simp <;> with_reducible rfl)
  (try simp only[Ab,Act.put])
  refine wt 3 ?_
  (try simp only[Ab,Act.put])
  refine wt 4 ?_
  (try simp only[Ab,Act.put])
  refine wt 5 ?_
  (try simp only[Ab,Act.put])
  refine wpAnyH_take (i:=6) (v:=?_) rfl (by kernel_rfl) (by kernel_rfl) (by kernel_rfl) (fun _ _ _ h=>h) (Or.inl ⟨by rfl,?_⟩) (by assumption) ?_
  rotate_left
  focus(intro w hSw;(try dsimp only at hSw);have q13:=hSw.cell I13;have q14:=hSw.cell I14;have q15:=hSw.cell I15;go_simp <;> with_reducible rfl)
  (try simp only[Ab,Act.put])
  refine wt 7 ?_
  (try simp only[Ab,Act.put])
  refine wr2 8 10 (fun Kz hKz=>?_) fun Kz hKz=>?_
  .
   (try simp only[Ab])
   go_simp
   go_at_call 382
   refine(aS _ Ay Bc _ Bt Ew (Ht.ext Aa) oM).mono ?_
   rintro e w1⟨rfl,hx1⟩
   have X1:Ext W0 w1:=Ext.trans Aa hx1
   have hz1:=hx1.size;(try simp only[World.size_alloc,Dj] at hz1)
   clear hx1
   refine hKz.out _ _ (by(try dsimp only);exact xT) (fun hHeld=>?_)
   clear hKz Kz
   (try simp only[Ab,Act.put])
   refine wt 9 ?_
   (try simp only[Ab,Act.put])
   refine wr1 10 fun Kz hKz=>?_
   (try simp only[Ab])
   go_simp
   refine hKz.out _ _ (by(try dsimp only);exact xT) (fun hHeld=>?_)
   clear hKz Kz
   (try simp only[Ab,Act.put])
   refine wr1 11 fun Kz hKz=>?_
   (try simp only[Ab])
   go_simp
   refine hKz.out _ _ (by(try dsimp only);exact xT) (fun hHeld=>?_)
   clear hKz Kz
   (try simp only[Ab,Act.put])
   refine wpAnyH_done (by kernel_rfl) ?_ _
   go_wp2_with fail
   go_meet
   case rel=>exact⟨_,rfl,by exact Aa,by(first|omega|exact Nat.le_refl _|((try simp only[World.size_alloc,Dj] at *);omega)),bC⟩
  (try simp only[Ab])
  go_simp
  refine hKz.out _ _ (by(try dsimp only);exact xT) (fun hHeld=>?_)
  clear hKz Kz
  (try simp only[Ab,Act.put])
  refine wr1 8 fun Kz hKz=>?_
  (try simp only[Ab])
  go_simp
  go_at_call 382
  refine(aS _ Ay Bc _ Bt Ew (Ht.ext Aa) oM).mono ?_
  rintro e w1⟨rfl,hx1⟩
  have X1:Ext W0 w1:=Ext.trans Aa hx1
  have hz1:=hx1.size;(try simp only[World.size_alloc,Dj] at hz1)
  have KG:Blk w1 W0.heap.size 75 #[.int .i64 0,.int .i64 0,.int .i64 0,.slice none 0 0]:=Blk.ext (Blk.drew (Blk.new W0 75 #[.int .i64 0,.int .i64 0,.int .i64 0,.slice none 0 0])) hx1
  obtain⟨CG,FG,LG⟩:=KG.cfl
  clear hx1
  refine hKz.out _ _ (by(try dsimp only);exact xT) (fun hHeld=>?_)
  clear hKz Kz
  (try simp only[Ab,Act.put])
  refine wt 9 ?_
  (try simp only[Ab,Act.put])
  refine wr1 11 fun Kz hKz=>?_
  (try simp only[Ab])
  go_simp
  refine hKz.out _ _ (by(try dsimp only);exact xT) (fun hHeld=>?_)
  clear hKz Kz
  (try simp only[Ab,Act.put])
  refine wpAnyH_done (by kernel_rfl) ?_ _
  go_wp2_with fail
  go_meet
  case rel=>exact⟨_,rfl,by exact Aa,by(first|omega|exact Nat.le_refl _|((try simp only[World.size_alloc,Dj] at *);omega)),bC⟩
 revert wc;intro W1 hcut
 obtain⟨g,rfl,hx1,hg,KG⟩:=hcut
 have hE1:=hEw.trans hx1
 have J0:=hx1.cell I0;have J1:=hx1.cell I1;have J2:=hx1.cell I2;have J3:=hx1.cell I3;have J4:=hx1.cell I4;have J5:=hx1.cell I5;have J6:=hx1.cell I6;have J7:=hx1.cell I7;have J8:=hx1.cell I8;have J9:=hx1.cell I9;have J10:=hx1.cell I10;have J11:=hx1.cell I11;have J12:=hx1.cell I12;have J13:=hx1.cell I13;have J14:=hx1.cell I14;have J15:=hx1.cell I15;have J16:=hx1.cell I16;have J17:=hx1.cell I17;have J18:=hx1.cell I18
 have KR1:=KR.ext hx1
 have hlg:=KG.lt
 go_wp2_with fail
 refine wp_region_held_drew (S:=fun w'=>Ext W0 w') (by kernel_rfl) (by(try dsimp only);exact xT) (fun hHeld=>?_)
 refine wt 0 ?_
 (try simp only[Ab,Act.put])
 refine wt 1 ?_
 (try simp only[Ab,Act.put])
 refine wpAnyH_take (i:=2) (v:=?_) rfl (by kernel_rfl) (by kernel_rfl) (by kernel_rfl) (fun _ _ _ h=>h) (Or.inl ⟨by rfl,?_⟩) (by assumption) ?_
 rotate_left
 focus(intro w hSw;(try dsimp only at hSw);have q7:=hSw.cell I7;go_simp <;> with_reducible rfl)
 (try simp only[Ab,Act.put])
 refine wt 3 ?_
 (try simp only[Ab,Act.put])
 refine wpAnyH_take (i:=4) (v:=?_) rfl (by kernel_rfl) (by kernel_rfl) (by kernel_rfl) (fun _ _ _ h=>h) (Or.inl ⟨by rfl,?_⟩) (by assumption) ?_
 rotate_left
 focus(intro w hSw;(try dsimp only at hSw);have q13:=hSw.cell I13;have q14:=hSw.cell I14;have q15:=hSw.cell I15;go_simp <;> with_reducible rfl)
 (try simp only[Ab,Act.put])
 refine wt 5 ?_
 (try simp only[Ab,Act.put])
 refine wt 6 ?_
 (try simp only[Ab,Act.put])
 refine wpAnyH_take (i:=7) (v:=?_) rfl (by kernel_rfl) (by kernel_rfl) (by kernel_rfl) (fun _ _ _ h=>h) (Or.inl ⟨by rfl,?_⟩) (by assumption) ?_
 rotate_left
 focus(intro w hSw;(try dsimp only at hSw);have q13:=hSw.cell I13;go_simp <;> with_reducible rfl)
 (try simp only[Ab,Act.put])
 refine wt 8 ?_
 (try simp only[Ab,Act.put])
 refine wt 9 ?_
 (try simp only[Ab,Act.put])
 refine wr1 10 fun Kz hKz=>?_
 (try simp only[Ab])
 go_simp
 go_at_call 380
 refine(dH _ Ay Bc _ Bt (Ay+1) Ew (Ht.ext Aa) hlen).mono ?_
 rintro e w2⟨xp,rfl,hx2,gp⟩
 have X2:Ext W1 w2:=Ext.trans Aa hx2
 have Y2:Ext W0 w2:=hx1.trans X2
 clear hx2
 refine hKz.out _ _ (by(try dsimp only);exact xT) (fun hHeld=>?_)
 clear hKz Kz
 (try simp only[Ab,Act.put])
 refine wr1 11 fun Kz hKz=>?_
 (try simp only[Ab])
 go_simp
 go_at_call 307
 refine(Yk _ _ _ Dd _ (Lx.ext Aa) (gp.ext Aa) HSN.out (by have h1:=HPL.out;omega)).mono ?_
 rintro e w3⟨_,rfl,hx3,xs,rfl,gs⟩
 obtain⟨xa,xn,xk,rfl⟩:=gs.ints.shape
 have X3:Ext W1 w3:=Ext.trans Aa hx3
 have Y3:Ext W0 w3:=hx1.trans X3
 have hzz:=X3.size;have hzw:=X2.size;have hz32:=hx3.size;(try simp only[World.size_alloc,Dj] at hz32)
 have K3:=KG.ext X3;have C3:=K3.cell;have F3:=K3.frozen;have L3:=K3.lt
 clear hx3
 refine hKz.out _ _ (by(try dsimp only);exact xT) (fun hHeld=>?_)
 clear hKz Kz
 (try simp only[Ab,Act.put])
 refine wt 12 ?_
 (try simp only[Ab,Act.put])
 refine wt 13 ?_
 (try simp only[Ab,Act.put])
 refine wt 14 ?_
 (try simp only[Ab,Act.put])
 refine wt 15 ?_
 (try simp only[Ab,Act.put])
 refine wr1 16 fun Kz hKz=>?_
 (try simp only[Ab])
 go_simp
 refine hKz.out _ _ (by(try dsimp only);exact xT) (fun hHeld=>?_)
 clear hKz Kz
 (try simp only[Ab,Act.put])
 refine wpAnyH_done (by kernel_rfl) ?_ _
 have KR3:=KR1.ext X3
 (try simp only[World.size_alloc,Dj] at gs)
 have C4:=KR3.cell;have F4:=KR3.frozen;have L4:=KR3.lt
 go_wp2_with fail
 refine bodyPost_ret (by simp[results,Tryz.results312,go_sem,C3,F3,L3,C4,F4,L4];try rfl) rfl ?_
 exact⟨_,rfl,by exact Aa,_,rfl,Af.ints (Af.keep gs Hx)⟩
theorem vD{p:Prop}(h:p:=by intro KQ hKQ;(repeat (first|go_big_quiet_skip|(go_big_quiet_want;first|(refine Br _ _ _ ?_ rfl rfl (fun wq hq=>?_) ?_;rotate_left;(focus((try have y0:=hq.cell I0);(try have y1:=hq.cell I1);(try have y2:=hq.cell I2);(try have y3:=hq.cell I3);(try have y4:=hq.cell I4);(try have y5:=hq.cell I5);(try have y6:=hq.cell I6);(try have y7:=hq.cell I7);(try have y8:=hq.cell I8);(try have y9:=hq.cell I9);(try have y10:=hq.cell I10);(try have y11:=hq.cell I11);(try have y12:=hq.cell I12);(try have y13:=hq.cell I13);(try have y14:=hq.cell I14);(try have y15:=hq.cell I15);(try have y16:=hq.cell I16);(try have y17:=hq.cell I17);(try have y18:=hq.cell I18);go_simp;first|done|rfl));(try simp only[Ab,Act.put]);go_big_quiet_on)|(go_big_quiet_op;first|go_big_quiet_on|(refine⟨_,fun _ _=>rfl,?_⟩;go_big_quiet_on)|(apply Exists.intro;refine⟨fun wq hq=>?_,?_⟩;(focus(first|(fail)));go_big_quiet_on)))));exact wpQuiet_nil hKQ):p:=h
theorem vE{p:Prop}(h:p:=by intro KQ hKQ;(repeat (first|go_big_quiet_skip|(go_big_quiet_want;first|(refine Br _ _ _ ?_ rfl rfl (fun wq hq=>?_) ?_;rotate_left;(focus((try have y0:=hq.cell I0);(try have y1:=hq.cell I1);(try have y2:=hq.cell I2);(try have y3:=hq.cell I3);(try have y4:=hq.cell I4);(try have y5:=hq.cell I5);(try have y6:=hq.cell I6);(try have y7:=hq.cell I7);(try have y8:=hq.cell I8);(try have y9:=hq.cell I9);(try have y10:=hq.cell I10);(try have y11:=hq.cell I11);(try have y12:=hq.cell I12);(try have y13:=hq.cell I13);(try have y14:=hq.cell I14);(try have y15:=hq.cell I15);(try have y16:=hq.cell I16);(try have y17:=hq.cell I17);(try have y18:=hq.cell I18);go_simp;first|done|rfl));(try simp only[Ab,Act.put]);go_big_quiet_on)|(go_big_quiet_op;first|go_big_quiet_on|(refine⟨_,fun _ _=>rfl,?_⟩;go_big_quiet_on)|(apply Exists.intro;refine⟨fun wq hq=>?_,?_⟩;(focus(first|(fail)|(go_at_call 308;exact Cv hq (by have c:=Rb wq _ _ _ Cq (gs.ext (Ext.trans Aa hq)) (Mi.ext (hE4.trans hq));rw[show eqB ((Dn Dd Bt).getD Dd) Cq=_ from p6] at c;exact c))));go_big_quiet_on)))));exact wpQuiet_nil hKQ):p:=h
theorem vF{p:Prop}(h:p:=by intro KQ hKQ;(repeat (first|go_big_quiet_skip|(go_big_quiet_want;first|(refine Br _ _ _ ?_ rfl rfl (fun wq hq=>?_) ?_;rotate_left;(focus((try have y0:=hq.cell I0);(try have y1:=hq.cell I1);(try have y2:=hq.cell I2);(try have y3:=hq.cell I3);(try have y4:=hq.cell I4);(try have y5:=hq.cell I5);(try have y6:=hq.cell I6);(try have y7:=hq.cell I7);(try have y8:=hq.cell I8);(try have y9:=hq.cell I9);(try have y10:=hq.cell I10);(try have y11:=hq.cell I11);(try have y12:=hq.cell I12);(try have y13:=hq.cell I13);(try have y14:=hq.cell I14);(try have y15:=hq.cell I15);(try have y16:=hq.cell I16);(try have y17:=hq.cell I17);(try have y18:=hq.cell I18);go_simp;first|done|rfl));(try simp only[Ab,Act.put]);go_big_quiet_on)|(go_big_quiet_op;first|go_big_quiet_on|(refine⟨_,fun _ _=>rfl,?_⟩;go_big_quiet_on)|(apply Exists.intro;refine⟨fun wq hq=>?_,?_⟩;(focus(first|(fail)|(go_at_call 308;exact Cv hq (by have c:=Rb wq _ _ _ Cq (gs.ext (Ext.trans Aa hq)) (Mi.ext (hE4.trans hq));rw[show eqB ((Dn Dd Bt).getD Dd) Cq=_ from p6] at c;exact c))|(go_at_call 309;exact Cv hq (iP wq Ay Bc _ Bt (Ht.ext (hE4.trans hq)) HBP.out))|(go_at_call 303;exact Ce hq (by have c:=Dv wq Bn Ay (Mf (⟨Ay,Bc,Bt⟩:Df));rw[p7] at c;exact c))));go_big_quiet_on)))));exact wpQuiet_nil hKQ):p:=h
theorem vG{p:Prop}(h:p:=by intro KQ hKQ;(repeat (first|go_big_quiet_skip|(go_big_quiet_want;first|(refine Br _ _ _ ?_ rfl rfl (fun wq hq=>?_) ?_;rotate_left;(focus((try have y0:=hq.cell I0);(try have y1:=hq.cell I1);(try have y2:=hq.cell I2);(try have y3:=hq.cell I3);(try have y4:=hq.cell I4);(try have y5:=hq.cell I5);(try have y6:=hq.cell I6);(try have y7:=hq.cell I7);(try have y8:=hq.cell I8);(try have y9:=hq.cell I9);(try have y10:=hq.cell I10);(try have y11:=hq.cell I11);(try have y12:=hq.cell I12);(try have y13:=hq.cell I13);(try have y14:=hq.cell I14);(try have y15:=hq.cell I15);(try have y16:=hq.cell I16);(try have y17:=hq.cell I17);(try have y18:=hq.cell I18);go_simp;first|done|rfl));(try simp only[Ab,Act.put]);go_big_quiet_on)|(go_big_quiet_op;first|go_big_quiet_on|(refine⟨_,fun _ _=>rfl,?_⟩;go_big_quiet_on)|(apply Exists.intro;refine⟨fun wq hq=>?_,?_⟩;(focus(first|(go_at_call 303;exact Ce hq (by have c:=Dv wq Cj (Bp+1) Bn;rw[p9] at c;exact c))));go_big_quiet_on)))));exact wpQuiet_nil hKQ):p:=h
theorem qW(w:World)(Dl:Value)(Ad:List (List Int))(Fe:Value)(Am:List Eb)(Fy:Value)(Ao:List (List Int))(Iq:Value)(Bm:List Eb)(Bl:Int)(Bp:Int)(Bs:Int)(Qq:Value)(Dd:List Ar)(Co:Int)(Cj:Int)(Bg:Int)(Oz:Value)(Cm:List Ar)(Cn:Bool)(Ay:Int)(Bc:Int)(Pa:Value)(Bt:List Aq)(Pb:Value)(Cq:List Ar)(Bn:Int)(Pd:Value)(Cy:List Is)(Dk:Ck 0 w Dl (Ac Ad))(Ev:Ck 1 w Fe (Ah Am))(Ek:Ck 0 w Fy (Ac Ao))(Gm:Ck 1 w Iq (Ah Bm))(Lx:Aj 3 w Qq (Cz Dd))(Le:Aj 3 w Oz (Cz Cm))(Ht:Aj 9 w Pa (Ds Bt))(Mi:Aj 3 w Pb (Cz Cq))(Pe:Aj 4 w Pd (Np Cy)):Calls Tryz.prog 208 #[.agg #[Dl,Fe,Fy,Iq,.int .i64 Bl,.int .i64 Bp,.int .i64 Bs,Qq,.int .i64 Co,.int .i64 Cj,.int .i64 Bg,Oz,.bool Cn,.int .i64 Ay,.int .i64 Bc,Pa,Pb,.int .i64 Bn,Pd]] w (Cp w (.bool (Gl (⟨⟨⟨Ad,Am⟩,⟨Ao,Bm⟩⟩,⟨Bl,Bp,Bs,Dd⟩,⟨Co,Cj,Bg,Cm⟩,Cn,⟨Ay,Bc,Bt⟩,Cq,Bn,Cy⟩:Ap)))):=by
 obtain⟨a0,n0,k0,rfl⟩:=Dk.shape
 obtain⟨a1,n1,k1,rfl⟩:=Ev.shape
 obtain⟨a2,n2,k2,rfl⟩:=Ek.shape
 obtain⟨a3,n3,k3,rfl⟩:=Gm.shape
 obtain⟨a7,n7,k7,rfl⟩:=Lx.shape
 obtain⟨a11,n11,k11,rfl⟩:=Le.shape
 obtain⟨a15,n15,k15,rfl⟩:=Ht.shape
 obtain⟨a16,n16,k16,rfl⟩:=Mi.shape
 obtain⟨a18,n18,k18,rfl⟩:=Pe.shape
 obtain⟨W0,hW0⟩:∃W0,W0=w.alloc (.cells #[.slice a0 n0 k0,.slice a1 n1 k1,.slice a2 n2 k2,.slice a3 n3 k3,.int .i64 Bl,.int .i64 Bp,.int .i64 Bs,.slice a7 n7 k7,.int .i64 Co,.int .i64 Cj,.int .i64 Bg,.slice a11 n11 k11,.bool Cn,.int .i64 Ay,.int .i64 Bc,.slice a15 n15 k15,.slice a16 n16 k16,.int .i64 Bn,.slice a18 n18 k18] 81):=⟨_,rfl⟩
 have hEw:Ext w W0:=by rw[hW0];exact(Ext.refl _).alloc _
 have KX:Blk W0 w.heap.size 81 #[.slice a0 n0 k0,.slice a1 n1 k1,.slice a2 n2 k2,.slice a3 n3 k3,.int .i64 Bl,.int .i64 Bp,.int .i64 Bs,.slice a7 n7 k7,.int .i64 Co,.int .i64 Cj,.int .i64 Bg,.slice a11 n11 k11,.bool Cn,.int .i64 Ay,.int .i64 Bc,.slice a15 n15 k15,.slice a16 n16 k16,.int .i64 Bn,.slice a18 n18 k18]:=by rw[hW0];exact Blk.new _ _ _
 have hLX:=KX.lt
 have I0:=KX.cell 0;have I1:=KX.cell 1;have I2:=KX.cell 2;have I3:=KX.cell 3;have I4:=KX.cell 4;have I5:=KX.cell 5;have I6:=KX.cell 6;have I7:=KX.cell 7;have I8:=KX.cell 8;have I9:=KX.cell 9;have I10:=KX.cell 10;have I11:=KX.cell 11;have I12:=KX.cell 12;have I13:=KX.cell 13;have I14:=KX.cell 14;have I15:=KX.cell 15;have I16:=KX.cell 16;have I17:=KX.cell 17;have I18:=KX.cell 18
 simp only[List.getElem?_toArray,List.getElem?_cons_zero,List.getElem?_cons_succ] at I0 I1 I2 I3 I4 I5 I6 I7 I8 I9 I10 I11 I12 I13 I14 I15 I16 I17 I18
 have hR:W0.rangeAt w.heap.size 0 ([.slice a0 n0 k0,.slice a1 n1 k1,.slice a2 n2 k2,.slice a3 n3 k3,.int .i64 Bl,.int .i64 Bp,.int .i64 Bs,.slice a7 n7 k7,.int .i64 Co,.int .i64 Cj,.int .i64 Bg,.slice a11 n11 k11,.bool Cn,.int .i64 Ay,.int .i64 Bc,.slice a15 n15 k15,.slice a16 n16 k16,.int .i64 Bn,.slice a18 n18 k18]:List Value):=Bk.range (A:=[]) (cs:=([.slice a0 n0 k0,.slice a1 n1 k1,.slice a2 n2 k2,.slice a3 n3 k3,.int .i64 Bl,.int .i64 Bp,.int .i64 Bs,.slice a7 n7 k7,.int .i64 Co,.int .i64 Cj,.int .i64 Bg,.slice a11 n11 k11,.bool Cn,.int .i64 Ay,.int .i64 Bc,.slice a15 n15 k15,.slice a16 n16 k16,.int .i64 Bn,.slice a18 n18 k18]:List Value)) (C:=[]) (Bk.cast (show Bk W0 w.heap.size 81 ([.slice a0 n0 k0,.slice a1 n1 k1,.slice a2 n2 k2,.slice a3 n3 k3,.int .i64 Bl,.int .i64 Bp,.int .i64 Bs,.slice a7 n7 k7,.int .i64 Co,.int .i64 Cj,.int .i64 Bg,.slice a11 n11 k11,.bool Cn,.int .i64 Ay,.int .i64 Bc,.slice a15 n15 k15,.slice a16 n16 k16,.int .i64 Bn,.slice a18 n18 k18]:List Value) from KX) (by simp)) rfl
 go_enter Tryz.func208,Tryz.ntmps208
 go_upto_region 1 with(fail)
 rw[<-hW0]
 clear hW0 KX
 cases p1:Oc (⟨⟨Ad,Am⟩,⟨Ao,Bm⟩⟩:Jg)
 .
  as_aux_lemma =>
   go_wp2_with (first|(go_at_call 304;refine(Pw _ _ Ad _ Am _ Ao _ Bm (Dk.ext Aa) (Ev.ext Aa) (Ek.ext Aa) (Gm.ext Aa)).mono ?_;rintro e9 w1 ⟨rfl,hx1⟩;rw[p1];have I0:=hx1.cell I0;have I1:=hx1.cell I1;have I2:=hx1.cell I2;have I3:=hx1.cell I3;have I4:=hx1.cell I4;have I5:=hx1.cell I5;have I6:=hx1.cell I6;have I7:=hx1.cell I7;have I8:=hx1.cell I8;have I9:=hx1.cell I9;have I10:=hx1.cell I10;have I11:=hx1.cell I11;have I12:=hx1.cell I12;have I13:=hx1.cell I13;have I14:=hx1.cell I14;have I15:=hx1.cell I15;have I16:=hx1.cell I16;have I17:=hx1.cell I17;have I18:=hx1.cell I18;have hz1:=hx1.size))
   go_ret
   exact⟨by rw[show Gl (⟨⟨⟨Ad,Am⟩,⟨Ao,Bm⟩⟩,⟨Bl,Bp,Bs,Dd⟩,⟨Co,Cj,Bg,Cm⟩,Cn,⟨Ay,Bc,Bt⟩,Cq,Bn,Cy⟩:Ap)=false from by simp[Gl,Jl,p1]];try rfl,by exact Aa⟩
 cases p2:Eh (⟨Bl,Bp,Bs,Dd⟩:Di)
 .
  as_aux_lemma =>
   go_wp2_with (first|(go_at_call 304;refine(Pw _ _ Ad _ Am _ Ao _ Bm (Dk.ext Aa) (Ev.ext Aa) (Ek.ext Aa) (Gm.ext Aa)).mono ?_;rintro e9 w1 ⟨rfl,hx1⟩;rw[p1];have I0:=hx1.cell I0;have I1:=hx1.cell I1;have I2:=hx1.cell I2;have I3:=hx1.cell I3;have I4:=hx1.cell I4;have I5:=hx1.cell I5;have I6:=hx1.cell I6;have I7:=hx1.cell I7;have I8:=hx1.cell I8;have I9:=hx1.cell I9;have I10:=hx1.cell I10;have I11:=hx1.cell I11;have I12:=hx1.cell I12;have I13:=hx1.cell I13;have I14:=hx1.cell I14;have I15:=hx1.cell I15;have I16:=hx1.cell I16;have I17:=hx1.cell I17;have I18:=hx1.cell I18;have hz1:=hx1.size)|(go_at_call 305;refine(Py _ Bl Bp Bs _ Dd (Lx.ext Aa)).mono ?_;rintro e9 w2 ⟨rfl,hx2⟩;rw[p2];have I0:=hx2.cell I0;have I1:=hx2.cell I1;have I2:=hx2.cell I2;have I3:=hx2.cell I3;have I4:=hx2.cell I4;have I5:=hx2.cell I5;have I6:=hx2.cell I6;have I7:=hx2.cell I7;have I8:=hx2.cell I8;have I9:=hx2.cell I9;have I10:=hx2.cell I10;have I11:=hx2.cell I11;have I12:=hx2.cell I12;have I13:=hx2.cell I13;have I14:=hx2.cell I14;have I15:=hx2.cell I15;have I16:=hx2.cell I16;have I17:=hx2.cell I17;have I18:=hx2.cell I18;have hz2:=hx2.size))
   go_ret
   exact⟨by rw[show Gl (⟨⟨⟨Ad,Am⟩,⟨Ao,Bm⟩⟩,⟨Bl,Bp,Bs,Dd⟩,⟨Co,Cj,Bg,Cm⟩,Cn,⟨Ay,Bc,Bt⟩,Cq,Bn,Cy⟩:Ap)=false from by simp[Gl,Jl,p2]];try rfl,by exact Aa⟩
 cases p3:Er (⟨Ay,Bc,Bt⟩:Df)
 .
  as_aux_lemma =>
   go_wp2_with (first|(go_at_call 304;refine(Pw _ _ Ad _ Am _ Ao _ Bm (Dk.ext Aa) (Ev.ext Aa) (Ek.ext Aa) (Gm.ext Aa)).mono ?_;rintro e9 w1 ⟨rfl,hx1⟩;rw[p1];have I0:=hx1.cell I0;have I1:=hx1.cell I1;have I2:=hx1.cell I2;have I3:=hx1.cell I3;have I4:=hx1.cell I4;have I5:=hx1.cell I5;have I6:=hx1.cell I6;have I7:=hx1.cell I7;have I8:=hx1.cell I8;have I9:=hx1.cell I9;have I10:=hx1.cell I10;have I11:=hx1.cell I11;have I12:=hx1.cell I12;have I13:=hx1.cell I13;have I14:=hx1.cell I14;have I15:=hx1.cell I15;have I16:=hx1.cell I16;have I17:=hx1.cell I17;have I18:=hx1.cell I18;have hz1:=hx1.size)|(go_at_call 305;refine(Py _ Bl Bp Bs _ Dd (Lx.ext Aa)).mono ?_;rintro e9 w2 ⟨rfl,hx2⟩;rw[p2];have I0:=hx2.cell I0;have I1:=hx2.cell I1;have I2:=hx2.cell I2;have I3:=hx2.cell I3;have I4:=hx2.cell I4;have I5:=hx2.cell I5;have I6:=hx2.cell I6;have I7:=hx2.cell I7;have I8:=hx2.cell I8;have I9:=hx2.cell I9;have I10:=hx2.cell I10;have I11:=hx2.cell I11;have I12:=hx2.cell I12;have I13:=hx2.cell I13;have I14:=hx2.cell I14;have I15:=hx2.cell I15;have I16:=hx2.cell I16;have I17:=hx2.cell I17;have I18:=hx2.cell I18;have hz2:=hx2.size)|(go_at_call 306;refine(Um _ Ay Bc _ Bt (Ht.ext Aa)).mono ?_;rintro e9 w3 ⟨rfl,hx3⟩;rw[p3];have I0:=hx3.cell I0;have I1:=hx3.cell I1;have I2:=hx3.cell I2;have I3:=hx3.cell I3;have I4:=hx3.cell I4;have I5:=hx3.cell I5;have I6:=hx3.cell I6;have I7:=hx3.cell I7;have I8:=hx3.cell I8;have I9:=hx3.cell I9;have I10:=hx3.cell I10;have I11:=hx3.cell I11;have I12:=hx3.cell I12;have I13:=hx3.cell I13;have I14:=hx3.cell I14;have I15:=hx3.cell I15;have I16:=hx3.cell I16;have I17:=hx3.cell I17;have I18:=hx3.cell I18;have hz3:=hx3.size))
   go_ret
   exact⟨by rw[show Gl (⟨⟨⟨Ad,Am⟩,⟨Ao,Bm⟩⟩,⟨Bl,Bp,Bs,Dd⟩,⟨Co,Cj,Bg,Cm⟩,Cn,⟨Ay,Bc,Bt⟩,Cq,Bn,Cy⟩:Ap)=false from by simp[Gl,Jl,p3]];try rfl,by exact Aa⟩
 by_cases q4:Ay=Bp
 rotate_left
 .
  have b4:(Ay != Bp)=true:=by simpa using q4
  have H4:=Lib.hid q4
  clear q4
  as_aux_lemma =>
   go_wp2_with (first|(go_at_call 304;refine(Pw _ _ Ad _ Am _ Ao _ Bm (Dk.ext Aa) (Ev.ext Aa) (Ek.ext Aa) (Gm.ext Aa)).mono ?_;rintro e9 w1 ⟨rfl,hx1⟩;rw[p1];have I0:=hx1.cell I0;have I1:=hx1.cell I1;have I2:=hx1.cell I2;have I3:=hx1.cell I3;have I4:=hx1.cell I4;have I5:=hx1.cell I5;have I6:=hx1.cell I6;have I7:=hx1.cell I7;have I8:=hx1.cell I8;have I9:=hx1.cell I9;have I10:=hx1.cell I10;have I11:=hx1.cell I11;have I12:=hx1.cell I12;have I13:=hx1.cell I13;have I14:=hx1.cell I14;have I15:=hx1.cell I15;have I16:=hx1.cell I16;have I17:=hx1.cell I17;have I18:=hx1.cell I18;have hz1:=hx1.size)|(go_at_call 305;refine(Py _ Bl Bp Bs _ Dd (Lx.ext Aa)).mono ?_;rintro e9 w2 ⟨rfl,hx2⟩;rw[p2];have I0:=hx2.cell I0;have I1:=hx2.cell I1;have I2:=hx2.cell I2;have I3:=hx2.cell I3;have I4:=hx2.cell I4;have I5:=hx2.cell I5;have I6:=hx2.cell I6;have I7:=hx2.cell I7;have I8:=hx2.cell I8;have I9:=hx2.cell I9;have I10:=hx2.cell I10;have I11:=hx2.cell I11;have I12:=hx2.cell I12;have I13:=hx2.cell I13;have I14:=hx2.cell I14;have I15:=hx2.cell I15;have I16:=hx2.cell I16;have I17:=hx2.cell I17;have I18:=hx2.cell I18;have hz2:=hx2.size)|(go_at_call 306;refine(Um _ Ay Bc _ Bt (Ht.ext Aa)).mono ?_;rintro e9 w3 ⟨rfl,hx3⟩;rw[p3];have I0:=hx3.cell I0;have I1:=hx3.cell I1;have I2:=hx3.cell I2;have I3:=hx3.cell I3;have I4:=hx3.cell I4;have I5:=hx3.cell I5;have I6:=hx3.cell I6;have I7:=hx3.cell I7;have I8:=hx3.cell I8;have I9:=hx3.cell I9;have I10:=hx3.cell I10;have I11:=hx3.cell I11;have I12:=hx3.cell I12;have I13:=hx3.cell I13;have I14:=hx3.cell I14;have I15:=hx3.cell I15;have I16:=hx3.cell I16;have I17:=hx3.cell I17;have I18:=hx3.cell I18;have hz3:=hx3.size))
   go_ret
   exact⟨by rw[show Gl (⟨⟨⟨Ad,Am⟩,⟨Ao,Bm⟩⟩,⟨Bl,Bp,Bs,Dd⟩,⟨Co,Cj,Bg,Cm⟩,Cn,⟨Ay,Bc,Bt⟩,Cq,Bn,Cy⟩:Ap)=false from by simp[Gl,Jl,H4.out]];try rfl,by exact Aa⟩
 have b4:(Ay != Bp)=false:=by simpa using q4
 have H4:=Lib.hid q4
 clear q4
 by_cases q5:Bc=Bs
 rotate_left
 .
  have b5:(Bc != Bs)=true:=by simpa using q5
  have H5:=Lib.hid q5
  clear q5
  as_aux_lemma =>
   go_wp2_with (first|(go_at_call 304;refine(Pw _ _ Ad _ Am _ Ao _ Bm (Dk.ext Aa) (Ev.ext Aa) (Ek.ext Aa) (Gm.ext Aa)).mono ?_;rintro e9 w1 ⟨rfl,hx1⟩;rw[p1];have I0:=hx1.cell I0;have I1:=hx1.cell I1;have I2:=hx1.cell I2;have I3:=hx1.cell I3;have I4:=hx1.cell I4;have I5:=hx1.cell I5;have I6:=hx1.cell I6;have I7:=hx1.cell I7;have I8:=hx1.cell I8;have I9:=hx1.cell I9;have I10:=hx1.cell I10;have I11:=hx1.cell I11;have I12:=hx1.cell I12;have I13:=hx1.cell I13;have I14:=hx1.cell I14;have I15:=hx1.cell I15;have I16:=hx1.cell I16;have I17:=hx1.cell I17;have I18:=hx1.cell I18;have hz1:=hx1.size)|(go_at_call 305;refine(Py _ Bl Bp Bs _ Dd (Lx.ext Aa)).mono ?_;rintro e9 w2 ⟨rfl,hx2⟩;rw[p2];have I0:=hx2.cell I0;have I1:=hx2.cell I1;have I2:=hx2.cell I2;have I3:=hx2.cell I3;have I4:=hx2.cell I4;have I5:=hx2.cell I5;have I6:=hx2.cell I6;have I7:=hx2.cell I7;have I8:=hx2.cell I8;have I9:=hx2.cell I9;have I10:=hx2.cell I10;have I11:=hx2.cell I11;have I12:=hx2.cell I12;have I13:=hx2.cell I13;have I14:=hx2.cell I14;have I15:=hx2.cell I15;have I16:=hx2.cell I16;have I17:=hx2.cell I17;have I18:=hx2.cell I18;have hz2:=hx2.size)|(go_at_call 306;refine(Um _ Ay Bc _ Bt (Ht.ext Aa)).mono ?_;rintro e9 w3 ⟨rfl,hx3⟩;rw[p3];have I0:=hx3.cell I0;have I1:=hx3.cell I1;have I2:=hx3.cell I2;have I3:=hx3.cell I3;have I4:=hx3.cell I4;have I5:=hx3.cell I5;have I6:=hx3.cell I6;have I7:=hx3.cell I7;have I8:=hx3.cell I8;have I9:=hx3.cell I9;have I10:=hx3.cell I10;have I11:=hx3.cell I11;have I12:=hx3.cell I12;have I13:=hx3.cell I13;have I14:=hx3.cell I14;have I15:=hx3.cell I15;have I16:=hx3.cell I16;have I17:=hx3.cell I17;have I18:=hx3.cell I18;have hz3:=hx3.size))
   go_ret
   exact⟨by rw[show Gl (⟨⟨⟨Ad,Am⟩,⟨Ao,Bm⟩⟩,⟨Bl,Bp,Bs,Dd⟩,⟨Co,Cj,Bg,Cm⟩,Cn,⟨Ay,Bc,Bt⟩,Cq,Bn,Cy⟩:Ap)=false from by simp[Gl,Jl,H5.out]];try rfl,by exact Aa⟩
 have b5:(Bc != Bs)=false:=by simpa using q5
 have H5:=Lib.hid q5
 clear q5
 have hpre:Jl (⟨⟨⟨Ad,Am⟩,⟨Ao,Bm⟩⟩,⟨Bl,Bp,Bs,Dd⟩,⟨Co,Cj,Bg,Cm⟩,Cn,⟨Ay,Bc,Bt⟩,Cq,Bn,Cy⟩:Ap)=true:=by
  simp only[Jl]
  rw[p1,p2,p3,show decide (Ay=Bp)=true by simpa using H4.out,show decide (Bc=Bs)=true by simpa using H5.out]
  rfl
 have HPRE:=Lib.hid hpre
 have HBP:Hid (Qg (⟨Ay,Bc,Bt⟩:Df)):=Lib.hid (Rp p3)
 have HSN:Hid (Ii Dd=true):=Lib.hid (Wo hpre).2.2.2.1
 clear hpre
 go_upto_region 4 with(first|(go_at_call 304;refine(Pw _ _ Ad _ Am _ Ao _ Bm (Dk.ext Aa) (Ev.ext Aa) (Ek.ext Aa) (Gm.ext Aa)).mono ?_;rintro e9 w1 ⟨rfl,hx1⟩;rw[p1];have I0:=hx1.cell I0;have I1:=hx1.cell I1;have I2:=hx1.cell I2;have I3:=hx1.cell I3;have I4:=hx1.cell I4;have I5:=hx1.cell I5;have I6:=hx1.cell I6;have I7:=hx1.cell I7;have I8:=hx1.cell I8;have I9:=hx1.cell I9;have I10:=hx1.cell I10;have I11:=hx1.cell I11;have I12:=hx1.cell I12;have I13:=hx1.cell I13;have I14:=hx1.cell I14;have I15:=hx1.cell I15;have I16:=hx1.cell I16;have I17:=hx1.cell I17;have I18:=hx1.cell I18;have hz1:=hx1.size)|(go_at_call 305;refine(Py _ Bl Bp Bs _ Dd (Lx.ext Aa)).mono ?_;rintro e9 w2 ⟨rfl,hx2⟩;rw[p2];have I0:=hx2.cell I0;have I1:=hx2.cell I1;have I2:=hx2.cell I2;have I3:=hx2.cell I3;have I4:=hx2.cell I4;have I5:=hx2.cell I5;have I6:=hx2.cell I6;have I7:=hx2.cell I7;have I8:=hx2.cell I8;have I9:=hx2.cell I9;have I10:=hx2.cell I10;have I11:=hx2.cell I11;have I12:=hx2.cell I12;have I13:=hx2.cell I13;have I14:=hx2.cell I14;have I15:=hx2.cell I15;have I16:=hx2.cell I16;have I17:=hx2.cell I17;have I18:=hx2.cell I18;have hz2:=hx2.size)|(go_at_call 306;refine(Um _ Ay Bc _ Bt (Ht.ext Aa)).mono ?_;rintro e9 w3 ⟨rfl,hx3⟩;rw[p3];have I0:=hx3.cell I0;have I1:=hx3.cell I1;have I2:=hx3.cell I2;have I3:=hx3.cell I3;have I4:=hx3.cell I4;have I5:=hx3.cell I5;have I6:=hx3.cell I6;have I7:=hx3.cell I7;have I8:=hx3.cell I8;have I9:=hx3.cell I9;have I10:=hx3.cell I10;have I11:=hx3.cell I11;have I12:=hx3.cell I12;have I13:=hx3.cell I13;have I14:=hx3.cell I14;have I15:=hx3.cell I15;have I16:=hx3.cell I16;have I17:=hx3.cell I17;have I18:=hx3.cell I18;have hz3:=hx3.size)|(go_at_call 307;refine(Yk _ _ _ Dd Bt (Lx.ext Aa) (Ht.ext Aa) HSN.out (by have:=HBP.out.len;simp only at this;omega)).mono ?_;rintro e9 w4 ⟨_,rfl,hx4,xs,rfl,gs0⟩;have I0:=hx4.cell I0;have I1:=hx4.cell I1;have I2:=hx4.cell I2;have I3:=hx4.cell I3;have I4:=hx4.cell I4;have I5:=hx4.cell I5;have I6:=hx4.cell I6;have I7:=hx4.cell I7;have I8:=hx4.cell I8;have I9:=hx4.cell I9;have I10:=hx4.cell I10;have I11:=hx4.cell I11;have I12:=hx4.cell I12;have I13:=hx4.cell I13;have I14:=hx4.cell I14;have I15:=hx4.cell I15;have I16:=hx4.cell I16;have I17:=hx4.cell I17;have I18:=hx4.cell I18;have hz4:=hx4.size;have gs:=gs0.ints;obtain⟨xa,xn,xk,rfl⟩:=gs.shape))
 have hR4:=Al hR (w':=w4) Aa
 have hE4:Ext w w4:=by exact Aa
 clear hR
 have hlog:Gl (⟨⟨⟨Ad,Am⟩,⟨Ao,Bm⟩⟩,⟨Bl,Bp,Bs,Dd⟩,⟨Co,Cj,Bg,Cm⟩,Cn,⟨Ay,Bc,Bt⟩,Cq,Bn,Cy⟩:Ap)=(Li (⟨⟨⟨Ad,Am⟩,⟨Ao,Bm⟩⟩,⟨Bl,Bp,Bs,Dd⟩,⟨Co,Cj,Bg,Cm⟩,Cn,⟨Ay,Bc,Bt⟩,Cq,Bn,Cy⟩:Ap)&&(Ph (⟨⟨⟨Ad,Am⟩,⟨Ao,Bm⟩⟩,⟨Bl,Bp,Bs,Dd⟩,⟨Co,Cj,Bg,Cm⟩,Cn,⟨Ay,Bc,Bt⟩,Cq,Bn,Cy⟩:Ap)&&Rs (⟨⟨⟨Ad,Am⟩,⟨Ao,Bm⟩⟩,⟨Bl,Bp,Bs,Dd⟩,⟨Co,Cj,Bg,Cm⟩,Cn,⟨Ay,Bc,Bt⟩,Cq,Bn,Cy⟩:Ap))):=by rw[Gl,HPRE.out,Bool.true_and]
 have HLOG:=Lib.hid hlog
 clear hlog hx1 hx2 hx3 hx4 p1 p2 p3 b4 b5 hEw
 as_aux_lemma =>
  cases hso:(Dn Dd Bt).isSome
  .
   as_aux_lemma =>
    refine rx0 vD fun w5 hx5=>?_
    go_wp2_with fail
    go_ret
    exact⟨by rw[show Gl (⟨⟨⟨Ad,Am⟩,⟨Ao,Bm⟩⟩,⟨Bl,Bp,Bs,Dd⟩,⟨Co,Cj,Bg,Cm⟩,Cn,⟨Ay,Bc,Bt⟩,Cq,Bn,Cy⟩:Ap)=false from by rw[HLOG.out];simp[Li,hso]];try rfl,by exact Aa⟩
  cases p6:eqB (Td Dd Bt) Cq
  .
   as_aux_lemma =>
    refine rx0 vE fun w5 hx5=>?_
    go_wp2_with fail
    go_ret
    exact⟨by rw[show Gl (⟨⟨⟨Ad,Am⟩,⟨Ao,Bm⟩⟩,⟨Bl,Bp,Bs,Dd⟩,⟨Co,Cj,Bg,Cm⟩,Cn,⟨Ay,Bc,Bt⟩,Cq,Bn,Cy⟩:Ap)=false from by rw[HLOG.out];simp[Li,p6]];try rfl,by exact Aa⟩
  cases p7:inb Bn Ay (Mf (⟨Ay,Bc,Bt⟩:Df))
  .
   as_aux_lemma =>
    refine rx0 vF fun w5 hx5=>?_
    go_wp2_with fail
    go_ret
    exact⟨by rw[show Gl (⟨⟨⟨Ad,Am⟩,⟨Ao,Bm⟩⟩,⟨Bl,Bp,Bs,Dd⟩,⟨Co,Cj,Bg,Cm⟩,Cn,⟨Ay,Bc,Bt⟩,Cq,Bn,Cy⟩:Ap)=false from by rw[HLOG.out];simp[Li,p7]];try rfl,by exact Aa⟩
  have hmid:Li (⟨⟨⟨Ad,Am⟩,⟨Ao,Bm⟩⟩,⟨Bl,Bp,Bs,Dd⟩,⟨Co,Cj,Bg,Cm⟩,Cn,⟨Ay,Bc,Bt⟩,Cq,Bn,Cy⟩:Ap)=true:=by
   simp only[Li]
   rw[hso,p6,p7]
   rfl
  have HP:=Lib.hid (uY HPRE.out hmid)
  have HMID:=Lib.hid hmid
  clear hmid
  have HDU:Hid (-1<=Bn/\Bn<=2000):=Lib.hid (by have h1:=Dz.1 p7;have h2:=HBP.out.top;have h3:=HBP.out.base;simp only[Mf] at h1 h2 h3;omega)
  refine wp_region_held_drew (S:=fun w'=>Ext w4 w') (by kernel_rfl) (by(try dsimp only);exact xT) (fun hHeld=>?_)
  refine wt 0 ?_
  (try simp only[Ab,Act.put])
  refine wt 1 ?_
  (try simp only[Ab,Act.put])
  refine wt 2 ?_
  (try simp only[Ab,Act.put])
  refine wt 3 ?_
  (try simp only[Ab,Act.put])
  refine wt 4 ?_
  (try simp only[Ab,Act.put])
  refine wpAnyH_take (i:=5) (v:=?_) rfl (by kernel_rfl) (by kernel_rfl) (by kernel_rfl) (fun _ _ _ h=>h) (Or.inl ⟨by rfl,?_⟩) (by assumption) ?_
  rotate_left
  focus(intro w hSw;(try dsimp only at hSw);have q16:=hSw.cell I16;go_simp <;> with_reducible rfl)
  (try simp only[Ab,Act.put])
  refine wr1 6 fun Kz hKz=>?_
  (try simp only[Ab])
  go_simp
  go_at_call 308
  refine(Rb _ _ _ _ Cq (gs.ext Aa) (Mi.ext Aa)).mono ?_
  rintro e v1⟨rfl,hx1⟩
  rw[show eqB ((Dn Dd Bt).getD Dd) Cq=_ from p6]
  have X1:Ext w4 v1:=Ext.trans Aa hx1
  clear hx1
  refine hKz.out _ _ (by(try dsimp only);exact xT) (fun hHeld=>?_)
  clear hKz Kz
  (try simp only[Ab,Act.put])
  refine wt 7 ?_
  (try simp only[Ab,Act.put])
  refine wt 8 ?_
  (try simp only[Ab,Act.put])
  refine wt 9 ?_
  (try simp only[Ab,Act.put])
  refine wt 10 ?_
  (try simp only[Ab,Act.put])
  refine wpAnyH_take (i:=11) (v:=?_) rfl (by kernel_rfl) (by kernel_rfl) (by kernel_rfl) (fun _ _ _ h=>h) (Or.inl ⟨by rfl,?_⟩) (by assumption) ?_
  rotate_left
  focus(intro w hSw;(try dsimp only at hSw);have q17:=hSw.cell I17;go_simp <;> with_reducible rfl)
  (try simp only[Ab,Act.put])
  refine wt 12 ?_
  (try simp only[Ab,Act.put])
  refine wt 13 ?_
  (try simp only[Ab,Act.put])
  refine wpAnyH_take (i:=14) (v:=?_) rfl (by kernel_rfl) (by kernel_rfl) (by kernel_rfl) (fun _ _ _ h=>h) (Or.inl ⟨by rfl,?_⟩) (by assumption) ?_
  rotate_left
  focus(intro w hSw;(try dsimp only at hSw);have q13:=hSw.cell I13;go_simp <;> with_reducible rfl)
  (try simp only[Ab,Act.put])
  refine wt 15 ?_
  (try simp only[Ab,Act.put])
  refine wpAnyH_take (i:=16) (v:=?_) rfl (by kernel_rfl) (by kernel_rfl) (by kernel_rfl) (fun _ _ _ h=>h) (Or.inl ⟨by rfl,?_⟩) (by assumption) ?_
  rotate_left
  focus(intro w hSw;(try dsimp only at hSw);have q13:=hSw.cell I13;have q14:=hSw.cell I14;have q15:=hSw.cell I15;go_simp <;> with_reducible rfl)
  (try simp only[Ab,Act.put])
  refine wr1 17 fun Kz hKz=>?_
  (try simp only[Ab])
  go_simp
  go_at_call 309
  refine(iP _ Ay Bc _ Bt (Ht.ext Aa) HBP.out).mono ?_
  rintro e v2⟨rfl,hx2⟩
  have X2:Ext w4 v2:=Ext.trans Aa hx2
  clear hx2
  refine hKz.out _ _ (by(try dsimp only);exact xT) (fun hHeld=>?_)
  clear hKz Kz
  (try simp only[Ab,Act.put])
  refine wr1 18 fun Kz hKz=>?_
  (try simp only[Ab])
  go_simp
  go_at_call 303
  refine(Dv _ Bn Ay (Mf (⟨Ay,Bc,Bt⟩:Df))).mono ?_
  rintro e9 w9⟨rfl,rfl⟩
  rw[p7]
  refine hKz.out _ _ (by(try dsimp only);exact xT) (fun hHeld=>?_)
  clear hKz Kz
  (try simp only[Ab,Act.put])
  refine wt 19 ?_
  (try simp only[Ab,Act.put])
  refine wt 20 ?_
  (try simp only[Ab,Act.put])
  refine wt 21 ?_
  (try simp only[Ab,Act.put])
  refine wpAnyH_take (i:=22) (v:=.agg ([.slice a0 n0 k0,.slice a1 n1 k1,.slice a2 n2 k2,.slice a3 n3 k3,.int .i64 Bl,.int .i64 Bp,.int .i64 Bs,.slice a7 n7 k7,.int .i64 Co,.int .i64 Cj,.int .i64 Bg,.slice a11 n11 k11,.bool Cn,.int .i64 Ay,.int .i64 Bc,.slice a15 n15 k15,.slice a16 n16 k16,.int .i64 Bn,.slice a18 n18 k18]:List Value).toArray) rfl (by kernel_rfl) (by kernel_rfl) (by kernel_rfl) (fun _ _ _ h=>h) (yieldsIf_load_mid (by rfl) 81 (.tmp 1) rfl w.heap.size 0 (by rfl) ([.slice a0 n0 k0,.slice a1 n1 k1,.slice a2 n2 k2,.slice a3 n3 k3,.int .i64 Bl,.int .i64 Bp,.int .i64 Bs,.slice a7 n7 k7,.int .i64 Co,.int .i64 Cj,.int .i64 Bg,.slice a11 n11 k11,.bool Cn,.int .i64 Ay,.int .i64 Bc,.slice a15 n15 k15,.slice a16 n16 k16,.int .i64 Bn,.slice a18 n18 k18]:List Value) _ (fun _ hSw=>Al hR4 hSw) Tryz.underlying81 rfl (by kernel_rfl)) (by assumption) ?_
  (try simp only[Ab,Act.put])
  refine wr1 23 fun Kz hKz=>?_
  (try simp only[Ab])
  go_simp
  go_at_call 310
  refine(oI _ _ Ad _ Am _ Ao _ Bm Bl Bp Bs _ Dd Co Cj Bg _ Cm Cn Ay Bc _ Bt _ Cq Bn _ Cy (Dk.ext Aa) (Ev.ext Aa) (Ek.ext Aa) (Gm.ext Aa) (Lx.ext Aa) (Le.ext Aa) (Ht.ext Aa) (Mi.ext Aa) (Pe.ext Aa) HBP.out HDU.out).mono ?_
  rintro e v4⟨rfl,hx4⟩
  have X4:Ext w4 v4:=Ext.trans Aa hx4
  clear hx4
  refine hKz.out _ _ (by(try dsimp only);exact xT) (fun hHeld=>?_)
  clear hKz Kz
  (try simp only[Ab,Act.put])
  refine wt 24 ?_
  (try simp only[Ab,Act.put])
  refine wt 25 ?_
  (try simp only[Ab,Act.put])
  refine wpAnyH_done (by kernel_rfl) ?_ _
  obtain⟨w5,hw5⟩:∃w5,w5=v4:=⟨_,rfl⟩
  have hx5:Ext w4 w5:=by rw[hw5];exact X4
  cases p8:Ph (⟨⟨⟨Ad,Am⟩,⟨Ao,Bm⟩⟩,⟨Bl,Bp,Bs,Dd⟩,⟨Co,Cj,Bg,Cm⟩,Cn,⟨Ay,Bc,Bt⟩,Cq,Bn,Cy⟩:Ap)
  .
   as_aux_lemma =>
    go_wp2_with fail
    go_ret
    exact⟨by rw[show Gl (⟨⟨⟨Ad,Am⟩,⟨Ao,Bm⟩⟩,⟨Bl,Bp,Bs,Dd⟩,⟨Co,Cj,Bg,Cm⟩,Cn,⟨Ay,Bc,Bt⟩,Cq,Bn,Cy⟩:Ap)=false from by rw[HLOG.out,p8];simp];try rfl,by exact Aa⟩
  go_upto_region 6 with(fail)
  rw[<-hw5]
  clear hw5 X1 X2 X4
  have hfin:Gl (⟨⟨⟨Ad,Am⟩,⟨Ao,Bm⟩⟩,⟨Bl,Bp,Bs,Dd⟩,⟨Co,Cj,Bg,Cm⟩,Cn,⟨Ay,Bc,Bt⟩,Cq,Bn,Cy⟩:Ap)=Rs (⟨⟨⟨Ad,Am⟩,⟨Ao,Bm⟩⟩,⟨Bl,Bp,Bs,Dd⟩,⟨Co,Cj,Bg,Cm⟩,Cn,⟨Ay,Bc,Bt⟩,Cq,Bn,Cy⟩:Ap):=by rw[HLOG.out,HMID.out,p8];rfl
  have HFIN:=Lib.hid hfin
  have I0:=hx5.cell I0;have I1:=hx5.cell I1;have I2:=hx5.cell I2;have I3:=hx5.cell I3;have I4:=hx5.cell I4;have I5:=hx5.cell I5;have I6:=hx5.cell I6;have I7:=hx5.cell I7;have I8:=hx5.cell I8;have I9:=hx5.cell I9;have I10:=hx5.cell I10;have I11:=hx5.cell I11;have I12:=hx5.cell I12;have I13:=hx5.cell I13;have I14:=hx5.cell I14;have I15:=hx5.cell I15;have I16:=hx5.cell I16;have I17:=hx5.cell I17;have I18:=hx5.cell I18
  have hE5:=hE4.trans hx5
  have hR5:=Al hR4 hx5
  clear hR4
  have hz5:=hx5.size
  have hnum:=HP.out.num;have hbb:=HBP.out.base;have hb0:=H4.out
  simp only at hnum hbb
  have hw5:IntKind.i64.wrap (Bp+1)=Bp+1:=by rw[IntKind.wrap_i64] <;> omega
  clear hfin hx5 hso p6 p7 p8 hb0 hE4
  as_aux_lemma =>
   cases Cn
   .
    go_wp2_with (first|(go_at_call 311;refine(Uy _ Co Cj Bg _ Cm 0 0 0 _ [] (Le.ext Aa) (show Aj 3 _ _ (Cz []) from Aj.nil 3 _)).mono ?_;rintro e9 w6 ⟨rfl,hx6⟩))
    go_ret
    exact⟨by rw[HFIN.out];first|rfl|(simp[Rs,Ip];done),by exact Aa⟩
   cases p9:inb Cj (Bp+1) Bn
   .
    go_upto_region 8 with(fail)
    refine rx0 vG fun w6 hx6=>?_
    go_wp2_with fail
    go_ret
    exact⟨by rw[HFIN.out];simp[Rs,p9],by exact Aa⟩
   have hi:=Dz.1 p9
   have hn:Rs (⟨⟨⟨Ad,Am⟩,⟨Ao,Bm⟩⟩,⟨Bl,Bp,Bs,Dd⟩,⟨Co,Cj,Bg,Cm⟩,true,⟨Ay,Bc,Bt⟩,Cq,Bn,Cy⟩:Ap)=eqB (⟨Co,Cj,Bg,Cm⟩:Di) (Oq (⟨⟨⟨Ad,Am⟩,⟨Ao,Bm⟩⟩,⟨Bl,Bp,Bs,Dd⟩,⟨Co,Cj,Bg,Cm⟩,true,⟨Ay,Bc,Bt⟩,Cq,Bn,Cy⟩:Ap) Cj):=by simp only[Rs,if_true];rw[p9];rfl
   have HN:=Lib.hid hn
   clear hn
   go_upto_region 8 with(fail)
   as_aux_lemma =>
    refine wp_region_held_drew (S:=fun w'=>Ext w5 w') (by kernel_rfl) (by(try dsimp only);exact xT) (fun hHeld=>?_)
    refine wt 0 ?_
    (try simp only[Ab,Act.put])
    refine wt 1 ?_
    (try simp only[Ab,Act.put])
    refine wpAnyH_take (i:=2) (v:=?_) rfl (by kernel_rfl) (by kernel_rfl) (by kernel_rfl) (fun _ _ _ h=>h) (Or.inl ⟨by rfl,?_⟩) (by assumption) ?_
    rotate_left
    focus(intro w hSw;(try dsimp only at hSw);have q9:=hSw.cell I9;go_simp <;> with_reducible rfl)
    (try simp only[Ab,Act.put])
    refine wt 3 ?_
    (try simp only[Ab,Act.put])
    refine wt 4 ?_
    (try simp only[Ab,Act.put])
    refine wpAnyH_take (i:=5) (v:=?_) rfl (by kernel_rfl) (by kernel_rfl) (by kernel_rfl) (fun _ _ _ h=>h) (Or.inl ⟨by rfl,?_⟩) (by assumption) ?_
    rotate_left
    focus(intro w hSw;(try dsimp only at hSw);have q5:=hSw.cell I5;go_simp <;> with_reducible rfl)
    (try simp only[Ab,Act.put])
    refine wt 6 ?_
    (try simp only[Ab,Act.put])
    refine wt 7 ?_
    (try simp only[Ab,Act.put])
    refine wpAnyH_take (i:=8) (v:=?_) rfl (by kernel_rfl) (by kernel_rfl) (by kernel_rfl) (fun _ _ _ h=>h) (Or.inl ⟨by rfl,?_⟩) (by assumption) ?_
    rotate_left
    focus(intro w hSw;(try dsimp only at hSw);have q17:=hSw.cell I17;go_simp <;> with_reducible rfl)
    (try simp only[Ab,Act.put])
    refine wr1 9 fun Kz hKz=>?_
    (try simp only[Ab])
    go_simp
    go_at_call 303
    refine(Dv _ Cj (Bp+1) Bn).mono ?_
    rintro e9 w9⟨rfl,rfl⟩
    rw[p9]
    refine hKz.out _ _ (by(try dsimp only);exact xT) (fun hHeld=>?_)
    clear hKz Kz
    (try simp only[Ab,Act.put])
    refine wt 10 ?_
    (try simp only[Ab,Act.put])
    refine wt 11 ?_
    (try simp only[Ab,Act.put])
    refine wpAnyH_take (i:=12) (v:=?_) rfl (by kernel_rfl) (by kernel_rfl) (by kernel_rfl) (fun _ _ _ h=>h) (Or.inl ⟨by rfl,?_⟩) (by assumption) ?_
    rotate_left
    focus(intro w hSw;(try dsimp only at hSw);have q8:=hSw.cell I8;have q9:=hSw.cell I9;have q10:=hSw.cell I10;have q11:=hSw.cell I11;go_simp <;> with_reducible rfl)
    (try simp only[Ab,Act.put])
    refine wpAnyH_take (i:=13) (v:=.agg ([.slice a0 n0 k0,.slice a1 n1 k1,.slice a2 n2 k2,.slice a3 n3 k3,.int .i64 Bl,.int .i64 Bp,.int .i64 Bs,.slice a7 n7 k7,.int .i64 Co,.int .i64 Cj,.int .i64 Bg,.slice a11 n11 k11,.bool true,.int .i64 Ay,.int .i64 Bc,.slice a15 n15 k15,.slice a16 n16 k16,.int .i64 Bn,.slice a18 n18 k18]:List Value).toArray) rfl (by kernel_rfl) (by kernel_rfl) (by kernel_rfl) (fun _ _ _ h=>h) (yieldsIf_load_mid (by rfl) 81 (.tmp 1) rfl w.heap.size 0 (by rfl) ([.slice a0 n0 k0,.slice a1 n1 k1,.slice a2 n2 k2,.slice a3 n3 k3,.int .i64 Bl,.int .i64 Bp,.int .i64 Bs,.slice a7 n7 k7,.int .i64 Co,.int .i64 Cj,.int .i64 Bg,.slice a11 n11 k11,.bool true,.int .i64 Ay,.int .i64 Bc,.slice a15 n15 k15,.slice a16 n16 k16,.int .i64 Bn,.slice a18 n18 k18]:List Value) _ (fun _ hSw=>Al hR5 hSw) Tryz.underlying81 rfl (by kernel_rfl)) (by assumption) ?_
    (try simp only[Ab,Act.put])
    refine wt 14 ?_
    (try simp only[Ab,Act.put])
    refine wt 15 ?_
    (try simp only[Ab,Act.put])
    refine wpAnyH_take (i:=16) (v:=?_) rfl (by kernel_rfl) (by kernel_rfl) (by kernel_rfl) (fun _ _ _ h=>h) (Or.inl ⟨by rfl,?_⟩) (by assumption) ?_
    rotate_left
    focus(intro w hSw;(try dsimp only at hSw);have q9:=hSw.cell I9;go_simp <;> with_reducible rfl)
    (try simp only[Ab,Act.put])
    refine wr1 17 fun Kz hKz=>?_
    (try simp only[Ab])
    go_simp
    go_at_call 312
    refine(oJ _ _ Ad _ Am _ Ao _ Bm Bl Bp Bs _ Dd Co Cj Bg _ Cm true Ay Bc _ Bt _ Cq Bn _ Cy Cj (Dk.ext Aa) (Ev.ext Aa) (Ek.ext Aa) (Gm.ext Aa) (Lx.ext Aa) (Le.ext Aa) (Ht.ext Aa) (Mi.ext Aa) (Pe.ext Aa) HP.out oM).mono ?_
    rintro e w7⟨_,rfl,hx7,xh,rfl,gh⟩
    have X7:Ext w5 w7:=Ext.trans Aa hx7
    clear hx7
    refine hKz.out _ _ (by(try dsimp only);exact xT) (fun hHeld=>?_)
    clear hKz Kz
    (try simp only[Ab,Act.put])
    refine wr1 18 fun Kz hKz=>?_
    (try simp only[Ab])
    go_simp
    go_at_call 311
    refine(Uy _ Co Cj Bg _ Cm (Bl+1) Cj (Od (⟨Ay,Bc,Bt⟩:Df) Cj) _ (Oq (⟨⟨⟨Ad,Am⟩,⟨Ao,Bm⟩⟩,⟨Bl,Bp,Bs,Dd⟩,⟨Co,Cj,Bg,Cm⟩,true,⟨Ay,Bc,Bt⟩,Cq,Bn,Cy⟩:Ap) Cj).Seen (Le.ext Aa) (gh.ext Aa)).mono ?_
    rintro e w8⟨rfl,hx8⟩
    have X8:Ext w5 w8:=Ext.trans Aa hx8
    clear hx8
    refine hKz.out _ _ (by(try dsimp only);exact xT) (fun hHeld=>?_)
    clear hKz Kz
    (try simp only[Ab,Act.put])
    refine wt 19 ?_
    (try simp only[Ab,Act.put])
    refine wt 20 ?_
    (try simp only[Ab,Act.put])
    refine wpAnyH_done (by kernel_rfl) ?_ _
    go_wp2_with fail
    go_ret
    exact⟨by rw[HFIN.out,HN.out];rfl,by exact Aa⟩
end Go.Proofs.YtkpmbocbbgocbaaGreat
