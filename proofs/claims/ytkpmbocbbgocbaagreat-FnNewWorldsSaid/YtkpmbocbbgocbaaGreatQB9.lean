/- WEa EqDue EqPair EqJob EqEntry Eq WEb WEc WEd WEe. -/
import Derived.Test.YtkpmbocbbgocbaaGreatQB8
set_option linter.unusedSimpArgs false
set_option linter.unusedVariables false
set_option maxHeartbeats 8000000
set_option maxRecDepth 100000
namespace Go.Proofs.YtkpmbocbbgocbaaGreat
open Go.RowKit Go.G8
theorem jF(w:World)(c0:Int)(s t:Value)(d:List Int)(h:Aj 1 w s d)(k:Aj 1 w t d):Calls Tryz.prog 370 #[.agg #[.int .i64 c0,s],.agg #[.int .i64 c0,t]] w (Cp w (.bool true)):=by
 obtain⟨a1,n1,k1,rfl⟩:=h.shape
 obtain⟨a2,n2,k2,rfl⟩:=k.shape
 obtain⟨W0,hW0⟩:∃W0,W0=((w.alloc (.cells #[.int .i64 c0,.slice a1 n1 k1] 312)).alloc (.cells #[.int .i64 c0,.slice a2 n2 k2] 312)):=⟨_,rfl⟩
 have E0:Ext w W0:=by rw[hW0];exact Aa
 have KA:Blk W0 (w.heap.size) 312 #[.int .i64 c0,.slice a1 n1 k1]:=by rw[hW0];exact(Blk.new _ _ _).alloc _
 have KB:Blk W0 (w.heap.size+1) 312 #[.int .i64 c0,.slice a2 n2 k2]:=by rw[hW0];exact Blk.new2 _ _ _ _
 go_enter Tryz.func370,Tryz.ntmps370
 go_upto_region 1 with(fail)
 rw[<-hW0]
 clear hW0
 have X0:Ext w W0:=E0
 obtain⟨CA,FA,LA⟩:=KA.cfl
 obtain⟨CB,FB,LB⟩:=KB.cfl
 go_wp2_with (fail)
 refine(dB _ _ _ d d (h.ext Aa) (k.ext Aa)).mono ?_
 rintro e w1⟨rfl,hx1⟩
 have KA:=KA.ext hx1;clear CA FA LA
 have KB:=KB.ext hx1;clear CB FB LB
 have X1:=X0.trans hx1;clear hx1
 obtain⟨CA,FA,LA⟩:=KA.cfl
 obtain⟨CB,FB,LB⟩:=KB.cfl
 rw[show decide (d=d)=true from by simp]
 go_wp2_with fail
 go_ret
 exact⟨rfl,by exact Aa⟩
theorem oK(w:World)(va vb:Value)(rows:List Gn)(ha:Ck 0 w va rows)(hb:Ck 0 w vb rows):Calls Tryz.prog 367 #[va,vb,.func (.func 368) #[] #[]] w (Cp w (.bool true)):=by
 have hwid:=ha.1
 obtain⟨a,ca,rfl,hca,hm,ha'⟩:=ha.open_
 obtain⟨b,cb,rfl,_,_,hb'⟩:=hb.open_
 have HA:=Lib.hid ha';have HB:=Lib.hid hb';have HW:=Lib.hid hwid
 clear ha' hb' ha hb hwid
 unfold maxLen at hm
 go_enter Tryz.func367,Tryz.ntmps367
 go_wp2_with fail
 go_loopw [17] (fun i wr=>∃k:Nat,k<=rows.length/\i=.int .i64 k/\Ext w wr) (fun i _=>rows.length - (intOf i).toNat)
 case atStart=>exact⟨0,Nat.zero_le _,rfl,Ext.refl _⟩
 case round =>
  obtain⟨k,hk,rfl,he⟩:=hrel
  by_cases hlt:k<rows.length
  .
   obtain⟨r,b1,o1,s,hr,rfl,_,hci,hcs,hin0⟩:=HA.out k hlt
   obtain⟨r2,b2,o2,t,hr2,rfl,_,hci2,hcs2,hin2⟩:=HB.out k hlt
   obtain rfl:r=r2:=by rw[hr] at hr2;exact Option.some.inj hr2
   have hrw:=HW.out r (List.mem_of_getElem? hr)
   have d0:=he.cell hcs;have d02:=he.cell hcs2
   simp only[Nat.add_zero,Nat.zero_add,Nat.mul_one] at d0 d02
   have hl1:=World.block_lt_of_cell? _ _ d0;have hl2:=World.block_lt_of_cell? _ _ d02
   simp only at hl1 hl2
   have g1:=hin0.ext he;have g2:=hin2.ext he
   obtain⟨sa,sn,sc,rfl⟩:=g1.shape;obtain⟨ta,tn,tc,rfl⟩:=g2.shape
   clear hci hcs hci2 hcs2 hrw hr hr2 hin0 hin2
   go_wp2_with fail
   refine(dB _ _ _ r.2 r.2 g1 g2).mono ?_
   rintro e w1⟨rfl,hx1⟩
   rw[show decide (r.2=r.2)=true from by simp]
   go_wp2_with fail
   go_roundw
   case rel=>exact⟨k+1,by omega,by go_num,by exact Aa⟩
   case measure=>simp[intOf];omega
  obtain rfl:k=rows.length:=by omega
  go_wp2_with fail
  go_ret
  exact⟨rfl,he⟩
theorem oL(w:World)(va vb:Value)(rows:List Gn)(ha:Ck 1 w va rows)(hb:Ck 1 w vb rows):Calls Tryz.prog 369 #[va,vb,.func (.func 370) #[] #[]] w (Cp w (.bool true)):=by
 have hwid:=ha.1
 obtain⟨a,ca,rfl,hca,hm,ha'⟩:=ha.open_
 obtain⟨b,cb,rfl,_,_,hb'⟩:=hb.open_
 have HA:=Lib.hid ha';have HB:=Lib.hid hb';have HW:=Lib.hid hwid
 clear ha' hb' ha hb hwid
 unfold maxLen at hm
 go_enter Tryz.func369,Tryz.ntmps369
 go_wp2_with fail
 go_loopw [17] (fun i wr=>∃k:Nat,k<=rows.length/\i=.int .i64 k/\Ext w wr) (fun i _=>rows.length - (intOf i).toNat)
 case atStart=>exact⟨0,Nat.zero_le _,rfl,Ext.refl _⟩
 case round =>
  obtain⟨k,hk,rfl,he⟩:=hrel
  by_cases hlt:k<rows.length
  .
   obtain⟨r,b1,o1,s,hr,rfl,_,hci,hcs,hin0⟩:=HA.out k hlt
   obtain⟨r2,b2,o2,t,hr2,rfl,_,hci2,hcs2,hin2⟩:=HB.out k hlt
   obtain rfl:r=r2:=by rw[hr] at hr2;exact Option.some.inj hr2
   have hrw:=HW.out r (List.mem_of_getElem? hr)
   obtain⟨x0,hx0⟩:∃u,r.1[0]?=some u:=⟨_,List.getElem?_eq_getElem (by rw[hrw];decide)⟩
   have d0:=he.cell (hci 0 _ hx0);have d1:=he.cell hcs
   simp only[Nat.add_zero,Nat.reduceAdd] at d0 d1
   have d02:=he.cell (hci2 0 _ hx0);have d12:=he.cell hcs2
   simp only[Nat.add_zero,Nat.reduceAdd] at d02 d12
   have hl1:=World.block_lt_of_cell? _ _ d0;have hl2:=World.block_lt_of_cell? _ _ d02
   simp only at hl1 hl2
   have g1:=hin0.ext he;have g2:=hin2.ext he
   obtain⟨sa,sn,sc,rfl⟩:=g1.shape;obtain⟨ta,tn,tc,rfl⟩:=g2.shape
   clear hci hcs hci2 hcs2 hrw hr hr2 hin0 hin2 hx0
   go_wp2_with fail
   refine(jF _ x0 _ _ r.2 (g1.ext Aa) (g2.ext Aa)).mono ?_
   rintro e w1⟨rfl,hx1⟩
   skip
   go_wp2_with fail
   go_roundw
   case rel=>exact⟨k+1,by omega,by go_num,by exact Aa⟩
   case measure=>simp[intOf];omega
  obtain rfl:k=rows.length:=by omega
  go_wp2_with fail
  go_ret
  exact⟨rfl,he⟩
theorem aX(w:World)(s0 s1 t0 t1:Value)(r0 r1:List Gn)(h0:Ck 0 w s0 r0)(h1:Ck 1 w s1 r1)(q0:Ck 0 w t0 r0)(q1:Ck 1 w t1 r1):Calls Tryz.prog 288 #[.agg #[s0,s1],.agg #[t0,t1]] w (Cp w (.bool true)):=by
 obtain⟨a1,n1,k1,rfl⟩:=h0.shape
 obtain⟨a2,n2,k2,rfl⟩:=h1.shape
 obtain⟨a3,n3,k3,rfl⟩:=q0.shape
 obtain⟨a4,n4,k4,rfl⟩:=q1.shape
 obtain⟨W0,hW0⟩:∃W0,W0=((w.alloc (.cells #[.slice a1 n1 k1,.slice a2 n2 k2] 70)).alloc (.cells #[.slice a3 n3 k3,.slice a4 n4 k4] 70)):=⟨_,rfl⟩
 have E0:Ext w W0:=by rw[hW0];exact Aa
 have KA:Blk W0 (w.heap.size) 70 #[.slice a1 n1 k1,.slice a2 n2 k2]:=by rw[hW0];exact(Blk.new _ _ _).alloc _
 have KB:Blk W0 (w.heap.size+1) 70 #[.slice a3 n3 k3,.slice a4 n4 k4]:=by rw[hW0];exact Blk.new2 _ _ _ _
 go_enter Tryz.func288,Tryz.ntmps288
 go_upto_region 1 with(fail)
 rw[<-hW0]
 clear hW0
 have X0:Ext w W0:=E0
 obtain⟨CA,FA,LA⟩:=KA.cfl
 obtain⟨CB,FB,LB⟩:=KB.cfl
 go_wp2_with (fail)
 refine(oK _ _ _ _ (h0.ext Aa) (q0.ext Aa)).mono ?_
 rintro e w1⟨rfl,hx1⟩
 have KA:=KA.ext hx1;clear CA FA LA
 have KB:=KB.ext hx1;clear CB FB LB
 have X1:=X0.trans hx1;clear hx1
 obtain⟨CA,FA,LA⟩:=KA.cfl
 obtain⟨CB,FB,LB⟩:=KB.cfl
 go_wp2_with (fail)
 refine(oL _ _ _ _ (h1.ext Aa) (q1.ext Aa)).mono ?_
 rintro e w2⟨rfl,hx2⟩
 have KA:=KA.ext hx2;clear CA FA LA
 have KB:=KB.ext hx2;clear CB FB LB
 have X2:=X1.trans hx2;clear hx2
 obtain⟨CA,FA,LA⟩:=KA.cfl
 obtain⟨CB,FB,LB⟩:=KB.cfl
 go_wp2_with fail
 go_ret
 exact⟨rfl,by exact Aa⟩
theorem rE(w:World)(v u:Value)(l m:List Hu)(h:Aj 2 w v (Nm l))(k:Aj 2 w u (Nm m)):Calls Tryz.prog 409 #[v,u] w (Cp w (.bool (eqB l m))):=by
 obtain⟨a,c,rfl,hc,hm,ha⟩:=h.recs (f:=Hu.ints) (fun _=>rfl) dC
 obtain⟨b,d,rfl,hd,hn,hb⟩:=k.recs (f:=Hu.ints) (fun _=>rfl) dC
 have HA:=Lib.hid ha;have HB:=Lib.hid hb
 clear ha hb h k
 unfold maxLen at hm hn
 by_cases hl:l.length=m.length
 rotate_left
 .
  have hD:eqB l m=false:=Au (fun e=>hl (by rw[e]))
  have hb1:((l.length:Int) == (m.length:Int))=false:=by simp;omega
  have hb2:decide ((l.length:Int)=(m.length:Int))=false:=by simp;omega
  have hb3:decide (l.length=m.length)=false:=by simpa using hl
  have HD:=Lib.hid hD
  clear hl hD
  go_enter Tryz.func409,Tryz.ntmps409
  go_wp2
  go_ret
  exact⟨by rw[HD.out];try rfl,by exact Aa⟩
 obtain⟨N,hN⟩:∃N,N=m.length:=⟨_,rfl⟩
 rw[<-hN] at hl HB hd ⊢
 rw[hl] at HA hc ⊢
 have HL:=Lib.hid hl;have HN:=Lib.hid hN
 clear hl hN
 go_enter Tryz.func409,Tryz.ntmps409
 go_wp2_with fail
 go_loopw [13] (fun i wr=>∃k:Nat,k<=N/\i=.int .i64 k/\Ext w wr/\Hid (l.take k=m.take k)) (fun i _=>N - (intOf i).toNat)
 case atStart=>exact⟨0,Nat.zero_le _,rfl,Ext.refl _,Lib.hid (by simp)⟩
 case round =>
  obtain⟨k,hk,rfl,he,ht⟩:=hrel
  by_cases hlt:k<N
  .
   obtain⟨x,b1,o1,hx,rfl,hb1,c1⟩:=HA.out k hlt
   obtain⟨y,b2,o2,hy,rfl,hb2,c2⟩:=HB.out k hlt
   obtain⟨x0,x1⟩:=x
   obtain⟨y0,y1⟩:=y
   have d0:=he.cell (c1 0 _ dC rfl);have e0:=he.cell (c2 0 _ dC rfl)
   have d1:=he.cell (c1 1 _ dC rfl);have e1:=he.cell (c2 1 _ dC rfl)
   simp only[Nat.add_zero] at d0 e0
   have HX:=Lib.hid hx;have HY:=Lib.hid hy
   clear hx hy c1 c2
   by_cases hne:x0=y0
   rotate_left
   .
    have b1:(x0 == y0)=false:=by simpa using hne
    have b2:decide (x0=y0)=false:=by simpa using hne
    have hD:eqB l m=false:=Au (fun e=>by
     have h1:=HX.out;have h2:=HY.out
     rw[e,h2] at h1
     injection h1 with h1
     simp at h1
     omega)
    have HD:=Lib.hid hD
    clear hD hne
    go_wp2_with fail
    go_quiet (fail)
    go_wp2_with fail
    go_ret
    exact⟨by rw[HD.out];try rfl,by exact Aa⟩
   subst hne
   by_cases hne:x1=y1
   rotate_left
   .
    have b1:(x1 == y1)=false:=by simpa using hne
    have b2:decide (x1=y1)=false:=by simpa using hne
    have hD:eqB l m=false:=Au (fun e=>by
     have h1:=HX.out;have h2:=HY.out
     rw[e,h2] at h1
     injection h1 with h1
     simp at h1
     omega)
    have HD:=Lib.hid hD
    clear hD hne
    go_wp2_with fail
    go_quiet (fail)
    go_wp2_with fail
    go_ret
    exact⟨by rw[HD.out];try rfl,by exact Aa⟩
   subst hne
   go_wp2_with fail
   go_quiet (fail)
   go_wp2_with fail
   go_roundw
   case rel=>exact⟨k+1,by omega,by go_num,by exact Aa,Lib.hid (Jc HX.out HY.out ht.out)⟩
   case measure=>simp[intOf];omega
  obtain rfl:k=N:=by omega
  have hD:eqB l m=true:=by
   have h1:=ht.out
   rw[List.take_of_length_le (by rw[HL.out];omega),List.take_of_length_le (by rw[<-HN.out];omega)] at h1
   exact Fc h1
  have HD:=Lib.hid hD
  clear hD
  go_wp2_with fail
  go_ret
  exact⟨by rw[HD.out];try rfl,by exact Aa⟩
theorem oN(w:World)(v u:Value)(l m:List Ft)(h:Aj 2 w v (Dp l))(k:Aj 2 w u (Dp m)):Calls Tryz.prog 372 #[v,u] w (Cp w (.bool (eqB l m))):=by
 obtain⟨a,c,rfl,hc,hm,ha⟩:=h.recs (f:=Ft.ints) (fun _=>rfl) dC
 obtain⟨b,d,rfl,hd,hn,hb⟩:=k.recs (f:=Ft.ints) (fun _=>rfl) dC
 have HA:=Lib.hid ha;have HB:=Lib.hid hb
 clear ha hb h k
 unfold maxLen at hm hn
 by_cases hl:l.length=m.length
 rotate_left
 .
  have hD:eqB l m=false:=Au (fun e=>hl (by rw[e]))
  have hb1:((l.length:Int) == (m.length:Int))=false:=by simp;omega
  have hb2:decide ((l.length:Int)=(m.length:Int))=false:=by simp;omega
  have hb3:decide (l.length=m.length)=false:=by simpa using hl
  have HD:=Lib.hid hD
  clear hl hD
  go_enter Tryz.func372,Tryz.ntmps372
  go_wp2
  go_ret
  exact⟨by rw[HD.out];try rfl,by exact Aa⟩
 obtain⟨N,hN⟩:∃N,N=m.length:=⟨_,rfl⟩
 rw[<-hN] at hl HB hd ⊢
 rw[hl] at HA hc ⊢
 have HL:=Lib.hid hl;have HN:=Lib.hid hN
 clear hl hN
 go_enter Tryz.func372,Tryz.ntmps372
 go_wp2_with fail
 go_loopw [13] (fun i wr=>∃k:Nat,k<=N/\i=.int .i64 k/\Ext w wr/\Hid (l.take k=m.take k)) (fun i _=>N - (intOf i).toNat)
 case atStart=>exact⟨0,Nat.zero_le _,rfl,Ext.refl _,Lib.hid (by simp)⟩
 case round =>
  obtain⟨k,hk,rfl,he,ht⟩:=hrel
  by_cases hlt:k<N
  .
   obtain⟨x,b1,o1,hx,rfl,hb1,c1⟩:=HA.out k hlt
   obtain⟨y,b2,o2,hy,rfl,hb2,c2⟩:=HB.out k hlt
   obtain⟨x0,x1⟩:=x
   obtain⟨y0,y1⟩:=y
   have d0:=he.cell (c1 0 _ dC rfl);have e0:=he.cell (c2 0 _ dC rfl)
   have d1:=he.cell (c1 1 _ dC rfl);have e1:=he.cell (c2 1 _ dC rfl)
   simp only[Nat.add_zero] at d0 e0
   have HX:=Lib.hid hx;have HY:=Lib.hid hy
   clear hx hy c1 c2
   by_cases hne:x0=y0
   rotate_left
   .
    have b1:(x0 == y0)=false:=by simpa using hne
    have b2:decide (x0=y0)=false:=by simpa using hne
    have hD:eqB l m=false:=Au (fun e=>by
     have h1:=HX.out;have h2:=HY.out
     rw[e,h2] at h1
     injection h1 with h1
     simp at h1
     omega)
    have HD:=Lib.hid hD
    clear hD hne
    go_wp2_with fail
    go_quiet (fail)
    go_wp2_with fail
    go_ret
    exact⟨by rw[HD.out];try rfl,by exact Aa⟩
   subst hne
   by_cases hne:x1=y1
   rotate_left
   .
    have b1:(x1 == y1)=false:=by simpa using hne
    have b2:decide (x1=y1)=false:=by simpa using hne
    have hD:eqB l m=false:=Au (fun e=>by
     have h1:=HX.out;have h2:=HY.out
     rw[e,h2] at h1
     injection h1 with h1
     simp at h1
     omega)
    have HD:=Lib.hid hD
    clear hD hne
    go_wp2_with fail
    go_quiet (fail)
    go_wp2_with fail
    go_ret
    exact⟨by rw[HD.out];try rfl,by exact Aa⟩
   subst hne
   go_wp2_with fail
   go_quiet (fail)
   go_wp2_with fail
   go_roundw
   case rel=>exact⟨k+1,by omega,by go_num,by exact Aa,Lib.hid (Jc HX.out HY.out ht.out)⟩
   case measure=>simp[intOf];omega
  obtain rfl:k=N:=by omega
  have hD:eqB l m=true:=by
   have h1:=ht.out
   rw[List.take_of_length_le (by rw[HL.out];omega),List.take_of_length_le (by rw[<-HN.out];omega)] at h1
   exact Fc h1
  have HD:=Lib.hid hD
  clear hD
  go_wp2_with fail
  go_ret
  exact⟨by rw[HD.out];try rfl,by exact Aa⟩
theorem rF(w:World)(v u:Value)(l m:List Hl)(h:Aj 5 w v (Fj l))(k:Aj 5 w u (Fj m)):Calls Tryz.prog 373 #[v,u] w (Cp w (.bool (eqB l m))):=by
 obtain⟨a,c,rfl,hc,hm,ha⟩:=h.recs (f:=Hl.ints) (fun _=>rfl) dC
 obtain⟨b,d,rfl,hd,hn,hb⟩:=k.recs (f:=Hl.ints) (fun _=>rfl) dC
 have HA:=Lib.hid ha;have HB:=Lib.hid hb
 clear ha hb h k
 unfold maxLen at hm hn
 by_cases hl:l.length=m.length
 rotate_left
 .
  have hD:eqB l m=false:=Au (fun e=>hl (by rw[e]))
  have hb1:((l.length:Int) == (m.length:Int))=false:=by simp;omega
  have hb2:decide ((l.length:Int)=(m.length:Int))=false:=by simp;omega
  have hb3:decide (l.length=m.length)=false:=by simpa using hl
  have HD:=Lib.hid hD
  clear hl hD
  go_enter Tryz.func373,Tryz.ntmps373
  go_wp2
  go_ret
  exact⟨by rw[HD.out];try rfl,by exact Aa⟩
 obtain⟨N,hN⟩:∃N,N=m.length:=⟨_,rfl⟩
 rw[<-hN] at hl HB hd ⊢
 rw[hl] at HA hc ⊢
 have HL:=Lib.hid hl;have HN:=Lib.hid hN
 clear hl hN
 go_enter Tryz.func373,Tryz.ntmps373
 go_wp2_with fail
 go_loopw [13] (fun i wr=>∃k:Nat,k<=N/\i=.int .i64 k/\Ext w wr/\Hid (l.take k=m.take k)) (fun i _=>N - (intOf i).toNat)
 case atStart=>exact⟨0,Nat.zero_le _,rfl,Ext.refl _,Lib.hid (by simp)⟩
 case round =>
  obtain⟨k,hk,rfl,he,ht⟩:=hrel
  by_cases hlt:k<N
  .
   obtain⟨x,b1,o1,hx,rfl,hb1,c1⟩:=HA.out k hlt
   obtain⟨y,b2,o2,hy,rfl,hb2,c2⟩:=HB.out k hlt
   obtain⟨x0,x1,x2,x3,x4⟩:=x
   obtain⟨y0,y1,y2,y3,y4⟩:=y
   have d0:=he.cell (c1 0 _ dC rfl);have e0:=he.cell (c2 0 _ dC rfl)
   have d1:=he.cell (c1 1 _ dC rfl);have e1:=he.cell (c2 1 _ dC rfl)
   have d2:=he.cell (c1 2 _ dC rfl);have e2:=he.cell (c2 2 _ dC rfl)
   have d3:=he.cell (c1 3 _ dC rfl);have e3:=he.cell (c2 3 _ dC rfl)
   have d4:=he.cell (c1 4 _ dC rfl);have e4:=he.cell (c2 4 _ dC rfl)
   simp only[Nat.add_zero] at d0 e0
   have HX:=Lib.hid hx;have HY:=Lib.hid hy
   clear hx hy c1 c2
   by_cases hne:x0=y0
   rotate_left
   .
    have b1:(x0 == y0)=false:=by simpa using hne
    have b2:decide (x0=y0)=false:=by simpa using hne
    have hD:eqB l m=false:=Au (fun e=>by
     have h1:=HX.out;have h2:=HY.out
     rw[e,h2] at h1
     injection h1 with h1
     simp at h1
     omega)
    have HD:=Lib.hid hD
    clear hD hne
    go_wp2_with fail
    go_quiet (fail)
    go_wp2_with fail
    go_ret
    exact⟨by rw[HD.out];try rfl,by exact Aa⟩
   subst hne
   by_cases hne:x1=y1
   rotate_left
   .
    have b1:(x1 == y1)=false:=by simpa using hne
    have b2:decide (x1=y1)=false:=by simpa using hne
    have hD:eqB l m=false:=Au (fun e=>by
     have h1:=HX.out;have h2:=HY.out
     rw[e,h2] at h1
     injection h1 with h1
     simp at h1
     omega)
    have HD:=Lib.hid hD
    clear hD hne
    go_wp2_with fail
    go_quiet (fail)
    go_wp2_with fail
    go_ret
    exact⟨by rw[HD.out];try rfl,by exact Aa⟩
   subst hne
   by_cases hne:x2=y2
   rotate_left
   .
    have b1:(x2 == y2)=false:=by simpa using hne
    have b2:decide (x2=y2)=false:=by simpa using hne
    have hD:eqB l m=false:=Au (fun e=>by
     have h1:=HX.out;have h2:=HY.out
     rw[e,h2] at h1
     injection h1 with h1
     simp at h1
     omega)
    have HD:=Lib.hid hD
    clear hD hne
    go_wp2_with fail
    go_quiet (fail)
    go_wp2_with fail
    go_ret
    exact⟨by rw[HD.out];try rfl,by exact Aa⟩
   subst hne
   by_cases hne:x3=y3
   rotate_left
   .
    have b1:(x3 == y3)=false:=by simpa using hne
    have b2:decide (x3=y3)=false:=by simpa using hne
    have hD:eqB l m=false:=Au (fun e=>by
     have h1:=HX.out;have h2:=HY.out
     rw[e,h2] at h1
     injection h1 with h1
     simp at h1
     omega)
    have HD:=Lib.hid hD
    clear hD hne
    go_wp2_with fail
    go_quiet (fail)
    go_wp2_with fail
    go_ret
    exact⟨by rw[HD.out];try rfl,by exact Aa⟩
   subst hne
   by_cases hne:x4=y4
   rotate_left
   .
    have b1:(x4 == y4)=false:=by simpa using hne
    have b2:decide (x4=y4)=false:=by simpa using hne
    have hD:eqB l m=false:=Au (fun e=>by
     have h1:=HX.out;have h2:=HY.out
     rw[e,h2] at h1
     injection h1 with h1
     simp at h1
     omega)
    have HD:=Lib.hid hD
    clear hD hne
    go_wp2_with fail
    go_quiet (fail)
    go_wp2_with fail
    go_ret
    exact⟨by rw[HD.out];try rfl,by exact Aa⟩
   subst hne
   go_wp2_with fail
   go_quiet (fail)
   go_wp2_with fail
   go_roundw
   case rel=>exact⟨k+1,by omega,by go_num,by exact Aa,Lib.hid (Jc HX.out HY.out ht.out)⟩
   case measure=>simp[intOf];omega
  obtain rfl:k=N:=by omega
  have hD:eqB l m=true:=by
   have h1:=ht.out
   rw[List.take_of_length_le (by rw[HL.out];omega),List.take_of_length_le (by rw[<-HN.out];omega)] at h1
   exact Fc h1
  have HD:=Lib.hid hD
  clear hD
  go_wp2_with fail
  go_ret
  exact⟨by rw[HD.out];try rfl,by exact Aa⟩
theorem lG(w:World)(v u:Value)(l m:List Aq)(h:Aj 9 w v (Ds l))(k:Aj 9 w u (Ds m)):Calls Tryz.prog 371 #[v,u] w (Cp w (.bool (eqB l m))):=by
 obtain⟨a,c,rfl,hc,hm,ha⟩:=h.recs (f:=Aq.ints) (fun _=>rfl) dC
 obtain⟨b,d,rfl,hd,hn,hb⟩:=k.recs (f:=Aq.ints) (fun _=>rfl) dC
 have HA:=Lib.hid ha;have HB:=Lib.hid hb
 clear ha hb h k
 unfold maxLen at hm hn
 by_cases hl:l.length=m.length
 rotate_left
 .
  have hD:eqB l m=false:=Au (fun e=>hl (by rw[e]))
  have hb1:((l.length:Int) == (m.length:Int))=false:=by simp;omega
  have hb2:decide ((l.length:Int)=(m.length:Int))=false:=by simp;omega
  have hb3:decide (l.length=m.length)=false:=by simpa using hl
  have HD:=Lib.hid hD
  clear hl hD
  go_enter Tryz.func371,Tryz.ntmps371
  go_wp2
  go_ret
  exact⟨by rw[HD.out];try rfl,by exact Aa⟩
 obtain⟨N,hN⟩:∃N,N=m.length:=⟨_,rfl⟩
 rw[<-hN] at hl HB hd ⊢
 rw[hl] at HA hc ⊢
 have HL:=Lib.hid hl;have HN:=Lib.hid hN
 clear hl hN
 go_enter Tryz.func371,Tryz.ntmps371
 go_wp2_with fail
 go_loopw [13] (fun i wr=>∃k:Nat,k<=N/\i=.int .i64 k/\Ext w wr/\Hid (l.take k=m.take k)) (fun i _=>N - (intOf i).toNat)
 case atStart=>exact⟨0,Nat.zero_le _,rfl,Ext.refl _,Lib.hid (by simp)⟩
 case round =>
  obtain⟨k,hk,rfl,he,ht⟩:=hrel
  by_cases hlt:k<N
  .
   obtain⟨x,b1,o1,hx,rfl,hb1,c1⟩:=HA.out k hlt
   obtain⟨y,b2,o2,hy,rfl,hb2,c2⟩:=HB.out k hlt
   obtain⟨x0,x1,x2,x3,⟨x4,x5,x6,x7,x8⟩⟩:=x
   obtain⟨y0,y1,y2,y3,⟨y4,y5,y6,y7,y8⟩⟩:=y
   have d0:=he.cell (c1 0 _ dC rfl);have e0:=he.cell (c2 0 _ dC rfl)
   have d1:=he.cell (c1 1 _ dC rfl);have e1:=he.cell (c2 1 _ dC rfl)
   have d2:=he.cell (c1 2 _ dC rfl);have e2:=he.cell (c2 2 _ dC rfl)
   have d3:=he.cell (c1 3 _ dC rfl);have e3:=he.cell (c2 3 _ dC rfl)
   have d4:=he.cell (c1 4 _ dC rfl);have e4:=he.cell (c2 4 _ dC rfl)
   have d5:=he.cell (c1 5 _ dC rfl);have e5:=he.cell (c2 5 _ dC rfl)
   have d6:=he.cell (c1 6 _ dC rfl);have e6:=he.cell (c2 6 _ dC rfl)
   have d7:=he.cell (c1 7 _ dC rfl);have e7:=he.cell (c2 7 _ dC rfl)
   have d8:=he.cell (c1 8 _ dC rfl);have e8:=he.cell (c2 8 _ dC rfl)
   simp only[Nat.add_zero] at d0 e0
   have HX:=Lib.hid hx;have HY:=Lib.hid hy
   clear hx hy c1 c2
   by_cases hne:x0=y0
   rotate_left
   .
    have b1:(x0 == y0)=false:=by simpa using hne
    have b2:decide (x0=y0)=false:=by simpa using hne
    have hD:eqB l m=false:=Au (fun e=>by
     have h1:=HX.out;have h2:=HY.out
     rw[e,h2] at h1
     injection h1 with h1
     simp at h1
     omega)
    have HD:=Lib.hid hD
    clear hD hne
    go_wp2_with fail
    go_quiet (fail)
    go_wp2_with fail
    go_ret
    exact⟨by rw[HD.out];try rfl,by exact Aa⟩
   subst hne
   by_cases hne:x1=y1
   rotate_left
   .
    have b1:(x1 == y1)=false:=by simpa using hne
    have b2:decide (x1=y1)=false:=by simpa using hne
    have hD:eqB l m=false:=Au (fun e=>by
     have h1:=HX.out;have h2:=HY.out
     rw[e,h2] at h1
     injection h1 with h1
     simp at h1
     omega)
    have HD:=Lib.hid hD
    clear hD hne
    go_wp2_with fail
    go_quiet (fail)
    go_wp2_with fail
    go_ret
    exact⟨by rw[HD.out];try rfl,by exact Aa⟩
   subst hne
   by_cases hne:x2=y2
   rotate_left
   .
    have b1:(x2 == y2)=false:=by simpa using hne
    have b2:decide (x2=y2)=false:=by simpa using hne
    have hD:eqB l m=false:=Au (fun e=>by
     have h1:=HX.out;have h2:=HY.out
     rw[e,h2] at h1
     injection h1 with h1
     simp at h1
     omega)
    have HD:=Lib.hid hD
    clear hD hne
    go_wp2_with fail
    go_quiet (fail)
    go_wp2_with fail
    go_ret
    exact⟨by rw[HD.out];try rfl,by exact Aa⟩
   subst hne
   by_cases hne:x3=y3
   rotate_left
   .
    have b1:(x3 == y3)=false:=by simpa using hne
    have b2:decide (x3=y3)=false:=by simpa using hne
    have hD:eqB l m=false:=Au (fun e=>by
     have h1:=HX.out;have h2:=HY.out
     rw[e,h2] at h1
     injection h1 with h1
     simp at h1
     omega)
    have HD:=Lib.hid hD
    clear hD hne
    go_wp2_with fail
    go_quiet (fail)
    go_wp2_with fail
    go_ret
    exact⟨by rw[HD.out];try rfl,by exact Aa⟩
   subst hne
   by_cases hne:x4=y4
   rotate_left
   .
    have b1:(x4 == y4)=false:=by simpa using hne
    have b2:decide (x4=y4)=false:=by simpa using hne
    have hD:eqB l m=false:=Au (fun e=>by
     have h1:=HX.out;have h2:=HY.out
     rw[e,h2] at h1
     injection h1 with h1
     simp at h1
     omega)
    have HD:=Lib.hid hD
    clear hD hne
    go_wp2_with fail
    go_quiet (fail)
    go_wp2_with fail
    go_ret
    exact⟨by rw[HD.out];try rfl,by exact Aa⟩
   subst hne
   by_cases hne:x5=y5
   rotate_left
   .
    have b1:(x5 == y5)=false:=by simpa using hne
    have b2:decide (x5=y5)=false:=by simpa using hne
    have hD:eqB l m=false:=Au (fun e=>by
     have h1:=HX.out;have h2:=HY.out
     rw[e,h2] at h1
     injection h1 with h1
     simp at h1
     omega)
    have HD:=Lib.hid hD
    clear hD hne
    go_wp2_with fail
    go_quiet (fail)
    go_wp2_with fail
    go_ret
    exact⟨by rw[HD.out];try rfl,by exact Aa⟩
   subst hne
   by_cases hne:x6=y6
   rotate_left
   .
    have b1:(x6 == y6)=false:=by simpa using hne
    have b2:decide (x6=y6)=false:=by simpa using hne
    have hD:eqB l m=false:=Au (fun e=>by
     have h1:=HX.out;have h2:=HY.out
     rw[e,h2] at h1
     injection h1 with h1
     simp at h1
     omega)
    have HD:=Lib.hid hD
    clear hD hne
    go_wp2_with fail
    go_quiet (fail)
    go_wp2_with fail
    go_ret
    exact⟨by rw[HD.out];try rfl,by exact Aa⟩
   subst hne
   by_cases hne:x7=y7
   rotate_left
   .
    have b1:(x7 == y7)=false:=by simpa using hne
    have b2:decide (x7=y7)=false:=by simpa using hne
    have hD:eqB l m=false:=Au (fun e=>by
     have h1:=HX.out;have h2:=HY.out
     rw[e,h2] at h1
     injection h1 with h1
     simp at h1
     omega)
    have HD:=Lib.hid hD
    clear hD hne
    go_wp2_with fail
    go_quiet (fail)
    go_wp2_with fail
    go_ret
    exact⟨by rw[HD.out];try rfl,by exact Aa⟩
   subst hne
   by_cases hne:x8=y8
   rotate_left
   .
    have b1:(x8 == y8)=false:=by simpa using hne
    have b2:decide (x8=y8)=false:=by simpa using hne
    have hD:eqB l m=false:=Au (fun e=>by
     have h1:=HX.out;have h2:=HY.out
     rw[e,h2] at h1
     injection h1 with h1
     simp at h1
     omega)
    have HD:=Lib.hid hD
    clear hD hne
    go_wp2_with fail
    go_quiet (fail)
    go_wp2_with fail
    go_ret
    exact⟨by rw[HD.out];try rfl,by exact Aa⟩
   subst hne
   go_wp2_with fail
   go_quiet (fail)
   go_wp2_with fail
   go_roundw
   case rel=>exact⟨k+1,by omega,by go_num,by exact Aa,Lib.hid (Jc HX.out HY.out ht.out)⟩
   case measure=>simp[intOf];omega
  obtain rfl:k=N:=by omega
  have hD:eqB l m=true:=by
   have h1:=ht.out
   rw[List.take_of_length_le (by rw[HL.out];omega),List.take_of_length_le (by rw[<-HN.out];omega)] at h1
   exact Fc h1
  have HD:=Lib.hid hD
  clear hD
  go_wp2_with fail
  go_ret
  exact⟨by rw[HD.out];try rfl,by exact Aa⟩
theorem Wq{α:Type}{a b:α}{p:Bool}(h:a=b↔p=true):eqB a b=p:=by
 cases p
 .
  exact Au (fun e=>by have:=h.1 e;cases this)
 exact Fc (h.2 rfl)
theorem mT(n:Ap):eqB n (Wp n.Two)=(eqB n.Head Ip&&(eqB n.Next Ip&&(!n.More&&(eqB n.Book (⟨0,0,[]⟩:Df)&&(eqB n.Seen ([]:List Ar)&&(decide (n.Durable=0)&&eqB n.Owe ([]:List Is))))))):=by
 refine Wq ?_
 obtain⟨t,h,x,m,b,s,d,o⟩:=n
 simp[Wp,Bool.and_eq_true,Sk]
theorem lH(w:World)(c0 c1:Int)(s:Value)(l:List Aq)(d0 d1:Int)(t:Value)(m:List Aq)(h:Aj 9 w s (Ds l))(k:Aj 9 w t (Ds m)):Calls Tryz.prog 290 #[.agg #[.int .i64 c0,.int .i64 c1,s],.agg #[.int .i64 d0,.int .i64 d1,t]] w (Cp w (.bool (eqB (⟨c0,c1,l⟩:Df) (⟨d0,d1,m⟩:Df)))):=by
 obtain⟨a1,n1,k1,rfl⟩:=h.shape
 obtain⟨a2,n2,k2,rfl⟩:=k.shape
 obtain⟨W0,hW0⟩:∃W0,W0=((w.alloc (.cells #[.int .i64 c0,.int .i64 c1,.slice a1 n1 k1] 78)).alloc (.cells #[.int .i64 d0,.int .i64 d1,.slice a2 n2 k2] 78)):=⟨_,rfl⟩
 have E0:Ext w W0:=by rw[hW0];exact Aa
 have KA:Blk W0 (w.heap.size) 78 #[.int .i64 c0,.int .i64 c1,.slice a1 n1 k1]:=by rw[hW0];exact(Blk.new _ _ _).alloc _
 have KB:Blk W0 (w.heap.size+1) 78 #[.int .i64 d0,.int .i64 d1,.slice a2 n2 k2]:=by rw[hW0];exact Blk.new2 _ _ _ _
 go_enter Tryz.func290,Tryz.ntmps290
 go_upto_region 1 with(fail)
 rw[<-hW0]
 clear hW0
 have X0:Ext w W0:=E0
 obtain⟨CA,FA,LA⟩:=KA.cfl
 obtain⟨CB,FB,LB⟩:=KB.cfl
 by_cases e0:c0=d0
 rotate_left
 .
  have e01:(c0 == d0)=false:=by simpa using e0
  have e02:decide (c0=d0)=false:=by simpa using e0
  have He0:=Lib.hid e0;clear e0
  go_wp2_with (fail)
  go_ret
  exact⟨by rw[show eqB (⟨c0,c1,l⟩:Df) (⟨d0,d1,m⟩:Df)=false from by exact Au (fun e=>He0.out (by injection e))];try rfl,by exact Aa⟩
 have e01:(c0 == d0)=true:=by simpa using e0
 have e02:decide (c0=d0)=true:=by simpa using e0
 have He0:=Lib.hid e0;clear e0
 by_cases e1:c1=d1
 rotate_left
 .
  have e11:(c1 == d1)=false:=by simpa using e1
  have e12:decide (c1=d1)=false:=by simpa using e1
  have He1:=Lib.hid e1;clear e1
  go_wp2_with (fail)
  go_ret
  exact⟨by rw[show eqB (⟨c0,c1,l⟩:Df) (⟨d0,d1,m⟩:Df)=false from by exact Au (fun e=>He1.out (by injection e))];try rfl,by exact Aa⟩
 have e11:(c1 == d1)=true:=by simpa using e1
 have e12:decide (c1=d1)=true:=by simpa using e1
 have He1:=Lib.hid e1;clear e1
 go_wp2_with (fail)
 refine(lG _ _ _ l m (h.ext Aa) (k.ext Aa)).mono ?_
 rintro e w1⟨rfl,hx1⟩
 have KA:=KA.ext hx1;clear CA FA LA
 have KB:=KB.ext hx1;clear CB FB LB
 have X1:=X0.trans hx1;clear hx1
 obtain⟨CA,FA,LA⟩:=KA.cfl
 obtain⟨CB,FB,LB⟩:=KB.cfl
 have hD:eqB (⟨c0,c1,l⟩:Df) (⟨d0,d1,m⟩:Df)=eqB l m:=by rw[He0.out,He1.out];exact Wq (by rw[Sk];constructor;exact(fun e=>by injection e);exact(fun e=>by rw[e]))
 have HD:=Lib.hid hD;clear hD
 go_wp2_with fail
 go_ret
 exact⟨by rw[HD.out];try rfl,by exact Aa⟩
theorem oO(w:World)(Dl:Value)(Ad:List (List Int))(Fe:Value)(Am:List Eb)(Fy:Value)(Ao:List (List Int))(Iq:Value)(Bm:List Eb)(Bl:Int)(Bp:Int)(Bs:Int)(Qq:Value)(Dd:List Ar)(Co:Int)(Cj:Int)(Bg:Int)(Oz:Value)(Cm:List Ar)(Cn:Bool)(Ay:Int)(Bc:Int)(Pa:Value)(Bt:List Aq)(Pb:Value)(Cq:List Ar)(Bn:Int)(Pd:Value)(Cy:List Is)(Dk:Ck 0 w Dl (Ac Ad))(Ev:Ck 1 w Fe (Ah Am))(Ek:Ck 0 w Fy (Ac Ao))(Gm:Ck 1 w Iq (Ah Bm))(Lx:Aj 3 w Qq (Cz Dd))(Le:Aj 3 w Oz (Cz Cm))(Ht:Aj 9 w Pa (Ds Bt))(Mi:Aj 3 w Pb (Cz Cq))(Pe:Aj 4 w Pd (Np Cy))(vY vZ wA wB:Value)(uF:Ck 0 w vY (Ac Ad))(uG:Ck 1 w vZ (Ah Am))(cK:Ck 0 w wA (Ac Ao))(wC:Ck 1 w wB (Ah Bm)):Calls Tryz.prog 184 #[.agg #[Dl,Fe,Fy,Iq,.int .i64 Bl,.int .i64 Bp,.int .i64 Bs,Qq,.int .i64 Co,.int .i64 Cj,.int .i64 Bg,Oz,.bool Cn,.int .i64 Ay,.int .i64 Bc,Pa,Pb,.int .i64 Bn,Pd],.agg #[vY,vZ,wA,wB,.int .i64 0,.int .i64 0,.int .i64 0,.slice none 0 0,.int .i64 0,.int .i64 0,.int .i64 0,.slice none 0 0,.bool false,.int .i64 0,.int .i64 0,.slice none 0 0,.slice none 0 0,.int .i64 0,.slice none 0 0]] w (Cp w (.bool (eqB (⟨⟨⟨Ad,Am⟩,⟨Ao,Bm⟩⟩,⟨Bl,Bp,Bs,Dd⟩,⟨Co,Cj,Bg,Cm⟩,Cn,⟨Ay,Bc,Bt⟩,Cq,Bn,Cy⟩:Ap) (Wp (⟨⟨Ad,Am⟩,⟨Ao,Bm⟩⟩:Jg))))):=by
 obtain⟨a0,n0,k0,rfl⟩:=Dk.shape
 obtain⟨a1,n1,k1,rfl⟩:=Ev.shape
 obtain⟨a2,n2,k2,rfl⟩:=Ek.shape
 obtain⟨a3,n3,k3,rfl⟩:=Gm.shape
 obtain⟨a7,n7,k7,rfl⟩:=Lx.shape
 obtain⟨a11,n11,k11,rfl⟩:=Le.shape
 obtain⟨a15,n15,k15,rfl⟩:=Ht.shape
 obtain⟨a16,n16,k16,rfl⟩:=Mi.shape
 obtain⟨a18,n18,k18,rfl⟩:=Pe.shape
 obtain⟨b0,m0,j0,rfl⟩:=uF.shape
 obtain⟨b1,m1,j1,rfl⟩:=uG.shape
 obtain⟨b2,m2,j2,rfl⟩:=cK.shape
 obtain⟨b3,m3,j3,rfl⟩:=wC.shape
 have HM:=Lib.hid (show eqB (⟨⟨⟨Ad,Am⟩,⟨Ao,Bm⟩⟩,⟨Bl,Bp,Bs,Dd⟩,⟨Co,Cj,Bg,Cm⟩,Cn,⟨Ay,Bc,Bt⟩,Cq,Bn,Cy⟩:Ap) (Wp (⟨⟨Ad,Am⟩,⟨Ao,Bm⟩⟩:Jg))=_ from mT (⟨⟨⟨Ad,Am⟩,⟨Ao,Bm⟩⟩,⟨Bl,Bp,Bs,Dd⟩,⟨Co,Cj,Bg,Cm⟩,Cn,⟨Ay,Bc,Bt⟩,Cq,Bn,Cy⟩:Ap))
 simp only at HM
 obtain⟨W0,hW0⟩:∃W0,W0=((w.alloc (.cells #[.slice a0 n0 k0,.slice a1 n1 k1,.slice a2 n2 k2,.slice a3 n3 k3,.int .i64 Bl,.int .i64 Bp,.int .i64 Bs,.slice a7 n7 k7,.int .i64 Co,.int .i64 Cj,.int .i64 Bg,.slice a11 n11 k11,.bool Cn,.int .i64 Ay,.int .i64 Bc,.slice a15 n15 k15,.slice a16 n16 k16,.int .i64 Bn,.slice a18 n18 k18] 81)).alloc (.cells #[.slice b0 m0 j0,.slice b1 m1 j1,.slice b2 m2 j2,.slice b3 m3 j3,.int .i64 0,.int .i64 0,.int .i64 0,.slice none 0 0,.int .i64 0,.int .i64 0,.int .i64 0,.slice none 0 0,.bool false,.int .i64 0,.int .i64 0,.slice none 0 0,.slice none 0 0,.int .i64 0,.slice none 0 0] 81)):=⟨_,rfl⟩
 have E0:Ext w W0:=by rw[hW0];exact Aa
 have KA:Blk W0 (w.heap.size) 81 #[.slice a0 n0 k0,.slice a1 n1 k1,.slice a2 n2 k2,.slice a3 n3 k3,.int .i64 Bl,.int .i64 Bp,.int .i64 Bs,.slice a7 n7 k7,.int .i64 Co,.int .i64 Cj,.int .i64 Bg,.slice a11 n11 k11,.bool Cn,.int .i64 Ay,.int .i64 Bc,.slice a15 n15 k15,.slice a16 n16 k16,.int .i64 Bn,.slice a18 n18 k18]:=by rw[hW0];exact(Blk.new _ _ _).alloc _
 have KB:Blk W0 (w.heap.size+1) 81 #[.slice b0 m0 j0,.slice b1 m1 j1,.slice b2 m2 j2,.slice b3 m3 j3,.int .i64 0,.int .i64 0,.int .i64 0,.slice none 0 0,.int .i64 0,.int .i64 0,.int .i64 0,.slice none 0 0,.bool false,.int .i64 0,.int .i64 0,.slice none 0 0,.slice none 0 0,.int .i64 0,.slice none 0 0]:=by rw[hW0];exact Blk.new2 _ _ _ _
 go_enter Tryz.func184,Tryz.ntmps184
 go_upto_region 1 with(fail)
 rw[<-hW0]
 clear hW0
 have X0:Ext w W0:=E0
 obtain⟨CA,FA,LA⟩:=KA.cfl
 obtain⟨CB,FB,LB⟩:=KB.cfl
 go_wp2_with (fail)
 refine(aX _ _ _ _ _ _ _ (Dk.ext Aa) (Ev.ext Aa) (uF.ext Aa) (uG.ext Aa)).mono ?_
 rintro e w1⟨rfl,hx1⟩
 have KA:=KA.ext hx1;clear CA FA LA
 have KB:=KB.ext hx1;clear CB FB LB
 have X1:=X0.trans hx1;clear hx1
 obtain⟨CA,FA,LA⟩:=KA.cfl
 obtain⟨CB,FB,LB⟩:=KB.cfl
 go_wp2_with (fail)
 refine(aX _ _ _ _ _ _ _ (Ek.ext Aa) (Gm.ext Aa) (cK.ext Aa) (wC.ext Aa)).mono ?_
 rintro e w2⟨rfl,hx2⟩
 have KA:=KA.ext hx2;clear CA FA LA
 have KB:=KB.ext hx2;clear CB FB LB
 have X2:=X1.trans hx2;clear hx2
 obtain⟨CA,FA,LA⟩:=KA.cfl
 obtain⟨CB,FB,LB⟩:=KB.cfl
 go_wp2_with (fail)
 refine(Vu _ Bl Bp Bs _ Dd 0 0 0 _ [] (Lx.ext Aa) (show Aj 3 _ (.slice none 0 0) (Cz []) from Aj.nil 3 _)).mono ?_
 rintro e w3⟨rfl,hx3⟩
 have KA:=KA.ext hx3;clear CA FA LA
 have KB:=KB.ext hx3;clear CB FB LB
 have X3:=X2.trans hx3;clear hx3
 obtain⟨CA,FA,LA⟩:=KA.cfl
 obtain⟨CB,FB,LB⟩:=KB.cfl
 cases p1:eqB (⟨Bl,Bp,Bs,Dd⟩:Di) (⟨0,0,0,[]⟩:Di)
 .
  go_wp2_with (fail)
  go_ret
  exact⟨by rw[show eqB (⟨⟨⟨Ad,Am⟩,⟨Ao,Bm⟩⟩,⟨Bl,Bp,Bs,Dd⟩,⟨Co,Cj,Bg,Cm⟩,Cn,⟨Ay,Bc,Bt⟩,Cq,Bn,Cy⟩:Ap) (Wp (⟨⟨Ad,Am⟩,⟨Ao,Bm⟩⟩:Jg))=false from by rw[HM.out,show eqB (⟨Bl,Bp,Bs,Dd⟩:Di) Ip=false from p1];rfl];try rfl,by exact Aa⟩
 go_wp2_with (fail)
 refine(Vu _ Co Cj Bg _ Cm 0 0 0 _ [] (Le.ext Aa) (show Aj 3 _ (.slice none 0 0) (Cz []) from Aj.nil 3 _)).mono ?_
 rintro e w4⟨rfl,hx4⟩
 have KA:=KA.ext hx4;clear CA FA LA
 have KB:=KB.ext hx4;clear CB FB LB
 have X4:=X3.trans hx4;clear hx4
 obtain⟨CA,FA,LA⟩:=KA.cfl
 obtain⟨CB,FB,LB⟩:=KB.cfl
 cases p2:eqB (⟨Co,Cj,Bg,Cm⟩:Di) (⟨0,0,0,[]⟩:Di)
 .
  go_wp2_with (fail)
  go_ret
  exact⟨by rw[show eqB (⟨⟨⟨Ad,Am⟩,⟨Ao,Bm⟩⟩,⟨Bl,Bp,Bs,Dd⟩,⟨Co,Cj,Bg,Cm⟩,Cn,⟨Ay,Bc,Bt⟩,Cq,Bn,Cy⟩:Ap) (Wp (⟨⟨Ad,Am⟩,⟨Ao,Bm⟩⟩:Jg))=false from by rw[HM.out,show eqB (⟨Bl,Bp,Bs,Dd⟩:Di) Ip=true from p1,show eqB (⟨Co,Cj,Bg,Cm⟩:Di) Ip=false from p2];rfl];try rfl,by exact Aa⟩
 have P1:=Lib.hid p1;have P2:=Lib.hid p2;clear p1 p2
 cases Cn
 rotate_left
 .
  go_wp2_with (fail)
  go_ret
  exact⟨by rw[show eqB (⟨⟨⟨Ad,Am⟩,⟨Ao,Bm⟩⟩,⟨Bl,Bp,Bs,Dd⟩,⟨Co,Cj,Bg,Cm⟩,true,⟨Ay,Bc,Bt⟩,Cq,Bn,Cy⟩:Ap) (Wp (⟨⟨Ad,Am⟩,⟨Ao,Bm⟩⟩:Jg))=false from by rw[HM.out,show eqB (⟨Bl,Bp,Bs,Dd⟩:Di) Ip=true from P1.out,show eqB (⟨Co,Cj,Bg,Cm⟩:Di) Ip=true from P2.out];rfl];try rfl,by exact Aa⟩
 go_wp2_with (fail)
 refine(lH _ Ay Bc _ Bt 0 0 _ [] (Ht.ext Aa) (show Aj 9 _ (.slice none 0 0) (Ds []) from Aj.nil 9 _)).mono ?_
 rintro e w5⟨rfl,hx5⟩
 have KA:=KA.ext hx5;clear CA FA LA
 have KB:=KB.ext hx5;clear CB FB LB
 have X5:=X4.trans hx5;clear hx5
 obtain⟨CA,FA,LA⟩:=KA.cfl
 obtain⟨CB,FB,LB⟩:=KB.cfl
 cases p3:eqB (⟨Ay,Bc,Bt⟩:Df) (⟨0,0,[]⟩:Df)
 .
  go_wp2_with (fail)
  go_ret
  exact⟨by rw[show eqB (⟨⟨⟨Ad,Am⟩,⟨Ao,Bm⟩⟩,⟨Bl,Bp,Bs,Dd⟩,⟨Co,Cj,Bg,Cm⟩,false,⟨Ay,Bc,Bt⟩,Cq,Bn,Cy⟩:Ap) (Wp (⟨⟨Ad,Am⟩,⟨Ao,Bm⟩⟩:Jg))=false from by rw[HM.out,show eqB (⟨Bl,Bp,Bs,Dd⟩:Di) Ip=true from P1.out,show eqB (⟨Co,Cj,Bg,Cm⟩:Di) Ip=true from P2.out,p3];rfl];try rfl,by exact Aa⟩
 go_wp2_with (fail)
 refine(Qj _ _ _ Cq [] (Mi.ext Aa) (show Aj 3 _ (.slice none 0 0) (Cz []) from Aj.nil 3 _)).mono ?_
 rintro e w6⟨rfl,hx6⟩
 have KA:=KA.ext hx6;clear CA FA LA
 have KB:=KB.ext hx6;clear CB FB LB
 have X6:=X5.trans hx6;clear hx6
 obtain⟨CA,FA,LA⟩:=KA.cfl
 obtain⟨CB,FB,LB⟩:=KB.cfl
 cases p4:eqB Cq ([]:List Ar)
 .
  go_wp2_with (fail)
  go_ret
  exact⟨by rw[show eqB (⟨⟨⟨Ad,Am⟩,⟨Ao,Bm⟩⟩,⟨Bl,Bp,Bs,Dd⟩,⟨Co,Cj,Bg,Cm⟩,false,⟨Ay,Bc,Bt⟩,Cq,Bn,Cy⟩:Ap) (Wp (⟨⟨Ad,Am⟩,⟨Ao,Bm⟩⟩:Jg))=false from by rw[HM.out,show eqB (⟨Bl,Bp,Bs,Dd⟩:Di) Ip=true from P1.out,show eqB (⟨Co,Cj,Bg,Cm⟩:Di) Ip=true from P2.out,p3,p4];rfl];try rfl,by exact Aa⟩
 by_cases e5:Bn=0
 rotate_left
 .
  have e51:(Bn == 0)=false:=by simpa using e5
  have e52:decide (Bn=0)=false:=by simpa using e5
  have He5:=Lib.hid e5;clear e5
  go_wp2_with (fail)
  go_ret
  exact⟨by rw[show eqB (⟨⟨⟨Ad,Am⟩,⟨Ao,Bm⟩⟩,⟨Bl,Bp,Bs,Dd⟩,⟨Co,Cj,Bg,Cm⟩,false,⟨Ay,Bc,Bt⟩,Cq,Bn,Cy⟩:Ap) (Wp (⟨⟨Ad,Am⟩,⟨Ao,Bm⟩⟩:Jg))=false from by rw[HM.out,show eqB (⟨Bl,Bp,Bs,Dd⟩:Di) Ip=true from P1.out,show eqB (⟨Co,Cj,Bg,Cm⟩:Di) Ip=true from P2.out,p3,p4,show decide (Bn=0)=false by simpa using He5.out];rfl];try rfl,by exact Aa⟩
 have e51:(Bn == 0)=true:=by simpa using e5
 have e52:decide (Bn=0)=true:=by simpa using e5
 have He5:=Lib.hid e5;clear e5
 go_wp2_with (fail)
 refine(iW _ _ _ Cy [] (Pe.ext Aa) (show Aj 4 _ (.slice none 0 0) (Np []) from Aj.nil 4 _)).mono ?_
 rintro e w7⟨rfl,hx7⟩
 have KA:=KA.ext hx7;clear CA FA LA
 have KB:=KB.ext hx7;clear CB FB LB
 have X7:=X6.trans hx7;clear hx7
 obtain⟨CA,FA,LA⟩:=KA.cfl
 obtain⟨CB,FB,LB⟩:=KB.cfl
 have HD:=Lib.hid (show eqB (⟨⟨⟨Ad,Am⟩,⟨Ao,Bm⟩⟩,⟨Bl,Bp,Bs,Dd⟩,⟨Co,Cj,Bg,Cm⟩,false,⟨Ay,Bc,Bt⟩,Cq,Bn,Cy⟩:Ap) (Wp (⟨⟨Ad,Am⟩,⟨Ao,Bm⟩⟩:Jg))=eqB Cy ([]:List Is) from by rw[HM.out,show eqB (⟨Bl,Bp,Bs,Dd⟩:Di) Ip=true from P1.out,show eqB (⟨Co,Cj,Bg,Cm⟩:Di) Ip=true from P2.out,p3,p4,show decide (Bn=0)=true by simpa using He5.out];rfl)
 go_wp2_with fail
 go_ret
 exact⟨by rw[HD.out];try rfl,by exact Aa⟩
theorem vT(c0 c1 c2 c3 c4 d0 d1 d2 d3 d4:Int)(l m:List Hu):eqB (⟨⟨c0,c1,c2,c3,c4,l⟩⟩:Ge) ⟨⟨d0,d1,d2,d3,d4,m⟩⟩=(decide (c0=d0)&&(decide (c1=d1)&&(decide (c2=d2)&&(decide (c3=d3)&&(decide (c4=d4)&&eqB l m))))):=by
 refine Wq ?_
 simp[Bool.and_eq_true,Sk]
theorem rG(a:De)(i s:Int)(v:Ge)(b:Bool)(o:DOp)(x:Int):eqB a (⟨i,s,v,b,o,x⟩:De)=(decide (a.Id=i)&&(decide (a.Seq=s)&&(eqB a.View v&&(decide (a.Busy=b)&&(eqB a.Op o&&decide (a.Index=x)))))):=by
 refine Wq ?_
 obtain⟨a0,a1,a2,a3,a4,a5⟩:=a
 simp[Bool.and_eq_true,Sk]
theorem lI(w:World)(c0 c1 c2 c3 c4:Int)(s:Value)(l:List Hu)(d0 d1 d2 d3 d4:Int)(t:Value)(m:List Hu)(h:Aj 2 w s (Nm l))(k:Aj 2 w t (Nm m)):Calls Tryz.prog 356 #[.agg #[.int .i64 c0,.int .i64 c1,.int .i64 c2,.int .i64 c3,.int .i64 c4,s],.agg #[.int .i64 d0,.int .i64 d1,.int .i64 d2,.int .i64 d3,.int .i64 d4,t]] w (Cp w (.bool (eqB (⟨⟨c0,c1,c2,c3,c4,l⟩⟩:Ge) (⟨⟨d0,d1,d2,d3,d4,m⟩⟩:Ge)))):=by
 obtain⟨a1,n1,k1,rfl⟩:=h.shape
 obtain⟨a2,n2,k2,rfl⟩:=k.shape
 have HM:=Lib.hid (show eqB (⟨⟨c0,c1,c2,c3,c4,l⟩⟩:Ge) (⟨⟨d0,d1,d2,d3,d4,m⟩⟩:Ge)=_ from vT _ _ _ _ _ _ _ _ _ _ _ _)
 obtain⟨W0,hW0⟩:∃W0,W0=((w.alloc (.cells #[.int .i64 c0,.int .i64 c1,.int .i64 c2,.int .i64 c3,.int .i64 c4,.slice a1 n1 k1] 93)).alloc (.cells #[.int .i64 d0,.int .i64 d1,.int .i64 d2,.int .i64 d3,.int .i64 d4,.slice a2 n2 k2] 93)):=⟨_,rfl⟩
 have E0:Ext w W0:=by rw[hW0];exact Aa
 have KA:Blk W0 (w.heap.size) 93 #[.int .i64 c0,.int .i64 c1,.int .i64 c2,.int .i64 c3,.int .i64 c4,.slice a1 n1 k1]:=by rw[hW0];exact(Blk.new _ _ _).alloc _
 have KB:Blk W0 (w.heap.size+1) 93 #[.int .i64 d0,.int .i64 d1,.int .i64 d2,.int .i64 d3,.int .i64 d4,.slice a2 n2 k2]:=by rw[hW0];exact Blk.new2 _ _ _ _
 go_enter Tryz.func356,Tryz.ntmps356
 go_upto_region 1 with(fail)
 rw[<-hW0]
 clear hW0
 have X0:Ext w W0:=E0
 obtain⟨CA,FA,LA⟩:=KA.cfl
 obtain⟨CB,FB,LB⟩:=KB.cfl
 go_cut [5,6] (fun s5 s6 wx=>∃g1 g2,s5=.pointer (some ⟨g1,0,none⟩)/\s6=.pointer (some ⟨g2,0,none⟩)/\Ext W0 wx/\Blk wx g1 91 #[.int .i64 c0,.int .i64 c1,.int .i64 c2,.int .i64 c3,.int .i64 c4,.slice a1 n1 k1]/\Blk wx g2 91 #[.int .i64 d0,.int .i64 d1,.int .i64 d2,.int .i64 d3,.int .i64 d4,.slice a2 n2 k2])
 case first =>
  refine wp_region_held_drew (S:=fun w'=>Ext W0 w') (by kernel_rfl) (by(try dsimp only);exact Aa) (fun hHeld=>?_)
  refine wt 0 ?_
  (try simp only[Ab,Act.put])
  refine wpAnyH_take (i:=1) (v:=?_) rfl (by kernel_rfl) (by kernel_rfl) (by kernel_rfl) (fun _ _ _ h=>h) (Or.inl ⟨by rfl,?_⟩) (by assumption) ?_
  rotate_left
  focus(intro w hSw;(try dsimp only at hSw);have qx:=(KA.ext hSw).cell;go_simp <;> with_reducible rfl)
  (try simp only[Ab,Act.put])
  refine wt 2 ?_
  (try simp only[Ab,Act.put])
  refine wpAnyH_take (i:=3) (v:=?_) rfl (by kernel_rfl) (by kernel_rfl) (by kernel_rfl) (fun _ _ _ h=>h) (Or.inl ⟨by rfl,?_⟩) (by assumption) ?_
  rotate_left
  focus(intro w hSw;(try dsimp only at hSw);have qx:=(KB.ext hSw).cell;go_simp <;> with_reducible rfl)
  (try simp only[Ab,Act.put])
  refine wr2 4 5 (fun Kz hKz=>?_) fun Kz hKz=>?_
  .
   (try simp only[Ab])
   go_simp
   refine hKz.out _ _ (by(try dsimp only);exact Aa) (fun hHeld=>?_)
   clear hKz Kz
   (try simp only[Ab,Act.put])
   refine wr1 5 fun Kz hKz=>?_
   (try simp only[Ab])
   go_simp
   refine hKz.out _ _ (by(try dsimp only);exact Aa) (fun hHeld=>?_)
   clear hKz Kz
   (try simp only[Ab,Act.put])
   refine wr1 6 fun Kz hKz=>?_
   (try simp only[Ab])
   go_simp
   refine hKz.out _ _ (by(try dsimp only);exact Aa) (fun hHeld=>?_)
   clear hKz Kz
   (try simp only[Ab,Act.put])
   refine wr1 7 fun Kz hKz=>?_
   (try simp only[Ab])
   go_simp
   refine hKz.out _ _ (by(try dsimp only);exact Aa) (fun hHeld=>?_)
   clear hKz Kz
   (try simp only[Ab,Act.put])
   refine wpAnyH_done (by kernel_rfl) ?_ _
   go_wp2_with fail
   go_meet
   case rel=>exact⟨_,_,rfl,rfl,by exact Aa,bC,bC⟩
  (try simp only[Ab])
  go_simp
  refine hKz.out _ _ (by(try dsimp only);exact Aa) (fun hHeld=>?_)
  clear hKz Kz
  (try simp only[Ab,Act.put])
  refine wr1 4 fun Kz hKz=>?_
  (try simp only[Ab])
  go_simp
  refine hKz.out _ _ (by(try dsimp only);exact Aa) (fun hHeld=>?_)
  clear hKz Kz
  (try simp only[Ab,Act.put])
  refine wr1 6 fun Kz hKz=>?_
  (try simp only[Ab])
  go_simp
  refine hKz.out _ _ (by(try dsimp only);exact Aa) (fun hHeld=>?_)
  clear hKz Kz
  (try simp only[Ab,Act.put])
  refine wr1 7 fun Kz hKz=>?_
  (try simp only[Ab])
  go_simp
  refine hKz.out _ _ (by(try dsimp only);exact Aa) (fun hHeld=>?_)
  clear hKz Kz
  (try simp only[Ab,Act.put])
  refine wpAnyH_done (by kernel_rfl) ?_ _
  go_wp2_with fail
  go_meet
  case rel=>exact⟨_,_,rfl,rfl,by exact Aa,bC,bC⟩
 revert wc;intro w1 hcut
 obtain⟨g1,g2,rfl,rfl,hx1,K1,K2⟩:=hcut
 have X1:=X0.trans hx1
 clear CA FA LA CB FB LB KA KB
 have C1:=K1.cell;have F1:=K1.frozen;have L1:=K1.lt;have C2:=K2.cell;have F2:=K2.frozen;have L2:=K2.lt
 by_cases e0:c0=d0
 rotate_left
 .
  have e01:(c0 == d0)=false:=by simpa using e0
  have e02:decide (c0=d0)=false:=by simpa using e0
  have He0:=Lib.hid e0;clear e0
  go_wp2_with (fail)
  go_ret
  exact⟨by rw[show eqB (⟨⟨c0,c1,c2,c3,c4,l⟩⟩:Ge) (⟨⟨d0,d1,d2,d3,d4,m⟩⟩:Ge)=false from by rw[HM.out,show decide (c0=d0)=false by simpa using He0.out];rfl];try rfl,by exact Aa⟩
 have e01:(c0 == d0)=true:=by simpa using e0
 have e02:decide (c0=d0)=true:=by simpa using e0
 have He0:=Lib.hid e0;clear e0
 by_cases e1:c1=d1
 rotate_left
 .
  have e11:(c1 == d1)=false:=by simpa using e1
  have e12:decide (c1=d1)=false:=by simpa using e1
  have He1:=Lib.hid e1;clear e1
  go_wp2_with (fail)
  go_ret
  exact⟨by rw[show eqB (⟨⟨c0,c1,c2,c3,c4,l⟩⟩:Ge) (⟨⟨d0,d1,d2,d3,d4,m⟩⟩:Ge)=false from by rw[HM.out,show decide (c0=d0)=true by simpa using He0.out,show decide (c1=d1)=false by simpa using He1.out];rfl];try rfl,by exact Aa⟩
 have e11:(c1 == d1)=true:=by simpa using e1
 have e12:decide (c1=d1)=true:=by simpa using e1
 have He1:=Lib.hid e1;clear e1
 by_cases e2:c2=d2
 rotate_left
 .
  have e21:(c2 == d2)=false:=by simpa using e2
  have e22:decide (c2=d2)=false:=by simpa using e2
  have He2:=Lib.hid e2;clear e2
  go_wp2_with (fail)
  go_ret
  exact⟨by rw[show eqB (⟨⟨c0,c1,c2,c3,c4,l⟩⟩:Ge) (⟨⟨d0,d1,d2,d3,d4,m⟩⟩:Ge)=false from by rw[HM.out,show decide (c0=d0)=true by simpa using He0.out,show decide (c1=d1)=true by simpa using He1.out,show decide (c2=d2)=false by simpa using He2.out];rfl];try rfl,by exact Aa⟩
 have e21:(c2 == d2)=true:=by simpa using e2
 have e22:decide (c2=d2)=true:=by simpa using e2
 have He2:=Lib.hid e2;clear e2
 by_cases e3:c3=d3
 rotate_left
 .
  have e31:(c3 == d3)=false:=by simpa using e3
  have e32:decide (c3=d3)=false:=by simpa using e3
  have He3:=Lib.hid e3;clear e3
  go_wp2_with (fail)
  go_ret
  exact⟨by rw[show eqB (⟨⟨c0,c1,c2,c3,c4,l⟩⟩:Ge) (⟨⟨d0,d1,d2,d3,d4,m⟩⟩:Ge)=false from by rw[HM.out,show decide (c0=d0)=true by simpa using He0.out,show decide (c1=d1)=true by simpa using He1.out,show decide (c2=d2)=true by simpa using He2.out,show decide (c3=d3)=false by simpa using He3.out];rfl];try rfl,by exact Aa⟩
 have e31:(c3 == d3)=true:=by simpa using e3
 have e32:decide (c3=d3)=true:=by simpa using e3
 have He3:=Lib.hid e3;clear e3
 by_cases e4:c4=d4
 rotate_left
 .
  have e41:(c4 == d4)=false:=by simpa using e4
  have e42:decide (c4=d4)=false:=by simpa using e4
  have He4:=Lib.hid e4;clear e4
  go_wp2_with (fail)
  go_ret
  exact⟨by rw[show eqB (⟨⟨c0,c1,c2,c3,c4,l⟩⟩:Ge) (⟨⟨d0,d1,d2,d3,d4,m⟩⟩:Ge)=false from by rw[HM.out,show decide (c0=d0)=true by simpa using He0.out,show decide (c1=d1)=true by simpa using He1.out,show decide (c2=d2)=true by simpa using He2.out,show decide (c3=d3)=true by simpa using He3.out,show decide (c4=d4)=false by simpa using He4.out];rfl];try rfl,by exact Aa⟩
 have e41:(c4 == d4)=true:=by simpa using e4
 have e42:decide (c4=d4)=true:=by simpa using e4
 have He4:=Lib.hid e4;clear e4
 have HD:=Lib.hid (show eqB (⟨⟨c0,c1,c2,c3,c4,l⟩⟩:Ge) (⟨⟨d0,d1,d2,d3,d4,m⟩⟩:Ge)=eqB l m from by rw[HM.out,show decide (c0=d0)=true by simpa using He0.out,show decide (c1=d1)=true by simpa using He1.out,show decide (c2=d2)=true by simpa using He2.out,show decide (c3=d3)=true by simpa using He3.out,show decide (c4=d4)=true by simpa using He4.out];rfl)
 go_wp2_with (fail)
 refine(rE _ _ _ l m (h.ext Aa) (k.ext Aa)).mono ?_
 rintro e w2⟨rfl,hx2⟩
 have K1:=K1.ext hx2;clear C1 F1 L1
 have K2:=K2.ext hx2;clear C2 F2 L2
 have X2:=X1.trans hx2;clear hx2
 obtain⟨C1,F1,L1⟩:=K1.cfl
 obtain⟨C2,F2,L2⟩:=K2.cfl
 go_wp2_with fail
 go_ret
 exact⟨by rw[HD.out];try rfl,by exact Aa⟩
theorem jG(w:World)(s:De)(v:Value)(i:Int)(u:Value)(h:Aj 2 w v (Nm s.View.Jobs.Open))(k:Aj 2 w u (Nm [])):Calls Tryz.prog 278 #[.agg #[.int .i64 s.Id,.int .i64 s.Seq,.int .i64 s.View.Jobs.Index,.int .i64 s.View.Jobs.Time,.int .i64 s.View.Jobs.Holder,.int .i64 s.View.Jobs.Epoch,.int .i64 s.View.Jobs.Until,v,.bool s.Busy,.int .i64 s.Op.Kind,.int .i64 s.Op.A,.int .i64 s.Op.B,.int .i64 s.Op.C,.int .i64 s.Op.D,.int .i64 s.Index],.agg #[.int .i64 i,.int .i64 0,.int .i64 0,.int .i64 0,.int .i64 0,.int .i64 0,.int .i64 0,u,.bool false,.int .i64 0,.int .i64 0,.int .i64 0,.int .i64 0,.int .i64 0,.int .i64 0]] w (Cp w (.bool (eqB s (⟨i,0,⟨⟨0,0,0,0,0,[]⟩⟩,false,⟨0,0,0,0,0⟩,0⟩:De)))):=by
 obtain⟨a1,n1,k1,rfl⟩:=h.shape
 obtain⟨a2,n2,k2,rfl⟩:=k.shape
 have HM:=Lib.hid (show eqB s (⟨i,0,⟨⟨0,0,0,0,0,[]⟩⟩,false,⟨0,0,0,0,0⟩,0⟩:De)=_ from rG s _ _ _ _ _ _)
 obtain⟨W0,hW0⟩:∃W0,W0=((w.alloc (.cells #[.int .i64 s.Id,.int .i64 s.Seq,.int .i64 s.View.Jobs.Index,.int .i64 s.View.Jobs.Time,.int .i64 s.View.Jobs.Holder,.int .i64 s.View.Jobs.Epoch,.int .i64 s.View.Jobs.Until,.slice a1 n1 k1,.bool s.Busy,.int .i64 s.Op.Kind,.int .i64 s.Op.A,.int .i64 s.Op.B,.int .i64 s.Op.C,.int .i64 s.Op.D,.int .i64 s.Index] 96)).alloc (.cells #[.int .i64 i,.int .i64 0,.int .i64 0,.int .i64 0,.int .i64 0,.int .i64 0,.int .i64 0,.slice a2 n2 k2,.bool false,.int .i64 0,.int .i64 0,.int .i64 0,.int .i64 0,.int .i64 0,.int .i64 0] 96)):=⟨_,rfl⟩
 have E0:Ext w W0:=by rw[hW0];exact Aa
 have KA:Blk W0 (w.heap.size) 96 #[.int .i64 s.Id,.int .i64 s.Seq,.int .i64 s.View.Jobs.Index,.int .i64 s.View.Jobs.Time,.int .i64 s.View.Jobs.Holder,.int .i64 s.View.Jobs.Epoch,.int .i64 s.View.Jobs.Until,.slice a1 n1 k1,.bool s.Busy,.int .i64 s.Op.Kind,.int .i64 s.Op.A,.int .i64 s.Op.B,.int .i64 s.Op.C,.int .i64 s.Op.D,.int .i64 s.Index]:=by rw[hW0];exact(Blk.new _ _ _).alloc _
 have KB:Blk W0 (w.heap.size+1) 96 #[.int .i64 i,.int .i64 0,.int .i64 0,.int .i64 0,.int .i64 0,.int .i64 0,.int .i64 0,.slice a2 n2 k2,.bool false,.int .i64 0,.int .i64 0,.int .i64 0,.int .i64 0,.int .i64 0,.int .i64 0]:=by rw[hW0];exact Blk.new2 _ _ _ _
 go_enter Tryz.func278,Tryz.ntmps278
 go_upto_region 1 with(fail)
 rw[<-hW0]
 clear hW0
 have X0:Ext w W0:=E0
 obtain⟨CA,FA,LA⟩:=KA.cfl
 obtain⟨CB,FB,LB⟩:=KB.cfl
 by_cases e0:s.Id=i
 rotate_left
 .
  have e01:(s.Id == i)=false:=by simpa using e0
  have e02:decide (s.Id=i)=false:=by simpa using e0
  have He0:=Lib.hid e0;clear e0
  go_wp2_with (fail)
  go_ret
  exact⟨by rw[show eqB s (⟨i,0,⟨⟨0,0,0,0,0,[]⟩⟩,false,⟨0,0,0,0,0⟩,0⟩:De)=false from by rw[HM.out,show decide (s.Id=i)=false by simpa using He0.out];rfl];try rfl,by exact Aa⟩
 have e01:(s.Id == i)=true:=by simpa using e0
 have e02:decide (s.Id=i)=true:=by simpa using e0
 have He0:=Lib.hid e0;clear e0
 by_cases e1:s.Seq=0
 rotate_left
 .
  have e11:(s.Seq == 0)=false:=by simpa using e1
  have e12:decide (s.Seq=0)=false:=by simpa using e1
  have He1:=Lib.hid e1;clear e1
  go_wp2_with (fail)
  go_ret
  exact⟨by rw[show eqB s (⟨i,0,⟨⟨0,0,0,0,0,[]⟩⟩,false,⟨0,0,0,0,0⟩,0⟩:De)=false from by rw[HM.out,show decide (s.Id=i)=true by simpa using He0.out,show decide (s.Seq=0)=false by simpa using He1.out];rfl];try rfl,by exact Aa⟩
 have e11:(s.Seq == 0)=true:=by simpa using e1
 have e12:decide (s.Seq=0)=true:=by simpa using e1
 have He1:=Lib.hid e1;clear e1
 go_wp2_with (fail)
 refine(lI _ s.View.Jobs.Index s.View.Jobs.Time s.View.Jobs.Holder s.View.Jobs.Epoch s.View.Jobs.Until _ s.View.Jobs.Open 0 0 0 0 0 _ [] (h.ext Aa) (k.ext Aa)).mono ?_
 rintro e w1⟨rfl,hx1⟩
 have KA:=KA.ext hx1;clear CA FA LA
 have KB:=KB.ext hx1;clear CB FB LB
 have X1:=X0.trans hx1;clear hx1
 obtain⟨CA,FA,LA⟩:=KA.cfl
 obtain⟨CB,FB,LB⟩:=KB.cfl
 cases p2:eqB (⟨⟨s.View.Jobs.Index,s.View.Jobs.Time,s.View.Jobs.Holder,s.View.Jobs.Epoch,s.View.Jobs.Until,s.View.Jobs.Open⟩⟩:Ge) (⟨⟨0,0,0,0,0,[]⟩⟩:Ge)
 .
  go_wp2_with (fail)
  go_ret
  exact⟨by rw[show eqB s (⟨i,0,⟨⟨0,0,0,0,0,[]⟩⟩,false,⟨0,0,0,0,0⟩,0⟩:De)=false from by rw[HM.out,show decide (s.Id=i)=true by simpa using He0.out,show decide (s.Seq=0)=true by simpa using He1.out,show eqB s.View (⟨⟨0,0,0,0,0,[]⟩⟩:Ge)=false from p2];rfl];try rfl,by exact Aa⟩
 have P2:=Lib.hid p2;clear p2
 obtain⟨bz,hbz⟩:∃b:Bool,s.Busy=b:=⟨_,rfl⟩
 rw[hbz] at KA CA
 have HB:=Lib.hid hbz;clear hbz
 rw[HB.out]
 cases bz
 rotate_left
 .
  go_wp2_with (fail)
  go_ret
  exact⟨by rw[show eqB s (⟨i,0,⟨⟨0,0,0,0,0,[]⟩⟩,false,⟨0,0,0,0,0⟩,0⟩:De)=false from by rw[HM.out,show decide (s.Id=i)=true by simpa using He0.out,show decide (s.Seq=0)=true by simpa using He1.out,show eqB s.View (⟨⟨0,0,0,0,0,[]⟩⟩:Ge)=true from P2.out,show decide (s.Busy=false)=false by rw[HB.out];rfl];rfl];try rfl,by exact Aa⟩
 by_cases o0:s.Op.Kind=0
 rotate_left
 .
  have o01:(s.Op.Kind == 0)=false:=by simpa using o0
  have o02:decide (s.Op.Kind=0)=false:=by simpa using o0
  have Ho0:=Lib.hid o0;clear o0
  go_wp2_with (fail)
  go_ret
  exact⟨by rw[show eqB s (⟨i,0,⟨⟨0,0,0,0,0,[]⟩⟩,false,⟨0,0,0,0,0⟩,0⟩:De)=false from by rw[HM.out,show decide (s.Id=i)=true by simpa using He0.out,show decide (s.Seq=0)=true by simpa using He1.out,show eqB s.View (⟨⟨0,0,0,0,0,[]⟩⟩:Ge)=true from P2.out,show decide (s.Busy=false)=true by rw[HB.out];rfl,show eqB s.Op (⟨0,0,0,0,0⟩:DOp)=false from Au (fun e=>Ho0.out (by rw[e]))];rfl];try rfl,by exact Aa⟩
 have o01:(s.Op.Kind == 0)=true:=by simpa using o0
 have o02:decide (s.Op.Kind=0)=true:=by simpa using o0
 have Ho0:=Lib.hid o0;clear o0
 by_cases o1:s.Op.A=0
 rotate_left
 .
  have o11:(s.Op.A == 0)=false:=by simpa using o1
  have o12:decide (s.Op.A=0)=false:=by simpa using o1
  have Ho1:=Lib.hid o1;clear o1
  go_wp2_with (fail)
  go_ret
  exact⟨by rw[show eqB s (⟨i,0,⟨⟨0,0,0,0,0,[]⟩⟩,false,⟨0,0,0,0,0⟩,0⟩:De)=false from by rw[HM.out,show decide (s.Id=i)=true by simpa using He0.out,show decide (s.Seq=0)=true by simpa using He1.out,show eqB s.View (⟨⟨0,0,0,0,0,[]⟩⟩:Ge)=true from P2.out,show decide (s.Busy=false)=true by rw[HB.out];rfl,show eqB s.Op (⟨0,0,0,0,0⟩:DOp)=false from Au (fun e=>Ho1.out (by rw[e]))];rfl];try rfl,by exact Aa⟩
 have o11:(s.Op.A == 0)=true:=by simpa using o1
 have o12:decide (s.Op.A=0)=true:=by simpa using o1
 have Ho1:=Lib.hid o1;clear o1
 by_cases o2:s.Op.B=0
 rotate_left
 .
  have o21:(s.Op.B == 0)=false:=by simpa using o2
  have o22:decide (s.Op.B=0)=false:=by simpa using o2
  have Ho2:=Lib.hid o2;clear o2
  go_wp2_with (fail)
  go_ret
  exact⟨by rw[show eqB s (⟨i,0,⟨⟨0,0,0,0,0,[]⟩⟩,false,⟨0,0,0,0,0⟩,0⟩:De)=false from by rw[HM.out,show decide (s.Id=i)=true by simpa using He0.out,show decide (s.Seq=0)=true by simpa using He1.out,show eqB s.View (⟨⟨0,0,0,0,0,[]⟩⟩:Ge)=true from P2.out,show decide (s.Busy=false)=true by rw[HB.out];rfl,show eqB s.Op (⟨0,0,0,0,0⟩:DOp)=false from Au (fun e=>Ho2.out (by rw[e]))];rfl];try rfl,by exact Aa⟩
 have o21:(s.Op.B == 0)=true:=by simpa using o2
 have o22:decide (s.Op.B=0)=true:=by simpa using o2
 have Ho2:=Lib.hid o2;clear o2
 by_cases o3:s.Op.C=0
 rotate_left
 .
  have o31:(s.Op.C == 0)=false:=by simpa using o3
  have o32:decide (s.Op.C=0)=false:=by simpa using o3
  have Ho3:=Lib.hid o3;clear o3
  go_wp2_with (fail)
  go_ret
  exact⟨by rw[show eqB s (⟨i,0,⟨⟨0,0,0,0,0,[]⟩⟩,false,⟨0,0,0,0,0⟩,0⟩:De)=false from by rw[HM.out,show decide (s.Id=i)=true by simpa using He0.out,show decide (s.Seq=0)=true by simpa using He1.out,show eqB s.View (⟨⟨0,0,0,0,0,[]⟩⟩:Ge)=true from P2.out,show decide (s.Busy=false)=true by rw[HB.out];rfl,show eqB s.Op (⟨0,0,0,0,0⟩:DOp)=false from Au (fun e=>Ho3.out (by rw[e]))];rfl];try rfl,by exact Aa⟩
 have o31:(s.Op.C == 0)=true:=by simpa using o3
 have o32:decide (s.Op.C=0)=true:=by simpa using o3
 have Ho3:=Lib.hid o3;clear o3
 by_cases o4:s.Op.D=0
 rotate_left
 .
  have o41:(s.Op.D == 0)=false:=by simpa using o4
  have o42:decide (s.Op.D=0)=false:=by simpa using o4
  have Ho4:=Lib.hid o4;clear o4
  go_wp2_with (fail)
  go_ret
  exact⟨by rw[show eqB s (⟨i,0,⟨⟨0,0,0,0,0,[]⟩⟩,false,⟨0,0,0,0,0⟩,0⟩:De)=false from by rw[HM.out,show decide (s.Id=i)=true by simpa using He0.out,show decide (s.Seq=0)=true by simpa using He1.out,show eqB s.View (⟨⟨0,0,0,0,0,[]⟩⟩:Ge)=true from P2.out,show decide (s.Busy=false)=true by rw[HB.out];rfl,show eqB s.Op (⟨0,0,0,0,0⟩:DOp)=false from Au (fun e=>Ho4.out (by rw[e]))];rfl];try rfl,by exact Aa⟩
 have o41:(s.Op.D == 0)=true:=by simpa using o4
 have o42:decide (s.Op.D=0)=true:=by simpa using o4
 have Ho4:=Lib.hid o4;clear o4
 by_cases e9:s.Index=0
 rotate_left
 .
  have e91:(s.Index == 0)=false:=by simpa using e9
  have e92:decide (s.Index=0)=false:=by simpa using e9
  have He9:=Lib.hid e9;clear e9
  go_wp2_with (fail)
  go_ret
  exact⟨by rw[show eqB s (⟨i,0,⟨⟨0,0,0,0,0,[]⟩⟩,false,⟨0,0,0,0,0⟩,0⟩:De)=false from by rw[HM.out,show decide (s.Id=i)=true by simpa using He0.out,show decide (s.Seq=0)=true by simpa using He1.out,show eqB s.View (⟨⟨0,0,0,0,0,[]⟩⟩:Ge)=true from P2.out,show decide (s.Busy=false)=true by rw[HB.out];rfl,show eqB s.Op (⟨0,0,0,0,0⟩:DOp)=true from Fc (by have q0:=Ho0.out;have q1:=Ho1.out;have q2:=Ho2.out;have q3:=Ho3.out;have q4:=Ho4.out;revert q0 q1 q2 q3 q4;cases s.Op;simp only;intro q0 q1 q2 q3 q4;rw[q0,q1,q2,q3,q4]),show decide (s.Index=0)=false by simpa using He9.out];rfl];try rfl,by exact Aa⟩
 have e91:(s.Index == 0)=true:=by simpa using e9
 have e92:decide (s.Index=0)=true:=by simpa using e9
 have He9:=Lib.hid e9;clear e9
 go_wp2_with (fail)
 go_ret
 exact⟨by rw[show eqB s (⟨i,0,⟨⟨0,0,0,0,0,[]⟩⟩,false,⟨0,0,0,0,0⟩,0⟩:De)=true from by rw[HM.out,show decide (s.Id=i)=true by simpa using He0.out,show decide (s.Seq=0)=true by simpa using He1.out,show eqB s.View (⟨⟨0,0,0,0,0,[]⟩⟩:Ge)=true from P2.out,show decide (s.Busy=false)=true by rw[HB.out];rfl,show eqB s.Op (⟨0,0,0,0,0⟩:DOp)=true from Fc (by have q0:=Ho0.out;have q1:=Ho1.out;have q2:=Ho2.out;have q3:=Ho3.out;have q4:=Ho4.out;revert q0 q1 q2 q3 q4;cases s.Op;simp only;intro q0 q1 q2 q3 q4;rw[q0,q1,q2,q3,q4]),show decide (s.Index=0)=true by simpa using He9.out];rfl];try rfl,by exact Aa⟩
theorem Hp{P:Program}{ops:Array Oper}{rest:List Oper}{op:Oper}{a:Act}{w:World}{Q:Exit->Act->World->Prop}(hw:Region.wanted op (yielded ops a.tmps)=true)(ty:TypeId)(x:Operand)(ho:op.op=.load ty x)
  (b o:Nat) (hx:a.eval x=.pointer (some ⟨b,o,none⟩)) (cs:List Value) (d:TypeDesc) (hc:w.rangeAt b o cs)
  (hu:P.underlying ty=some d) (hd:d.isRow=true) (hi:(P.info? ty).map (·.size)=some cs.length)
  (h:wpList P ops Q rest (a.put op.dst (.agg cs.toArray)) w):wpList P ops Q (op::rest) a w :=
 wpList_step fun _ hK=>by rw[if_pos hw];exact wp_load_mid ty x ho b o hx cs d hc hu hd hi (hK _ _ h)
theorem Kk{i:Int}(h:i=2\/i=3):Dw i=⟨i,0,⟨⟨0,0,0,0,0,[]⟩⟩,false,⟨0,0,0,0,0⟩,0⟩:=by
 rcases h with rfl|rfl <;> rfl
theorem mU{s:De}{i:Int}{u:Bool}(h:Hd s=false):Et s i u=false:=by unfold Et;rw[h];rfl
theorem mV{s:De}{i:Int}{u:Bool}(h:¬ s.Id=i):Et s i u=false:=by unfold Et;simp[h]
theorem mW{s:De}{i:Int}(k:Hd s=true)(h:s.Id=i):Et s i true=true:=by unfold Et;rw[k];simp[h]
theorem dK{s:De}{i:Int}(k:Hd s=true)(h:s.Id=i)(hid:i=2\/i=3):Et s i false=eqB s ⟨i,0,⟨⟨0,0,0,0,0,[]⟩⟩,false,⟨0,0,0,0,0⟩,0⟩:=by unfold Et;rw[k,Kk hid];simp[h]
theorem Ua(w:World){v:Value}{s:De}(h:Hz w v s)(i:Int)(hid:i=2\/i=3)(up:Bool):Calls Tryz.prog 181 #[v,.int .i64 i,.bool up] w (Cp w (.bool (Et s i up))):=by
 have HS:=Lib.hid h
 obtain⟨t7,rfl,h7⟩:=h
 obtain⟨a1,n1,k1,rfl⟩:=h7.shape
 obtain⟨W0,hW0⟩:∃W0,W0=(w.alloc (.cells #[.int .i64 s.Id,.int .i64 s.Seq,.int .i64 s.View.Jobs.Index,.int .i64 s.View.Jobs.Time,.int .i64 s.View.Jobs.Holder,.int .i64 s.View.Jobs.Epoch,.int .i64 s.View.Jobs.Until,.slice a1 n1 k1,.bool s.Busy,.int .i64 s.Op.Kind,.int .i64 s.Op.A,.int .i64 s.Op.B,.int .i64 s.Op.C,.int .i64 s.Op.D,.int .i64 s.Index] 96)):=⟨_,rfl⟩
 have E0:Ext w W0:=by rw[hW0];exact Aa
 have KA:Blk W0 (w.heap.size) 96 #[.int .i64 s.Id,.int .i64 s.Seq,.int .i64 s.View.Jobs.Index,.int .i64 s.View.Jobs.Time,.int .i64 s.View.Jobs.Holder,.int .i64 s.View.Jobs.Epoch,.int .i64 s.View.Jobs.Until,.slice a1 n1 k1,.bool s.Busy,.int .i64 s.Op.Kind,.int .i64 s.Op.A,.int .i64 s.Op.B,.int .i64 s.Op.C,.int .i64 s.Op.D,.int .i64 s.Index]:=by rw[hW0];exact Blk.new _ _ _
 go_enter Tryz.func181,Tryz.ntmps181
 go_upto_region 1 with(fail)
 rw[<-hW0]
 clear hW0
 have X0:Ext w W0:=E0
 obtain⟨CA,FA,LA⟩:=KA.cfl
 have hR:W0.rangeAt w.heap.size 0 ([.int .i64 s.Id,.int .i64 s.Seq,.int .i64 s.View.Jobs.Index,.int .i64 s.View.Jobs.Time,.int .i64 s.View.Jobs.Holder,.int .i64 s.View.Jobs.Epoch,.int .i64 s.View.Jobs.Until,.slice a1 n1 k1,.bool s.Busy,.int .i64 s.Op.Kind,.int .i64 s.Op.A,.int .i64 s.Op.B,.int .i64 s.Op.C,.int .i64 s.Op.D,.int .i64 s.Index]:List Value):=Bk.range (A:=[]) (cs:=([.int .i64 s.Id,.int .i64 s.Seq,.int .i64 s.View.Jobs.Index,.int .i64 s.View.Jobs.Time,.int .i64 s.View.Jobs.Holder,.int .i64 s.View.Jobs.Epoch,.int .i64 s.View.Jobs.Until,.slice a1 n1 k1,.bool s.Busy,.int .i64 s.Op.Kind,.int .i64 s.Op.A,.int .i64 s.Op.B,.int .i64 s.Op.C,.int .i64 s.Op.D,.int .i64 s.Index]:List Value)) (C:=[]) (Bk.cast (show Bk W0 w.heap.size 96 ([.int .i64 s.Id,.int .i64 s.Seq,.int .i64 s.View.Jobs.Index,.int .i64 s.View.Jobs.Time,.int .i64 s.View.Jobs.Holder,.int .i64 s.View.Jobs.Epoch,.int .i64 s.View.Jobs.Until,.slice a1 n1 k1,.bool s.Busy,.int .i64 s.Op.Kind,.int .i64 s.Op.A,.int .i64 s.Op.B,.int .i64 s.Op.C,.int .i64 s.Op.D,.int .i64 s.Index]:List Value) from KA) (by simp)) rfl
 have I0:=KA.cell 0
 simp only[List.getElem?_toArray,List.getElem?_cons_zero] at I0
 clear CA FA LA KA
 refine wp_region_held_drew (S:=fun w'=>Ext W0 w') (by kernel_rfl) (by(try dsimp only);exact Aa) (fun hHeld=>?_)
 refine wpAnyH_take (i:=0) (v:=.agg ([.int .i64 s.Id,.int .i64 s.Seq,.int .i64 s.View.Jobs.Index,.int .i64 s.View.Jobs.Time,.int .i64 s.View.Jobs.Holder,.int .i64 s.View.Jobs.Epoch,.int .i64 s.View.Jobs.Until,.slice a1 n1 k1,.bool s.Busy,.int .i64 s.Op.Kind,.int .i64 s.Op.A,.int .i64 s.Op.B,.int .i64 s.Op.C,.int .i64 s.Op.D,.int .i64 s.Index]:List Value).toArray) rfl (by kernel_rfl) (by kernel_rfl) (by kernel_rfl) (fun _ _ _ h=>h) (yieldsIf_load_mid (by rfl) 96 (.tmp 3) rfl w.heap.size 0 (by rfl) ([.int .i64 s.Id,.int .i64 s.Seq,.int .i64 s.View.Jobs.Index,.int .i64 s.View.Jobs.Time,.int .i64 s.View.Jobs.Holder,.int .i64 s.View.Jobs.Epoch,.int .i64 s.View.Jobs.Until,.slice a1 n1 k1,.bool s.Busy,.int .i64 s.Op.Kind,.int .i64 s.Op.A,.int .i64 s.Op.B,.int .i64 s.Op.C,.int .i64 s.Op.D,.int .i64 s.Index]:List Value) _ (fun _ hSw=>Al hR hSw) Tryz.underlying96 rfl (by kernel_rfl)) (by assumption) ?_
 (try simp only[Ab,Act.put])
 refine wr1 1 fun Kz hKz=>?_
 (try simp only[Ab])
 go_simp
 go_at_call 277
 refine(kO (HS.out.ext Aa)).mono ?_
 rintro e w1⟨rfl,hx1⟩
 have Y1:Ext W0 w1:=Ext.trans Aa hx1
 clear hx1
 refine hKz.out _ _ (by(try dsimp only);exact Aa) (fun hHeld=>?_)
 clear hKz Kz
 (try simp only[Ab,Act.put])
 cases b1:Hd s
 .
  refine wt 2 ?_
  (try simp only[Ab,Act.put])
  refine wpAnyH_take (i:=3) (v:=undef) rfl (by kernel_rfl) (by kernel_rfl) (by kernel_rfl) (fun _ _ _ h=>h) (Or.inr ⟨by rfl,rfl⟩) (by assumption) ?_
  (try simp only[Ab,Act.put])
  refine wpAnyH_take (i:=4) (v:=undef) rfl (by kernel_rfl) (by kernel_rfl) (by kernel_rfl) (fun _ _ _ h=>h) (Or.inr ⟨by rfl,rfl⟩) (by assumption) ?_
  (try simp only[Ab,Act.put])
  refine wpAnyH_take (i:=5) (v:=undef) rfl (by kernel_rfl) (by kernel_rfl) (by kernel_rfl) (fun _ _ _ h=>h) (Or.inr ⟨by rfl,rfl⟩) (by assumption) ?_
  (try simp only[Ab,Act.put])
  refine wpAnyH_take (i:=6) (v:=undef) rfl (by kernel_rfl) (by kernel_rfl) (by kernel_rfl) (fun _ _ _ h=>h) (Or.inr ⟨by rfl,rfl⟩) (by assumption) ?_
  (try simp only[Ab,Act.put])
  refine wt 7 ?_
  (try simp only[Ab,Act.put])
  refine wt 8 ?_
  (try simp only[Ab,Act.put])
  refine wpAnyH_take (i:=9) (v:=undef) rfl (by kernel_rfl) (by kernel_rfl) (by kernel_rfl) (fun _ _ _ h=>h) (Or.inr ⟨by rfl,rfl⟩) (by assumption) ?_
  (try simp only[Ab,Act.put])
  refine wpAnyH_take (i:=10) (v:=undef) rfl (by kernel_rfl) (by kernel_rfl) (by kernel_rfl) (fun _ _ _ h=>h) (Or.inr ⟨by rfl,rfl⟩) (by assumption) ?_
  (try simp only[Ab,Act.put])
  refine wpAnyH_take (i:=11) (v:=undef) rfl (by kernel_rfl) (by kernel_rfl) (by kernel_rfl) (fun _ _ _ h=>h) (Or.inr ⟨by rfl,rfl⟩) (by assumption) ?_
  (try simp only[Ab,Act.put])
  refine wpAnyH_take (i:=12) (v:=undef) rfl (by kernel_rfl) (by kernel_rfl) (by kernel_rfl) (fun _ _ _ h=>h) (Or.inr ⟨by rfl,rfl⟩) (by assumption) ?_
  (try simp only[Ab,Act.put])
  refine wpAnyH_take (i:=13) (v:=undef) rfl (by kernel_rfl) (by kernel_rfl) (by kernel_rfl) (fun _ _ _ h=>h) (Or.inr ⟨by rfl,rfl⟩) (by assumption) ?_
  (try simp only[Ab,Act.put])
  refine wpAnyH_take (i:=14) (v:=undef) rfl (by kernel_rfl) (by kernel_rfl) (by kernel_rfl) (fun _ _ _ h=>h) (Or.inr ⟨by rfl,rfl⟩) (by assumption) ?_
  (try simp only[Ab,Act.put])
  refine wpAnyH_take (i:=15) (v:=undef) rfl (by kernel_rfl) (by kernel_rfl) (by kernel_rfl) (fun _ _ _ h=>h) (Or.inr ⟨by rfl,rfl⟩) (by assumption) ?_
  (try simp only[Ab,Act.put])
  refine wt 16 ?_
  (try simp only[Ab,Act.put])
  refine wt 17 ?_
  (try simp only[Ab,Act.put])
  refine wpAnyH_done (by kernel_rfl) ?_ _
  go_wp2_with fail
  go_ret
  exact⟨by rw[mU b1];try rfl,by exact Aa⟩
 refine wt 2 ?_
 (try simp only[Ab,Act.put])
 refine wt 3 ?_
 (try simp only[Ab,Act.put])
 refine wpAnyH_take (i:=4) (v:=?_) rfl (by kernel_rfl) (by kernel_rfl) (by kernel_rfl) (fun _ _ _ h=>h) (Or.inl ⟨by rfl,?_⟩) (by assumption) ?_
 rotate_left
 focus(intro w hSw;(try dsimp only at hSw);have q0:=hSw.cell I0;go_simp <;> with_reducible rfl)
 (try simp only[Ab,Act.put])
 refine wt 5 ?_
 (try simp only[Ab,Act.put])
 by_cases e0:s.Id=i
 rotate_left
 .
  have e1:(s.Id == i)=false:=by simpa using e0
  have H0:=Lib.hid e0;clear e0
  refine wt 6 ?_
  (try simp only[Ab,Act.put])
  refine wt 7 ?_
  (try simp only[Ab,Act.put])
  refine wt 8 ?_
  (try simp only[Ab,Act.put])
  refine wpAnyH_take (i:=9) (v:=undef) rfl (by kernel_rfl) (by kernel_rfl) (by kernel_rfl) (fun _ _ _ h=>h) (Or.inr ⟨by rfl,rfl⟩) (by assumption) ?_
  (try simp only[Ab,Act.put])
  refine wpAnyH_take (i:=10) (v:=undef) rfl (by kernel_rfl) (by kernel_rfl) (by kernel_rfl) (fun _ _ _ h=>h) (Or.inr ⟨by rfl,rfl⟩) (by assumption) ?_
  (try simp only[Ab,Act.put])
  refine wpAnyH_take (i:=11) (v:=undef) rfl (by kernel_rfl) (by kernel_rfl) (by kernel_rfl) (fun _ _ _ h=>h) (Or.inr ⟨by rfl,rfl⟩) (by assumption) ?_
  (try simp only[Ab,Act.put])
  refine wpAnyH_take (i:=12) (v:=undef) rfl (by kernel_rfl) (by kernel_rfl) (by kernel_rfl) (fun _ _ _ h=>h) (Or.inr ⟨by rfl,rfl⟩) (by assumption) ?_
  (try simp only[Ab,Act.put])
  refine wpAnyH_take (i:=13) (v:=undef) rfl (by kernel_rfl) (by kernel_rfl) (by kernel_rfl) (fun _ _ _ h=>h) (Or.inr ⟨by rfl,rfl⟩) (by assumption) ?_
  (try simp only[Ab,Act.put])
  refine wpAnyH_take (i:=14) (v:=undef) rfl (by kernel_rfl) (by kernel_rfl) (by kernel_rfl) (fun _ _ _ h=>h) (Or.inr ⟨by rfl,rfl⟩) (by assumption) ?_
  (try simp only[Ab,Act.put])
  refine wpAnyH_take (i:=15) (v:=undef) rfl (by kernel_rfl) (by kernel_rfl) (by kernel_rfl) (fun _ _ _ h=>h) (Or.inr ⟨by rfl,rfl⟩) (by assumption) ?_
  (try simp only[Ab,Act.put])
  refine wt 16 ?_
  (try simp only[Ab,Act.put])
  refine wt 17 ?_
  (try simp only[Ab,Act.put])
  refine wpAnyH_done (by kernel_rfl) ?_ _
  go_wp2_with fail
  go_ret
  exact⟨by rw[mV H0.out];try rfl,by exact Aa⟩
 have e1:(s.Id == i)=true:=by simpa using e0
 have H0:=Lib.hid e0;clear e0
 refine wt 6 ?_
 (try simp only[Ab,Act.put])
 refine wt 7 ?_
 (try simp only[Ab,Act.put])
 refine wt 8 ?_
 (try simp only[Ab,Act.put])
 refine wt 9 ?_
 (try simp only[Ab,Act.put])
 refine wt 10 ?_
 (try simp only[Ab,Act.put])
 cases up
 rotate_left
 .
  refine wpAnyH_take (i:=11) (v:=undef) rfl (by kernel_rfl) (by kernel_rfl) (by kernel_rfl) (fun _ _ _ h=>h) (Or.inr ⟨by rfl,rfl⟩) (by assumption) ?_
  (try simp only[Ab,Act.put])
  refine wpAnyH_take (i:=12) (v:=undef) rfl (by kernel_rfl) (by kernel_rfl) (by kernel_rfl) (fun _ _ _ h=>h) (Or.inr ⟨by rfl,rfl⟩) (by assumption) ?_
  (try simp only[Ab,Act.put])
  refine wpAnyH_take (i:=13) (v:=undef) rfl (by kernel_rfl) (by kernel_rfl) (by kernel_rfl) (fun _ _ _ h=>h) (Or.inr ⟨by rfl,rfl⟩) (by assumption) ?_
  (try simp only[Ab,Act.put])
  refine wpAnyH_take (i:=14) (v:=undef) rfl (by kernel_rfl) (by kernel_rfl) (by kernel_rfl) (fun _ _ _ h=>h) (Or.inr ⟨by rfl,rfl⟩) (by assumption) ?_
  (try simp only[Ab,Act.put])
  refine wt 15 ?_
  (try simp only[Ab,Act.put])
  refine wt 16 ?_
  (try simp only[Ab,Act.put])
  refine wt 17 ?_
  (try simp only[Ab,Act.put])
  refine wpAnyH_done (by kernel_rfl) ?_ _
  go_wp2_with fail
  go_ret
  exact⟨by rw[mW b1 H0.out];try rfl,by exact Aa⟩
 refine wpAnyH_take (i:=11) (v:=.agg ([.int .i64 s.Id,.int .i64 s.Seq,.int .i64 s.View.Jobs.Index,.int .i64 s.View.Jobs.Time,.int .i64 s.View.Jobs.Holder,.int .i64 s.View.Jobs.Epoch,.int .i64 s.View.Jobs.Until,.slice a1 n1 k1,.bool s.Busy,.int .i64 s.Op.Kind,.int .i64 s.Op.A,.int .i64 s.Op.B,.int .i64 s.Op.C,.int .i64 s.Op.D,.int .i64 s.Index]:List Value).toArray) rfl (by kernel_rfl) (by kernel_rfl) (by kernel_rfl) (fun _ _ _ h=>h) (yieldsIf_load_mid (by rfl) 96 (.tmp 3) rfl w.heap.size 0 (by rfl) ([.int .i64 s.Id,.int .i64 s.Seq,.int .i64 s.View.Jobs.Index,.int .i64 s.View.Jobs.Time,.int .i64 s.View.Jobs.Holder,.int .i64 s.View.Jobs.Epoch,.int .i64 s.View.Jobs.Until,.slice a1 n1 k1,.bool s.Busy,.int .i64 s.Op.Kind,.int .i64 s.Op.A,.int .i64 s.Op.B,.int .i64 s.Op.C,.int .i64 s.Op.D,.int .i64 s.Index]:List Value) _ (fun _ hSw=>Al hR hSw) Tryz.underlying96 rfl (by kernel_rfl)) (by assumption) ?_
 (try simp only[Ab,Act.put])
 refine wt 12 ?_
 (try simp only[Ab,Act.put])
 refine wr1 13 fun Kz hKz=>?_
 (try simp only[Ab])
 go_simp
 go_at_call 73
 refine(Vl _ i).mono ?_
 rintro e w2⟨x2,rfl,hx2,hI⟩
 rw[Kk hid] at hI
 obtain⟨t2,rfl,g2⟩:=hI
 have Y2:Ext W0 w2:=Ext.trans Aa hx2
 clear hx2
 refine hKz.out _ _ (by(try dsimp only);exact Aa) (fun hHeld=>?_)
 clear hKz Kz
 (try simp only[Ab,Act.put])
 refine wr1 14 fun Kz hKz=>?_
 (try simp only[Ab])
 go_simp
 go_at_call 278
 refine(jG _ s _ i _ (h7.ext Aa) (g2.ints.ext Aa)).mono ?_
 rintro e w3⟨rfl,hx3⟩
 have Y3:Ext W0 w3:=Ext.trans Aa hx3
 clear hx3
 refine hKz.out _ _ (by(try dsimp only);exact Aa) (fun hHeld=>?_)
 clear hKz Kz
 (try simp only[Ab,Act.put])
 refine wt 15 ?_
 (try simp only[Ab,Act.put])
 refine wt 16 ?_
 (try simp only[Ab,Act.put])
 refine wt 17 ?_
 (try simp only[Ab,Act.put])
 refine wpAnyH_done (by kernel_rfl) ?_ _
 go_wp2_with fail
 go_ret
 exact⟨by rw[dK b1 H0.out hid];try rfl,by exact Aa⟩
theorem aY(w:World){v:Value}{s:De}(h:Hz w v s):Calls Tryz.prog 213 #[v] w (Cp w (.bool (eqB s (⟨s.Id,0,⟨⟨0,0,0,0,0,[]⟩⟩,false,⟨0,0,0,0,0⟩,0⟩:De)))):=by
 obtain⟨t7,rfl,h7⟩:=h
 obtain⟨a1,k1,rfl,hc1,hm1,-⟩:=h7.recs (f:=Hu.ints) (fun _=>rfl) dC
 unfold maxLen at hm1
 obtain⟨n1,hn1⟩:∃n,n=s.View.Jobs.Open.length:=⟨_,rfl⟩
 rw[<-hn1] at hc1 ⊢
 have HN:=Lib.hid hn1;clear hn1 h7
 have HM:=Lib.hid (show eqB s (⟨s.Id,0,⟨⟨0,0,0,0,0,[]⟩⟩,false,⟨0,0,0,0,0⟩,0⟩:De)=_ from rG s _ _ _ _ _ _)
 obtain⟨bz,hbz⟩:∃b:Bool,s.Busy=b:=⟨_,rfl⟩
 rw[hbz]
 have HB:=Lib.hid hbz;clear hbz
 obtain⟨W0,hW0⟩:∃W0,W0=(w.alloc (.cells #[.int .i64 s.Id,.int .i64 s.Seq,.int .i64 s.View.Jobs.Index,.int .i64 s.View.Jobs.Time,.int .i64 s.View.Jobs.Holder,.int .i64 s.View.Jobs.Epoch,.int .i64 s.View.Jobs.Until,.slice a1 n1 k1,.bool bz,.int .i64 s.Op.Kind,.int .i64 s.Op.A,.int .i64 s.Op.B,.int .i64 s.Op.C,.int .i64 s.Op.D,.int .i64 s.Index] 96)):=⟨_,rfl⟩
 have E0:Ext w W0:=by rw[hW0];exact Aa
 have KA:Blk W0 (w.heap.size) 96 #[.int .i64 s.Id,.int .i64 s.Seq,.int .i64 s.View.Jobs.Index,.int .i64 s.View.Jobs.Time,.int .i64 s.View.Jobs.Holder,.int .i64 s.View.Jobs.Epoch,.int .i64 s.View.Jobs.Until,.slice a1 n1 k1,.bool bz,.int .i64 s.Op.Kind,.int .i64 s.Op.A,.int .i64 s.Op.B,.int .i64 s.Op.C,.int .i64 s.Op.D,.int .i64 s.Index]:=by rw[hW0];exact Blk.new _ _ _
 go_enter Tryz.func213,Tryz.ntmps213
 go_upto_region 1 with(fail)
 rw[<-hW0]
 clear hW0
 have X0:Ext w W0:=E0
 obtain⟨CA,FA,LA⟩:=KA.cfl
 go_upto_region 2 with(fail)
 obtain⟨W1,hW1⟩:∃W1,W1=W0.alloc (.cells #[.int .i64 s.View.Jobs.Index,.int .i64 s.View.Jobs.Time,.int .i64 s.View.Jobs.Holder,.int .i64 s.View.Jobs.Epoch,.int .i64 s.View.Jobs.Until,.slice a1 n1 k1] 91):=⟨_,rfl⟩
 have x1:Ext W0 W1:=by rw[hW1];exact Aa
 have hz0:=KA.lt
 have KJ:Blk W1 W0.heap.size 91 #[.int .i64 s.View.Jobs.Index,.int .i64 s.View.Jobs.Time,.int .i64 s.View.Jobs.Holder,.int .i64 s.View.Jobs.Epoch,.int .i64 s.View.Jobs.Until,.slice a1 n1 k1]:=by rw[hW1];exact Blk.new _ _ _
 rw[<-hW1];clear hW1
 have KA:=KA.ext x1;have X1:=E0.trans x1;clear CA FA LA x1
 obtain⟨CA,FA,LA⟩:=KA.cfl
 obtain⟨CJ,FJ,LJ⟩:=KJ.cfl
 by_cases e1:s.Seq=0
 rotate_left
 .
  have e11:(s.Seq == 0)=false:=by simpa using e1
  have e12:decide (s.Seq=0)=false:=by simpa using e1
  have He1:=Lib.hid e1;clear e1
  go_wp2_with (fail)
  go_ret
  exact⟨by rw[show eqB s (⟨s.Id,0,⟨⟨0,0,0,0,0,[]⟩⟩,false,⟨0,0,0,0,0⟩,0⟩:De)=false from by rw[HM.out];simp[He1.out]];try rfl,by exact Aa⟩
 have e11:(s.Seq == 0)=true:=by simpa using e1
 have e12:decide (s.Seq=0)=true:=by simpa using e1
 have He1:=Lib.hid e1;clear e1
 cases bz
 rotate_left
 .
  go_wp2_with (fail)
  go_ret
  exact⟨by rw[show eqB s (⟨s.Id,0,⟨⟨0,0,0,0,0,[]⟩⟩,false,⟨0,0,0,0,0⟩,0⟩:De)=false from by rw[HM.out];simp[HB.out]];try rfl,by exact Aa⟩
 by_cases o0:s.Op.Kind=0
 rotate_left
 .
  have o01:(s.Op.Kind == 0)=false:=by simpa using o0
  have o02:decide (s.Op.Kind=0)=false:=by simpa using o0
  have Ho0:=Lib.hid o0;clear o0
  go_wp2_with (fail)
  go_ret
  exact⟨by rw[show eqB s (⟨s.Id,0,⟨⟨0,0,0,0,0,[]⟩⟩,false,⟨0,0,0,0,0⟩,0⟩:De)=false from by rw[HM.out];simp[show eqB s.Op (⟨0,0,0,0,0⟩:DOp)=false from Au (fun e=>Ho0.out (by rw[e]))]];try rfl,by exact Aa⟩
 have o01:(s.Op.Kind == 0)=true:=by simpa using o0
 have o02:decide (s.Op.Kind=0)=true:=by simpa using o0
 have Ho0:=Lib.hid o0;clear o0
 by_cases o1:s.Op.A=0
 rotate_left
 .
  have o11:(s.Op.A == 0)=false:=by simpa using o1
  have o12:decide (s.Op.A=0)=false:=by simpa using o1
  have Ho1:=Lib.hid o1;clear o1
  go_wp2_with (fail)
  go_ret
  exact⟨by rw[show eqB s (⟨s.Id,0,⟨⟨0,0,0,0,0,[]⟩⟩,false,⟨0,0,0,0,0⟩,0⟩:De)=false from by rw[HM.out];simp[show eqB s.Op (⟨0,0,0,0,0⟩:DOp)=false from Au (fun e=>Ho1.out (by rw[e]))]];try rfl,by exact Aa⟩
 have o11:(s.Op.A == 0)=true:=by simpa using o1
 have o12:decide (s.Op.A=0)=true:=by simpa using o1
 have Ho1:=Lib.hid o1;clear o1
 by_cases o2:s.Op.B=0
 rotate_left
 .
  have o21:(s.Op.B == 0)=false:=by simpa using o2
  have o22:decide (s.Op.B=0)=false:=by simpa using o2
  have Ho2:=Lib.hid o2;clear o2
  go_wp2_with (fail)
  go_ret
  exact⟨by rw[show eqB s (⟨s.Id,0,⟨⟨0,0,0,0,0,[]⟩⟩,false,⟨0,0,0,0,0⟩,0⟩:De)=false from by rw[HM.out];simp[show eqB s.Op (⟨0,0,0,0,0⟩:DOp)=false from Au (fun e=>Ho2.out (by rw[e]))]];try rfl,by exact Aa⟩
 have o21:(s.Op.B == 0)=true:=by simpa using o2
 have o22:decide (s.Op.B=0)=true:=by simpa using o2
 have Ho2:=Lib.hid o2;clear o2
 by_cases o3:s.Op.C=0
 rotate_left
 .
  have o31:(s.Op.C == 0)=false:=by simpa using o3
  have o32:decide (s.Op.C=0)=false:=by simpa using o3
  have Ho3:=Lib.hid o3;clear o3
  go_wp2_with (fail)
  go_ret
  exact⟨by rw[show eqB s (⟨s.Id,0,⟨⟨0,0,0,0,0,[]⟩⟩,false,⟨0,0,0,0,0⟩,0⟩:De)=false from by rw[HM.out];simp[show eqB s.Op (⟨0,0,0,0,0⟩:DOp)=false from Au (fun e=>Ho3.out (by rw[e]))]];try rfl,by exact Aa⟩
 have o31:(s.Op.C == 0)=true:=by simpa using o3
 have o32:decide (s.Op.C=0)=true:=by simpa using o3
 have Ho3:=Lib.hid o3;clear o3
 by_cases o4:s.Op.D=0
 rotate_left
 .
  have o41:(s.Op.D == 0)=false:=by simpa using o4
  have o42:decide (s.Op.D=0)=false:=by simpa using o4
  have Ho4:=Lib.hid o4;clear o4
  go_wp2_with (fail)
  go_ret
  exact⟨by rw[show eqB s (⟨s.Id,0,⟨⟨0,0,0,0,0,[]⟩⟩,false,⟨0,0,0,0,0⟩,0⟩:De)=false from by rw[HM.out];simp[show eqB s.Op (⟨0,0,0,0,0⟩:DOp)=false from Au (fun e=>Ho4.out (by rw[e]))]];try rfl,by exact Aa⟩
 have o41:(s.Op.D == 0)=true:=by simpa using o4
 have o42:decide (s.Op.D=0)=true:=by simpa using o4
 have Ho4:=Lib.hid o4;clear o4
 by_cases e9:s.Index=0
 rotate_left
 .
  have e91:(s.Index == 0)=false:=by simpa using e9
  have e92:decide (s.Index=0)=false:=by simpa using e9
  have He9:=Lib.hid e9;clear e9
  go_wp2_with (fail)
  go_ret
  exact⟨by rw[show eqB s (⟨s.Id,0,⟨⟨0,0,0,0,0,[]⟩⟩,false,⟨0,0,0,0,0⟩,0⟩:De)=false from by rw[HM.out];simp[He9.out]];try rfl,by exact Aa⟩
 have e91:(s.Index == 0)=true:=by simpa using e9
 have e92:decide (s.Index=0)=true:=by simpa using e9
 have He9:=Lib.hid e9;clear e9
 by_cases v0:s.View.Jobs.Index=0
 rotate_left
 .
  have v01:(s.View.Jobs.Index == 0)=false:=by simpa using v0
  have v02:decide (s.View.Jobs.Index=0)=false:=by simpa using v0
  have Hv0:=Lib.hid v0;clear v0
  go_wp2_with (fail)
  go_ret
  exact⟨by rw[show eqB s (⟨s.Id,0,⟨⟨0,0,0,0,0,[]⟩⟩,false,⟨0,0,0,0,0⟩,0⟩:De)=false from by rw[HM.out];simp[show eqB s.View (⟨⟨0,0,0,0,0,[]⟩⟩:Ge)=false from Au (fun e=>Hv0.out (by rw[e]))]];try rfl,by exact Aa⟩
 have v01:(s.View.Jobs.Index == 0)=true:=by simpa using v0
 have v02:decide (s.View.Jobs.Index=0)=true:=by simpa using v0
 have Hv0:=Lib.hid v0;clear v0
 by_cases v1:s.View.Jobs.Time=0
 rotate_left
 .
  have v11:(s.View.Jobs.Time == 0)=false:=by simpa using v1
  have v12:decide (s.View.Jobs.Time=0)=false:=by simpa using v1
  have Hv1:=Lib.hid v1;clear v1
  go_wp2_with (fail)
  go_ret
  exact⟨by rw[show eqB s (⟨s.Id,0,⟨⟨0,0,0,0,0,[]⟩⟩,false,⟨0,0,0,0,0⟩,0⟩:De)=false from by rw[HM.out];simp[show eqB s.View (⟨⟨0,0,0,0,0,[]⟩⟩:Ge)=false from Au (fun e=>Hv1.out (by rw[e]))]];try rfl,by exact Aa⟩
 have v11:(s.View.Jobs.Time == 0)=true:=by simpa using v1
 have v12:decide (s.View.Jobs.Time=0)=true:=by simpa using v1
 have Hv1:=Lib.hid v1;clear v1
 by_cases v2:s.View.Jobs.Holder=0
 rotate_left
 .
  have v21:(s.View.Jobs.Holder == 0)=false:=by simpa using v2
  have v22:decide (s.View.Jobs.Holder=0)=false:=by simpa using v2
  have Hv2:=Lib.hid v2;clear v2
  go_wp2_with (fail)
  go_ret
  exact⟨by rw[show eqB s (⟨s.Id,0,⟨⟨0,0,0,0,0,[]⟩⟩,false,⟨0,0,0,0,0⟩,0⟩:De)=false from by rw[HM.out];simp[show eqB s.View (⟨⟨0,0,0,0,0,[]⟩⟩:Ge)=false from Au (fun e=>Hv2.out (by rw[e]))]];try rfl,by exact Aa⟩
 have v21:(s.View.Jobs.Holder == 0)=true:=by simpa using v2
 have v22:decide (s.View.Jobs.Holder=0)=true:=by simpa using v2
 have Hv2:=Lib.hid v2;clear v2
 by_cases v3:s.View.Jobs.Epoch=0
 rotate_left
 .
  have v31:(s.View.Jobs.Epoch == 0)=false:=by simpa using v3
  have v32:decide (s.View.Jobs.Epoch=0)=false:=by simpa using v3
  have Hv3:=Lib.hid v3;clear v3
  go_wp2_with (fail)
  go_ret
  exact⟨by rw[show eqB s (⟨s.Id,0,⟨⟨0,0,0,0,0,[]⟩⟩,false,⟨0,0,0,0,0⟩,0⟩:De)=false from by rw[HM.out];simp[show eqB s.View (⟨⟨0,0,0,0,0,[]⟩⟩:Ge)=false from Au (fun e=>Hv3.out (by rw[e]))]];try rfl,by exact Aa⟩
 have v31:(s.View.Jobs.Epoch == 0)=true:=by simpa using v3
 have v32:decide (s.View.Jobs.Epoch=0)=true:=by simpa using v3
 have Hv3:=Lib.hid v3;clear v3
 by_cases v4:s.View.Jobs.Until=0
 rotate_left
 .
  have v41:(s.View.Jobs.Until == 0)=false:=by simpa using v4
  have v42:decide (s.View.Jobs.Until=0)=false:=by simpa using v4
  have Hv4:=Lib.hid v4;clear v4
  go_wp2_with (fail)
  go_ret
  exact⟨by rw[show eqB s (⟨s.Id,0,⟨⟨0,0,0,0,0,[]⟩⟩,false,⟨0,0,0,0,0⟩,0⟩:De)=false from by rw[HM.out];simp[show eqB s.View (⟨⟨0,0,0,0,0,[]⟩⟩:Ge)=false from Au (fun e=>Hv4.out (by rw[e]))]];try rfl,by exact Aa⟩
 have v41:(s.View.Jobs.Until == 0)=true:=by simpa using v4
 have v42:decide (s.View.Jobs.Until=0)=true:=by simpa using v4
 have Hv4:=Lib.hid v4;clear v4
 by_cases hl:n1=0
 rotate_left
 .
  have l1:((n1:Int) == 0)=false:=by simp;omega
  have l2:decide (n1=0)=false:=by simpa using hl
  have HL:=Lib.hid hl;clear hl
  go_wp2_with (fail)
  go_ret
  exact⟨by rw[show eqB s (⟨s.Id,0,⟨⟨0,0,0,0,0,[]⟩⟩,false,⟨0,0,0,0,0⟩,0⟩:De)=false from by rw[HM.out];simp[show eqB s.View (⟨⟨0,0,0,0,0,[]⟩⟩:Ge)=false from Au (fun e=>HL.out (by rw[HN.out,e];rfl))]];try rfl,by exact Aa⟩
 have l1:((n1:Int) == 0)=true:=by simp;omega
 have l2:decide (n1=0)=true:=by simpa using hl
 have HL:=Lib.hid hl;clear hl
 go_wp2_with (fail)
 go_ret
 exact⟨by rw[show eqB s (⟨s.Id,0,⟨⟨0,0,0,0,0,[]⟩⟩,false,⟨0,0,0,0,0⟩,0⟩:De)=true from by rw[HM.out,show eqB s.View (⟨⟨0,0,0,0,0,[]⟩⟩:Ge)=true from Fc (by have q0:=Hv0.out;have q1:=Hv1.out;have q2:=Hv2.out;have q3:=Hv3.out;have q4:=Hv4.out;have q5:s.View.Jobs.Open=[]:=List.eq_nil_of_length_eq_zero (by rw[<-HN.out];exact HL.out);revert q0 q1 q2 q3 q4 q5;rcases s.View with⟨⟨j0,j1,j2,j3,j4,j5⟩⟩;simp only;intro q0 q1 q2 q3 q4 q5;rw[q0,q1,q2,q3,q4,q5]),show eqB s.Op (⟨0,0,0,0,0⟩:DOp)=true from Fc (by have q0:=Ho0.out;have q1:=Ho1.out;have q2:=Ho2.out;have q3:=Ho3.out;have q4:=Ho4.out;revert q0 q1 q2 q3 q4;cases s.Op;simp only;intro q0 q1 q2 q3 q4;rw[q0,q1,q2,q3,q4])];simp[He1.out,HB.out,He9.out]];try rfl,by exact Aa⟩
theorem aZ(w:World){v:Value}{s:De}(h:Hz w v s)(i:Int)(hid:i=2\/i=3)(up:Bool):Calls Tryz.prog 110 #[v,.int .i64 i,.bool up] w (Cp w (.bool (Et s i up))):=by
 have HS:=Lib.hid h
 obtain⟨t7,rfl,h7⟩:=h
 obtain⟨a1,n1,k1,rfl⟩:=h7.shape
 obtain⟨W0,hW0⟩:∃W0,W0=(w.alloc (.cells #[.int .i64 s.Id,.int .i64 s.Seq,.int .i64 s.View.Jobs.Index,.int .i64 s.View.Jobs.Time,.int .i64 s.View.Jobs.Holder,.int .i64 s.View.Jobs.Epoch,.int .i64 s.View.Jobs.Until,.slice a1 n1 k1,.bool s.Busy,.int .i64 s.Op.Kind,.int .i64 s.Op.A,.int .i64 s.Op.B,.int .i64 s.Op.C,.int .i64 s.Op.D,.int .i64 s.Index] 96)):=⟨_,rfl⟩
 have E0:Ext w W0:=by rw[hW0];exact Aa
 have KA:Blk W0 (w.heap.size) 96 #[.int .i64 s.Id,.int .i64 s.Seq,.int .i64 s.View.Jobs.Index,.int .i64 s.View.Jobs.Time,.int .i64 s.View.Jobs.Holder,.int .i64 s.View.Jobs.Epoch,.int .i64 s.View.Jobs.Until,.slice a1 n1 k1,.bool s.Busy,.int .i64 s.Op.Kind,.int .i64 s.Op.A,.int .i64 s.Op.B,.int .i64 s.Op.C,.int .i64 s.Op.D,.int .i64 s.Index]:=by rw[hW0];exact Blk.new _ _ _
 go_enter Tryz.func110,Tryz.ntmps110
 go_upto_region 1 with(fail)
 rw[<-hW0]
 clear hW0
 have X0:Ext w W0:=E0
 obtain⟨CA,FA,LA⟩:=KA.cfl
 have hR:W0.rangeAt w.heap.size 0 ([.int .i64 s.Id,.int .i64 s.Seq,.int .i64 s.View.Jobs.Index,.int .i64 s.View.Jobs.Time,.int .i64 s.View.Jobs.Holder,.int .i64 s.View.Jobs.Epoch,.int .i64 s.View.Jobs.Until,.slice a1 n1 k1,.bool s.Busy,.int .i64 s.Op.Kind,.int .i64 s.Op.A,.int .i64 s.Op.B,.int .i64 s.Op.C,.int .i64 s.Op.D,.int .i64 s.Index]:List Value):=Bk.range (A:=[]) (cs:=([.int .i64 s.Id,.int .i64 s.Seq,.int .i64 s.View.Jobs.Index,.int .i64 s.View.Jobs.Time,.int .i64 s.View.Jobs.Holder,.int .i64 s.View.Jobs.Epoch,.int .i64 s.View.Jobs.Until,.slice a1 n1 k1,.bool s.Busy,.int .i64 s.Op.Kind,.int .i64 s.Op.A,.int .i64 s.Op.B,.int .i64 s.Op.C,.int .i64 s.Op.D,.int .i64 s.Index]:List Value)) (C:=[]) (Bk.cast (show Bk W0 w.heap.size 96 ([.int .i64 s.Id,.int .i64 s.Seq,.int .i64 s.View.Jobs.Index,.int .i64 s.View.Jobs.Time,.int .i64 s.View.Jobs.Holder,.int .i64 s.View.Jobs.Epoch,.int .i64 s.View.Jobs.Until,.slice a1 n1 k1,.bool s.Busy,.int .i64 s.Op.Kind,.int .i64 s.Op.A,.int .i64 s.Op.B,.int .i64 s.Op.C,.int .i64 s.Op.D,.int .i64 s.Index]:List Value) from KA) (by simp)) rfl
 go_wp2_with (first|(refine wpList_load_mid rfl 96 _ rfl w.heap.size 0 (by rfl) ([.int .i64 s.Id,.int .i64 s.Seq,.int .i64 s.View.Jobs.Index,.int .i64 s.View.Jobs.Time,.int .i64 s.View.Jobs.Holder,.int .i64 s.View.Jobs.Epoch,.int .i64 s.View.Jobs.Until,.slice a1 n1 k1,.bool s.Busy,.int .i64 s.Op.Kind,.int .i64 s.Op.A,.int .i64 s.Op.B,.int .i64 s.Op.C,.int .i64 s.Op.D,.int .i64 s.Index]:List Value) _ hR Tryz.underlying96 rfl (by kernel_rfl) ?_))
 refine(kN (HS.out.ext Aa)).mono ?_
 rintro e w1⟨rfl,hx1⟩
 have KA:=KA.ext hx1;clear CA FA LA
 have X1:=X0.trans hx1;clear hx1
 obtain⟨CA,FA,LA⟩:=KA.cfl
 cases b1:Hd s
 .
  go_wp2_with (fail)
  go_ret
  exact⟨by rw[show Et s i up=false from by exact mU b1];try rfl,by exact Aa⟩
 by_cases e0:s.Id=i
 rotate_left
 .
  have e01:(s.Id == i)=false:=by simpa using e0
  have e02:decide (s.Id=i)=false:=by simpa using e0
  have He0:=Lib.hid e0;clear e0
  go_wp2_with (fail)
  go_ret
  exact⟨by rw[show Et s i up=false from by exact mV He0.out];try rfl,by exact Aa⟩
 have e01:(s.Id == i)=true:=by simpa using e0
 have e02:decide (s.Id=i)=true:=by simpa using e0
 have He0:=Lib.hid e0;clear e0
 cases up
 rotate_left
 .
  go_wp2_with (fail)
  go_ret
  exact⟨by rw[show Et s i true=true from by exact mW b1 He0.out];try rfl,by exact Aa⟩
 have hR1:w1.rangeAt w.heap.size 0 ([.int .i64 s.Id,.int .i64 s.Seq,.int .i64 s.View.Jobs.Index,.int .i64 s.View.Jobs.Time,.int .i64 s.View.Jobs.Holder,.int .i64 s.View.Jobs.Epoch,.int .i64 s.View.Jobs.Until,.slice a1 n1 k1,.bool s.Busy,.int .i64 s.Op.Kind,.int .i64 s.Op.A,.int .i64 s.Op.B,.int .i64 s.Op.C,.int .i64 s.Op.D,.int .i64 s.Index]:List Value):=Bk.range (A:=[]) (cs:=([.int .i64 s.Id,.int .i64 s.Seq,.int .i64 s.View.Jobs.Index,.int .i64 s.View.Jobs.Time,.int .i64 s.View.Jobs.Holder,.int .i64 s.View.Jobs.Epoch,.int .i64 s.View.Jobs.Until,.slice a1 n1 k1,.bool s.Busy,.int .i64 s.Op.Kind,.int .i64 s.Op.A,.int .i64 s.Op.B,.int .i64 s.Op.C,.int .i64 s.Op.D,.int .i64 s.Index]:List Value)) (C:=[]) (Bk.cast (show Bk w1 w.heap.size 96 ([.int .i64 s.Id,.int .i64 s.Seq,.int .i64 s.View.Jobs.Index,.int .i64 s.View.Jobs.Time,.int .i64 s.View.Jobs.Holder,.int .i64 s.View.Jobs.Epoch,.int .i64 s.View.Jobs.Until,.slice a1 n1 k1,.bool s.Busy,.int .i64 s.Op.Kind,.int .i64 s.Op.A,.int .i64 s.Op.B,.int .i64 s.Op.C,.int .i64 s.Op.D,.int .i64 s.Index]:List Value) from KA) (by simp)) rfl
 go_wp2_with (first|(refine Hp rfl 96 _ rfl w.heap.size 0 (by rfl) ([.int .i64 s.Id,.int .i64 s.Seq,.int .i64 s.View.Jobs.Index,.int .i64 s.View.Jobs.Time,.int .i64 s.View.Jobs.Holder,.int .i64 s.View.Jobs.Epoch,.int .i64 s.View.Jobs.Until,.slice a1 n1 k1,.bool s.Busy,.int .i64 s.Op.Kind,.int .i64 s.Op.A,.int .i64 s.Op.B,.int .i64 s.Op.C,.int .i64 s.Op.D,.int .i64 s.Index]:List Value) _ hR1 Tryz.underlying96 rfl (by kernel_rfl) ?_))
 refine(aY _ (HS.out.ext Aa)).mono ?_
 rintro e w2⟨rfl,hx2⟩
 have KA:=KA.ext hx2;clear CA FA LA
 have X2:=X1.trans hx2;clear hx2
 obtain⟨CA,FA,LA⟩:=KA.cfl
 have HD:=Lib.hid (show Et s i false=eqB s (⟨s.Id,0,⟨⟨0,0,0,0,0,[]⟩⟩,false,⟨0,0,0,0,0⟩,0⟩:De) from by rw[dK b1 He0.out hid,He0.out])
 go_wp2_with fail
 go_ret
 exact⟨by rw[HD.out];try rfl,by exact Aa⟩
end Go.Proofs.YtkpmbocbbgocbaaGreat
