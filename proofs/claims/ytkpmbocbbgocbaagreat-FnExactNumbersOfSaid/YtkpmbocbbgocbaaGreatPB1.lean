/- HelpM KM V2 V3 V4a V4b V4c V4 V5 V6 V7 V12 V13 V8 V9 V10 V11 V14 KSc. -/
import Derived.Test.YtkpmbocbbgocbaaGreatPGe
import Derived.Test.YtkpmbocbbgocbaaGreatPGw
set_option linter.unusedSimpArgs false
set_option linter.unusedVariables false
set_option maxHeartbeats 8000000
set_option maxRecDepth 100000
namespace Go.Proofs.YtkpmbocbbgocbaaGreat
open Go.RowKit Go.G8
theorem bQ1(w:World)(v:Value)(rows:List wK)(h:Ll 2 w v rows)(hs:Mj rows<=1048576):Calls Tryz.prog 129 #[v] w (Ret w fun v' w'=>DZ w.heap.size 255 2 2 w' v' rows):=by
 have hwid:=h.1
 obtain⟨a,ca,rfl,hca,hm,ha⟩:=h.open_
 have HA:=Lib.hid ha;have HW:=Lib.hid hwid;have HZ:=Lib.hid hs
 have hL:rows.length<=1048576:=by unfold Mj at hs;omega
 clear ha h hwid hs
 unfold maxLen at hm
 obtain⟨i0,hi,hz0,hz1,hz2⟩:=info_parts bN3
 go_enter Tryz.func129,Tryz.ntmps129
 have hmk:=fun W=>run_make (P:=Tryz.prog) W 101 255 i0 _ Tryz.underlying101 hi hz0 .i64 .i64 rows.length rows.length oM oM (by rw[hz2];omega) oM
 simp only[Int.toNat_natCast,hz1] at hmk
 go_wp2
 clear hmk
 go_loopw [4] (fun i wr=>∃k:Nat,k<=rows.length/\i=.int .i64 k/\Ext w wr/\∃cur ss,Blk wr w.heap.size 255 cur/\cur.size=rows.length*3/\ss.length=k/\Pre cur (k*3) (AS (rows.take k) ss)/\MH (w.heap.size+1) 2 wr (.slice (some ⟨w.heap.size,0,none⟩) rows.length rows.length) (rows.take k) ss) (fun i _=>rows.length - (intOf i).toNat)
 case atStart=>exact⟨0,Nat.zero_le _,rfl,(Ext.refl _).alloc _,_,[],Blk.new _ _ _,by simp[size_madeCells],rfl,by simpa using Pre.zero _ _,⟨fun i s q h1=>by simp at h1,fun i j s t k _ h1=>by simp at h1,fun i s k h1=>by simp at h1⟩⟩
 case round =>
  obtain⟨k,hk,rfl,he,cur,ss,hblk,hsz,hssl,hpre,hinn⟩:=hrel
  by_cases hlt:k<rows.length
  .
   obtain⟨r,b1,o1,s,hr,rfl,_,hci,hcs,hin0⟩:=HA.out k hlt
   have hrw:=HW.out r (List.mem_of_getElem? hr)
   obtain⟨x0,hx0⟩:∃u,r.1[0]?=some u:=⟨_,List.getElem?_eq_getElem (by rw[hrw];decide)⟩
   have d0:=he.cell (hci 0 _ hx0)
   obtain⟨x1,hx1⟩:∃u,r.1[1]?=some u:=⟨_,List.getElem?_eq_getElem (by rw[hrw];decide)⟩
   have d1:=he.cell (hci 1 _ hx1)
   have d2:=he.cell hcs
   simp only[Nat.add_zero,Nat.reduceAdd] at d0 d1 d2
   have hin:=hin0.ext he
   obtain⟨sa,sn,sc,rfl⟩:=hin.shape
   have HR:=Lib.hid (RG HZ.out hr)
   have HS:=Lib.hid hsz;have HRW:=Lib.hid hrw;have HK:=Lib.hid hr
   have hlen:(AS (rows.take k) ss).length=k*3:=by rw[CO (ZM HW.out k) (by simp;omega)];simp;omega
   have HL:=Lib.hid hlen;have HSS:=Lib.hid hssl
   clear hlen hssl
   have HX0:=Lib.hid hx0;clear hx0
   have HX1:=Lib.hid hx1;clear hx1
   clear hci hcs hrw hr hsz hin0
   go_wp2_with (first|(go_at_call 235;refine(cC0 _ _ _ _ r.2 r.2.length oM (hin.ext xT) HR.out).mono ?_;rintro e w1 ⟨_,rfl,hx,t,rfl,hg⟩;obtain⟨ta,tn,tc,rfl⟩:=hg.shape;have hb1:=hblk.ext hx;obtain⟨z0,g0⟩:∃z,w1.cell? ⟨w.heap.size,k*3,none⟩=some z:=⟨_,by rw[hb1.cell];exact Array.getElem?_eq_getElem (by have:=HS.out;omega)⟩;have f0:=hb1.frozen (k*3);obtain⟨z1,g1⟩:∃z,w1.cell? ⟨w.heap.size,k*3+1,none⟩=some z:=⟨_,by rw[hb1.cell];exact Array.getElem?_eq_getElem (by have:=HS.out;omega)⟩;have f1:=hb1.frozen (k*3+1);obtain⟨z2,g2⟩:∃z,w1.cell? ⟨w.heap.size,k*3+2,none⟩=some z:=⟨_,by rw[hb1.cell];exact Array.getElem?_eq_getElem (by have:=HS.out;omega)⟩;have f2:=hb1.frozen (k*3+2)))
   have hlen:=HL.out;have hssl:=HSS.out
   go_roundw
   case rel =>
    refine⟨k+1,by omega,by go_num,((((he.trans hx).setCell (Nat.le_refl _) _).setCell (Nat.le_refl _) _).setCell (Nat.le_refl _) _),_,ss++[.slice ta tn tc],(((hb1.set_ _ _).set_ _ _).set_ _ _),by simp;exact HS.out,by simp;omega,?_,?_⟩
    .
     rw[IS HK.out,PV (by simp;omega)]
     refine(((((hpre.app (Nat.le_of_eq hlen.symm)).set (VF r (.slice ta tn tc) hlen (XA HX0.out)) (by have:=HS.out;omega)).set (UG (N:=k*3) (j:=1) r (.slice ta tn tc) hlen (XA HX1.out)) (by have:=HS.out;simp;omega)).set (UG (N:=k*3) (j:=2) r (.slice ta tn tc) hlen (ZR HRW.out)) (by have:=HS.out;simp;omega))).cast ?_
     omega
    rw[IS HK.out]
    have hi1:=(hinn.ext hx)
    refine(MH.snoc hi1 (by simp;omega) (hg.mono (by have:=he.size;have:=hblk.lt;omega)) (fun i s' k' h1 h2 h3=>?_) (fun k' h2 h3=>?_)).keep ((((Chg.refl _ _).setLow oM _).setLow oM _).setLow oM _)
    .
     have hli:i<(rows.take k).length:=by
      have:i<ss.length:=(List.getElem?_eq_some_iff.1 h1).1
      simp;omega
     have h4:=(hinn.own i s' _ h1 (List.getElem?_eq_getElem hli)).foot k' h2
     have h5:=hg.foot k' h3
     omega
    have h5:=hg.foot k' h2
    have:=hblk.lt
    simp[Ep,Value.ownBlock] at h3
    omega
   case measure=>simp[intOf];omega
  obtain rfl:k=rows.length:=by omega
  go_wp2
  go_ret
  rw[List.take_length] at hpre hinn
  exact⟨_,rfl,he,ss,HW.out,hssl,Own.of_blk hblk (Nat.le_refl _) hsz (CO HW.out hssl) (Nat.le_refl _) (by unfold maxLen;omega) hpre,hinn.mono oM⟩
theorem bQ2(w:World)(va vb:Value)(rows:List wK)(ha:Ll 2 w va rows)(hb:Ll 2 w vb rows):Calls Tryz.prog 150 #[va,vb] w (Fz w (.bool true)):=by
 have hwid:=ha.1
 obtain⟨a,ca,rfl,hca,hm,ha'⟩:=ha.open_
 obtain⟨b,cb,rfl,_,_,hb'⟩:=hb.open_
 have HA:=Lib.hid ha';have HB:=Lib.hid hb';have HW:=Lib.hid hwid
 clear ha' hb' ha hb hwid
 unfold maxLen at hm
 go_enter Tryz.func150,Tryz.ntmps150
 go_wp2
 go_loopw [5] (fun i wr=>∃k:Nat,k<=rows.length/\i=.int .i64 k/\Ext w wr) (fun i _=>rows.length - (intOf i).toNat)
 case atStart=>exact⟨0,Nat.zero_le _,rfl,Ext.refl _⟩
 case round =>
  obtain⟨k,hk,rfl,he⟩:=hrel
  by_cases hlt:k<rows.length
  .
   obtain⟨r,b1,o1,s,hr,rfl,_,hci,hcs,hin0⟩:=HA.out k hlt
   obtain⟨r2,b2,o2,t,hr2,rfl,_,hci2,hcs2,hin2⟩:=HB.out k hlt
   obtain rfl:r=r2:=by rw[hr] at hr2;exact Option.some.inj hr2
   have hrw:=HW.out r (List.mem_of_getElem? hr)
   obtain⟨x0,hx0⟩:∃u,r.1[0]?=some u:=⟨_,List.getElem?_eq_getElem (by rw[hrw];decide)⟩
   have d0:=he.cell (hci 0 _ hx0)
   obtain⟨x1,hx1⟩:∃u,r.1[1]?=some u:=⟨_,List.getElem?_eq_getElem (by rw[hrw];decide)⟩
   have d1:=he.cell (hci 1 _ hx1)
   have d2:=he.cell hcs
   simp only[Nat.add_zero,Nat.reduceAdd] at d0 d1 d2
   have d02:=he.cell (hci2 0 _ hx0)
   have d12:=he.cell (hci2 1 _ hx1)
   have d22:=he.cell hcs2
   simp only[Nat.add_zero,Nat.reduceAdd] at d02 d12 d22
   have g1:=hin0.ext he;have g2:=hin2.ext he
   obtain⟨sa,sn,sc,rfl⟩:=g1.shape;obtain⟨ta,tn,tc,rfl⟩:=g2.shape
   clear hci hcs hci2 hcs2 hrw hr hr2 hin0 hin2 hx0 hx1
   go_wp2
   go_region_held3 (fun w'=>Ext wr w'/\w'.cell? ⟨b1,o1+k*3,none⟩=some (.int .i64 x0)/\w'.cell? ⟨b1,o1+k*3+1,none⟩=some (.int .i64 x1)/\w'.cell? ⟨b1,o1+k*3+2,none⟩=some (.slice sa sn sc)/\w'.cell? ⟨b2,o2+k*3,none⟩=some (.int .i64 x0)/\w'.cell? ⟨b2,o2+k*3+1,none⟩=some (.int .i64 x1)/\w'.cell? ⟨b2,o2+k*3+2,none⟩=some (.slice ta tn tc)) (first|exact⟨Ext.drew (Ext.refl _),d0,d1,d2,d02,d12,d22⟩|exact LV (S:=fun w'=>Ext wr w'/\w'.cell? ⟨b1,o1+k*3,none⟩=some (.int .i64 x0)/\w'.cell? ⟨b1,o1+k*3+1,none⟩=some (.int .i64 x1)/\w'.cell? ⟨b1,o1+k*3+2,none⟩=some (.slice sa sn sc)/\w'.cell? ⟨b2,o2+k*3,none⟩=some (.int .i64 x0)/\w'.cell? ⟨b2,o2+k*3+1,none⟩=some (.int .i64 x1)/\w'.cell? ⟨b2,o2+k*3+2,none⟩=some (.slice ta tn tc)) (by assumption) hx (fun a b h x=>⟨h.1.trans x,(h.1.trans x).cell d0,(h.1.trans x).cell d1,(h.1.trans x).cell d2,(h.1.trans x).cell d02,(h.1.trans x).cell d12,(h.1.trans x).cell d22⟩)) ((go_at_call 256;refine(cC2 _ _ _ _ _ r.2 (g1.ext (And.left ‹_›)) (g2.ext (And.left ‹_›))).mono ?_;rintro e w' ⟨rfl,hx⟩))
   go_wp2
   go_roundw
   case rel=>exact⟨k+1,by omega,by go_num,he.trans (And.left ‹_›)⟩
   case measure=>simp[intOf];omega
  go_wp2
  go_ret
  exact⟨rfl,he⟩
theorem bQ3(w:World)(v:Value)(rows:List wK)(left:Int)(h:Ll 2 w v rows)(h0:0<=left)(h1:left<=1048576):Calls Tryz.prog 105 #[v,.int .i64 left] w (Ret w fun v' _=>SzR left (Mj rows) v'):=by
 have hwid:=h.1
 obtain⟨a,ca,rfl,hca,hm,ha⟩:=h.open_
 have HA:=Lib.hid ha;have HW:=Lib.hid hwid
 clear ha h hwid
 unfold maxLen at hm
 by_cases hlt:left<rows.length
 .
  have ht:decide (left - (rows.length:Int)<0)=true:=by simp;omega
  go_enter Tryz.func105,Tryz.ntmps105
  go_wp2
  go_ret
  exact⟨_,rfl,Ext.refl _,.inl ⟨rfl,by unfold Mj;omega⟩⟩
 have ht:decide (left - (rows.length:Int)<0)=false:=by simp;omega
 go_enter Tryz.func105,Tryz.ntmps105
 go_wp2
 clear ht
 go_loopw [1,5] (fun lv i wr=>∃k:Nat,k<=rows.length/\i=.int .i64 k/\(∃z:Int,z=left - rows.length - (((rows.take k).map (fun r=>r.2.length)).sum:Nat)/\0<=z/\lv=.int .i64 z)/\Ext w wr) (fun _ i _=>rows.length - (intOf i).toNat)
 case atStart=>exact⟨0,Nat.zero_le _,rfl,⟨_,by simp,by omega,rfl⟩,Ext.refl _⟩
 case round =>
  obtain⟨k,hk,rfl,⟨z,hz,hz0,rfl⟩,he⟩:=hrel
  have HZ:=Lib.hid hz;
  by_cases hlt:k<rows.length
  .
   obtain⟨r,b1,o1,s,hr,rfl,_,hci,hcs,hin0⟩:=HA.out k hlt
   have hrw:=HW.out r (List.mem_of_getElem? hr)
   obtain⟨x0,hx0⟩:∃u,r.1[0]?=some u:=⟨_,List.getElem?_eq_getElem (by rw[hrw];decide)⟩
   have d0:=he.cell (hci 0 _ hx0)
   obtain⟨x1,hx1⟩:∃u,r.1[1]?=some u:=⟨_,List.getElem?_eq_getElem (by rw[hrw];decide)⟩
   have d1:=he.cell (hci 1 _ hx1)
   have d2:=he.cell hcs
   simp only[Nat.add_zero,Nat.reduceAdd] at d0 d1 d2
   have hin:=hin0.ext he
   obtain⟨sa,sn,sc,rfl⟩:=hin.shape
   have HK:=Lib.hid hr
   have hz1:z<=1048576:=by omega
   clear hci hcs hrw hr hin0 hz hx0 hx1
   go_wp2_with (first|(go_at_call 206;refine(cC1 _ _ _ _ r.2 r.2.length rfl _ (hin.ext xT) oM oM).mono ?_;rintro e w1 ⟨v1,rfl,hx,hv⟩;rcases hv with⟨rfl,q1⟩|⟨rfl,q1⟩))
   .
    go_ret
    refine⟨_,rfl,he.trans xT,.inl ⟨rfl,?_⟩⟩
    have h2:=II HK.out;have h3:=PW rows (k+1);have h4:=HZ.out
    unfold Mj;omega
   go_roundw
   case rel =>
    have h2:=II HK.out;have h4:=HZ.out
    exact⟨k+1,by omega,by go_num,⟨_,by omega,by omega,rfl⟩,he.trans xT⟩
   case measure=>simp[intOf];omega
  obtain rfl:k=rows.length:=by omega
  clear hz
  go_wp2
  go_ret
  have h4:=HZ.out
  rw[List.take_length] at h4
  refine⟨_,rfl,he,.inr ⟨congrArg (Value.int .i64) ?_,?_⟩⟩ <;> (unfold Mj;omega)
theorem aV4(w:World)(B:Nat)(v:Value)(rows:List wK)(ss:List Value)(q:Int)(h:Px B 255 2 2 w v rows ss)(h0:0<=q)(h1:q+(tot 2 rows:Nat)<=4611686018427387904):Calls Tryz.prog 161 #[v,.int .i64 q] w (IX w (Ep (v::ss)) (.int .i64 (q+(tot 2 rows:Nat))) fun w'=>Px B 255 2 2 w' v (FQ 2 q rows) ss):=by
 obtain⟨a,len,ca,rfl,hlen,hca,hm⟩:∃a len ca,v=.slice a len ca/\rows.length=len/\len<=ca/\ca<=maxLen:=by
  obtain⟨a,len,cap,h2,h3,h4,h5,_⟩:=Own.open_ h.2.2.1
  rw[CO h.1 h.2.1] at h3
  exact⟨a,len,cap,h2,Nat.eq_of_mul_eq_mul_right oM h3,h4,h5⟩
 subst hlen
 have hssl:=h.2.1
 have HO:=Lib.hid h
 clear h
 unfold maxLen at hm
 go_enter Tryz.func161,Tryz.ntmps161
 go_wp2
 go_loopw [1,5] (fun kk i wr=>∃k:Nat,k<=rows.length/\i=.int .i64 k/\(∃q':Int,q'=q+(tot 2 (rows.take k):Nat)/\kk=.int .i64 q')/\Upd w wr (Ep (.slice a rows.length ca::ss))/\Px B 255 2 2 wr (.slice a rows.length ca) ((FQ 2 q rows).take k++rows.drop k) ss) (fun _ i _=>rows.length - (intOf i).toNat)
 case atStart=>exact⟨0,Nat.zero_le _,rfl,⟨q,by simp[tot],rfl⟩,Upd.refl _ _,by simpa using HO.out⟩
 case round =>
  obtain⟨k,hk,rfl,⟨q',hq',rfl⟩,he,hown⟩:=hrel
  by_cases hlt:k<rows.length
  .
   have hr:rows[k]?=some rows[k]:=List.getElem?_eq_getElem hlt
   have hml:=KH 2 q rows
   have hmx:=aI0 hml hr
   obtain⟨s,hs⟩:∃s,ss[k]?=some s:=⟨_,List.getElem?_eq_getElem oM⟩
   obtain⟨L,hLr⟩:∃L,L=(rows[k]).2.length:=⟨_,rfl⟩
   have hm0:=WZ (n:=2) (q:=q) hr
   rw[<-hq',<-hLr] at hm0
   have hstep:=ZO hml hm0
   have ht1:=ZN (n:=2) hr
   have ht2:=aT3 (n:=2) rows (k+1)
   rw[<-hLr] at ht1
   have hq0:0<=q'/\q'+2+L<=4611686018427387904:=by omega
   obtain⟨hq1,hq2⟩:=hq0
   have hsown:Ba B 2 1 wr s (rows[k]).2:=hown.2.2.2.own k s _ hs hmx
   obtain⟨sa,sn,sc,rfl⟩:=hsown.shape
   obtain⟨a',len',cap',hv,hcl,hc1,hc2,hcase⟩:=Own.open_ hown.2.2.1
   injection hv with hv1 hv2 hv3
   subst hv1;subst hv2;subst hv3
   have hnl:=CO hown.1 (by rw[hown.2.1])
   rcases hcase with hz|⟨g,cur,rfl,hBg,hblk,hcsz,hpre⟩
   .
    omega
   have hcell_s:cur[k*3+2]?=some (.slice sa sn sc):=by
    have h5:=QS hown.1 hmx hs
    rw[<-h5]
    have:=Av hlt 3
    exact hpre _ oM
   have HC:=Lib.hid hc1
   have d2:wr.cell? ⟨g,k*3+2,none⟩=some (.slice sa sn sc):=by rw[hblk.cell];exact hcell_s
   obtain⟨z0,g0⟩:∃z,wr.cell? ⟨g,k*3,none⟩=some z:=⟨_,by rw[hblk.cell];exact Array.getElem?_eq_getElem (by have:=HC.out;have:=Av hlt 3;have:=hcsz;omega)⟩
   have f0:=hblk.frozen (k*3)
   obtain⟨z1,g1⟩:∃z,wr.cell? ⟨g,k*3+1,none⟩=some z:=⟨_,by rw[hblk.cell];exact Array.getElem?_eq_getElem (by have:=HC.out;have:=Av hlt 3;have:=hcsz;omega)⟩
   have f1:=hblk.frozen (k*3+1)
   have HQ:=Lib.hid hq';have HT:=Lib.hid ht1;have HH:=Lib.hid hown;have HST:=Lib.hid hstep;have HMX:=Lib.hid hmx;have HSS:=Lib.hid hs;have HLR:=Lib.hid hLr;have HCS:=Lib.hid hcsz;have HPRE:=Lib.hid hpre
   clear hm0 hq' ht1 ht2 hr hml hmx hs hstep hown hcell_s hcl hnl hLr hcsz hpre
   have o0:=HH.out;have m0:((FQ 2 q rows).take k++rows.drop k)[k]?=some ((rows[k]).1,(rows[k]).2):=HMX.out
   have hkl:k<((FQ 2 q rows).take k++rows.drop k).length:=(List.getElem?_eq_some_iff.1 m0).1
   have o1:Px B 255 2 2 (wr.setCell ⟨g,k*3,none⟩ (.int .i64 q')) (.slice (some ⟨g,0,none⟩) rows.length ca) (((FQ 2 q rows).take k++rows.drop k).set k (((rows[k]).1.set 0 (q')),(rows[k]).2)) ss:=by have h:=o0.set_int m0 (j:=0) oM (q');simpa[List.set_set] using h
   have m1:(((FQ 2 q rows).take k++rows.drop k).set k (((rows[k]).1.set 0 (q')),(rows[k]).2))[k]?=some (((rows[k]).1.set 0 (q')),(rows[k]).2):=by rw[List.getElem?_set_self hkl]
   have o2:Px B 255 2 2 ((wr.setCell ⟨g,k*3,none⟩ (.int .i64 q')).setCell ⟨g,k*3+1,none⟩ (.int .i64 (q'+1))) (.slice (some ⟨g,0,none⟩) rows.length ca) (((FQ 2 q rows).take k++rows.drop k).set k ((((rows[k]).1.set 0 (q')).set 1 (q'+1)),(rows[k]).2)) ss:=by have h:=o1.set_int m1 (j:=1) oM (q'+1);simpa[List.set_set] using h
   have m2:(((FQ 2 q rows).take k++rows.drop k).set k ((((rows[k]).1.set 0 (q')).set 1 (q'+1)),(rows[k]).2))[k]?=some ((((rows[k]).1.set 0 (q')).set 1 (q'+1)),(rows[k]).2):=by rw[List.getElem?_set_self hkl]
   have hso:Ba B 2 1 ((wr.setCell ⟨g,k*3,none⟩ (.int .i64 q')).setCell ⟨g,k*3+1,none⟩ (.int .i64 (q'+1))) (.slice sa sn sc) (rows[k]).2:=o2.2.2.2.own k _ ((((rows[k]).1.set 0 (q')).set 1 (q'+1)),(rows[k]).2) HSS.out m2
   have hup:Upd wr ((wr.setCell ⟨g,k*3,none⟩ (.int .i64 q')).setCell ⟨g,k*3+1,none⟩ (.int .i64 (q'+1))) (Ep ((.slice (some ⟨g,0,none⟩) rows.length ca)::ss)):=(((((Upd.refl wr _)).setCell (by simp[Ep,Value.ownBlock]) _)).setCell (by simp[Ep,Value.ownBlock]) _)
   have O:=Lib.hid o2;have MM:=Lib.hid m2;have HSO:=Lib.hid hso;have HUP:=Lib.hid hup;clear o0 m0 o1 m1 o2 m2 hso hup hsown
   go_wp2_with (first|(go_at_call 19;refine(OQ _ B _ _ L (by have:=HLR.out;omega) _ HSO.out oM oM).mono ?_;rintro e w1 ⟨rfl,hx,hg⟩))
   go_roundw
   case rel =>
    have h3:=HT.out;have h4:=HQ.out
    have hO:Px B 255 2 2 w1 (.slice (some ⟨g,0,none⟩) rows.length ca) ((FQ 2 q rows).take (k+1)++rows.drop (k+1)) ss:=by
     rw[HST.out]
     have h6:=O.out.set_row MM.out HSS.out hx (xs:=run (q'+2) L) (by rw[show q'+2=q'+1+1 from by omega];exact hg)
     have h7:((rows[k]).1:List Int).length=2:=HO.out.1 _ (List.getElem_mem hlt)
     obtain⟨y0,y1,h8⟩:∃y0 y1,(rows[k]).1=[y0,y1]:=by match (rows[k]).1,h7 with|[y0,y1],_=>exact⟨y0,y1,rfl⟩
     rw[h8] at h6
     simpa[run,List.set_set,Int.add_assoc] using h6
    exact⟨k+1,by omega,by go_num,⟨_,by omega,rfl⟩,(he.trans (HUP.out.trans (hx.more (fun x hx'=>OY HSS.out hx')))),hO⟩
   case measure=>simp[intOf];omega
  obtain rfl:k=rows.length:=by omega
  have HQ:=Lib.hid hq'
  clear hq'
  go_wp2
  go_ret
  have h4:=HQ.out
  rw[List.take_length] at h4
  refine⟨congrArg (fun z=>Ending.returned (.int .i64 z)) h4,he,?_⟩
  rw[List.drop_length,List.append_nil] at hown
  have:=KH 2 q rows
  rwa [List.take_of_length_le oM] at hown
def NE(w:World)(v:Value)(l:List wK):Prop:=Ll 2 w v l
def EZ(B:Nat)(w:World)(v:Value)(l:List wK)(F:List Nat):Prop:=∃ss:List Value,Px B 255 2 2 w v l ss/\F=Ep (v::ss)
def YT(l:List wK):Nat:=tot 2 l
def XF(B:Nat)(w:World)(v:Value)(l:List wK)(F:List Nat)(q:Int):Prop:=∃ss:List Value,Px B 255 2 2 w v (FQ 2 q l) ss/\F=Ep (v::ss)
section
variable {B B':Nat} {w w':World} {v:Value} {l:List wK} {F:List Nat} {q:Int}
theorem NE.shape(h:NE w v l):∃a n k,v=.slice a n k:=Ll.shape h
theorem NE.ext(h:NE w v l)(x:Ext w w'):NE w' v l:=Ll.ext h x
theorem EZ.of(h:DZ B 255 2 2 w v l):∃F,EZ B w v l F:=let ⟨ss,h⟩:=h;⟨_,ss,h,rfl⟩
theorem EZ.rd(h:EZ B w v l F):NE w v l:=let ⟨_,h,_⟩:=h;h.nest
theorem EZ.ext(h:EZ B w v l F)(x:Ext w w'):EZ B w' v l F:=let ⟨s,h,e⟩:=h;⟨s,h.ext x,e⟩
theorem EZ.keep(h:EZ B w v l F)(x:Chg B w w'):EZ B w' v l F:=let ⟨s,h,e⟩:=h;⟨s,h.keep x,e⟩
theorem EZ.mono(h:EZ B w v l F)(x:B'<=B):EZ B' w v l F:=let ⟨s,h,e⟩:=h;⟨s,h.mono x,e⟩
theorem EZ.upd(h:EZ B w v l F){fs:List Nat}(x:Upd w w' fs)(hn:∀k,k ∈ F->k ∈ fs->False):EZ B w' v l F:=by
 obtain⟨s,h,rfl⟩:=h
 exact⟨s,h.upd x hn,rfl⟩
theorem EZ.low(h:EZ B w v l F):∀k,k ∈ F->B<=k/\k<w.heap.size:=by
 obtain⟨s,h,rfl⟩:=h
 exact h.foot
theorem XF.ext(h:XF B w v l F q)(x:Ext w w'):XF B w' v l F q:=let ⟨s,h,e⟩:=h;⟨s,h.ext x,e⟩
theorem cD7(h:NE w v l)(q0:Mj l<=1048576):Calls Tryz.prog 129 #[v] w (Ret w fun v' w'=>∃F,EZ w.heap.size w' v' l F):=by
 refine(bQ1 w v _ h q0).mono ?_
 rintro e w'⟨_,rfl,hx,g⟩
 exact⟨_,rfl,hx,EZ.of g⟩
theorem cD8(h:NE w v l){left:Int}(h0:0<=left)(h1:left<=1048576):Calls Tryz.prog 105 #[v,.int .i64 left] w (Ret w fun v' _=>SzR left (Mj l) v'):=bQ3 w v _ left h h0 h1
theorem cD9{u:Value}(h:NE w v l)(k:NE w u l):Calls Tryz.prog 150 #[v,u] w (Fz w (.bool true)):=bQ2 w v u _ h k
theorem bF9(h:EZ B w v l F)(hq0:0<=q)(hq1:q+(YT l:Nat)<=4611686018427387904):Calls Tryz.prog 161 #[v,.int .i64 q] w (IX w F (.int .i64 (q+(YT l:Nat))) fun w'=>XF B w' v l F q):=by
 obtain⟨s,h,rfl⟩:=h
 refine(aV4 w B v _ s q h hq0 hq1).mono ?_
 rintro e w'⟨rfl,hx,g⟩
 exact⟨rfl,hx,s,g,rfl⟩
end
theorem cJ5{p:Prop}(h:p:=by intro KQ hKQ;(repeat (first|go_big_quiet_skip|(go_big_quiet_want;first|(refine Hn _ _ _ ?_ rfl rfl (fun wq hq=>?_) ?_;rotate_left;(focus(have q0:=hq.cell d0;have q1:=hq.cell d1;go_simp;first|done|rfl));(try simp only[Ak,Act.put]);go_big_quiet_on)|(go_big_quiet_op;first|go_big_quiet_on|(refine⟨_,fun _ _=>rfl,?_⟩;go_big_quiet_on)|(apply Exists.intro;refine⟨fun wq hq=>?_,?_⟩;(focus(first|exact Ma hq (by have c:=aI4 wq d.Id;rw[hid] at c;exact c)));go_big_quiet_on)))));exact wpQuiet_nil hKQ):p:=h
theorem bQ4{p:Prop}(h:p:=by intro KQ hKQ;(repeat (first|go_big_quiet_skip|(go_big_quiet_want;first|(refine Hn _ _ _ ?_ rfl rfl (fun wq hq=>?_) ?_;rotate_left;(focus(have q0:=hq.cell d0;have q1:=hq.cell d1;go_simp;first|done|rfl));(try simp only[Ak,Act.put]);go_big_quiet_on)|(go_big_quiet_op;first|go_big_quiet_on|(refine⟨_,fun _ _=>rfl,?_⟩;go_big_quiet_on)|(apply Exists.intro;refine⟨fun wq hq=>?_,?_⟩;(focus(first|exact Ma hq (by have c:=aI4 wq d.Id;rw[hid] at c;exact c)|exact Ma hq (by have c:=BK wq d.Due;rw[htm] at c;exact c)));go_big_quiet_on)))));exact wpQuiet_nil hKQ):p:=h
theorem bQ5{p:Prop}(h:p:=by intro KQ hKQ;(repeat (first|go_big_quiet_skip|(go_big_quiet_want;first|(refine Hn _ _ _ ?_ rfl rfl (fun wq hq=>?_) ?_;rotate_left;(focus(have q0:=hq.cell d0;have q1:=hq.cell d1;have p0:=hq.cell e0;have p1:=hq.cell e1;go_simp;first|done|rfl));(try simp only[Ak,Act.put]);go_big_quiet_on)|(go_big_quiet_op;first|go_big_quiet_on|(refine⟨_,fun _ _=>rfl,?_⟩;go_big_quiet_on)|(apply Exists.intro;refine⟨fun wq hq=>?_,?_⟩;(focus(first|exact Ma hq (by have c:=aI4 wq d.Id;rw[hid] at c;exact c)|exact Ma hq (by have c:=BK wq d.Due;rw[htm] at c;exact c)|exact Tu hq (by have c:=aI3 wq e d;rw[hls] at c;exact c)));go_big_quiet_on)))));exact wpQuiet_nil hKQ):p:=h
theorem aF1(w:World)(v:Value)(l:List DO)(h:Aw 2 w v (KF l)):Calls Tryz.prog 419 #[v] w (Fz w (.bool (QN l))):=by
 obtain⟨a,cap,rfl,hcap,hm,ha⟩:=h.recs (f:=DO.ints) (fun _=>rfl) dC
 have HA:=Lib.hid ha
 clear ha
 unfold maxLen at hm
 by_cases h8:8<l.length
 .
  rw[BX (fun hh=>by have:=hh.1;omega)]
  go_enter Tryz.func419,Tryz.ntmps419
  go_wp2
  go_ret
  exact⟨rfl,Ext.refl _⟩
 have h8':decide ((8:Int)<(l.length:Int))=false:=by simp;omega
 go_enter Tryz.func419,Tryz.ntmps419
 go_wp2
 go_loopw [3] (fun i wr=>∃k:Nat,k<=l.length/\i=.int .i64 k/\Ext w wr/\∀i,i<k->VD l i) (fun i _=>l.length - (intOf i).toNat)
 case atStart=>exact⟨0,Nat.zero_le _,rfl,Ext.refl _,fun i hi=>by omega⟩
 case round =>
  obtain⟨k,hk,rfl,he,hok⟩:=hrel
  have HO:=Lib.hid hok
  clear hok
  by_cases hlt:k<l.length
  .
   obtain⟨d,b1,o1,hd,rfl,hb1,c⟩:=HA.out k hlt
   have d0:=he.cell (c 0 _ dC rfl)
   have d1:=he.cell (c 1 _ dC rfl)
   simp only[Nat.add_zero] at d0
   have HD:=Lib.hid hd
   clear c hd
   cases hid:SS d.Id
   .
    go_wp2
    refine rx0 cJ5 fun w1 hx1=>?_
    go_wp2
    go_ret
    exact⟨congrArg (fun z=>Ending.returned (.bool z)) (BX (fun hh=>by have:=(hh.2 k hlt d HD.out).1;rw[hid] at this;cases this)).symm,he.trans hx1⟩
   cases htm:wZ d.Due
   .
    go_wp2
    refine rx0 bQ4 fun w1 hx1=>?_
    go_wp2
    go_ret
    exact⟨congrArg (fun z=>Ending.returned (.bool z)) (BX (fun hh=>by have:=(hh.2 k hlt d HD.out).2.1;rw[htm] at this;cases this)).symm,he.trans hx1⟩
   have hnext:(∀e,0<k->l[k - 1]?=some e->IF e d=true)->(∀i e,i<k->l[i]?=some e->e.Id≠d.Id)->∀i,i<k+1->VD l i:=by
    intro n1 n2 i hi
    by_cases hik:i=k
    .
     subst hik
     intro d' hd'
     rw[HD.out] at hd'
     obtain rfl:=Option.some.inj hd'
     exact⟨hid,htm,n1,n2⟩
    exact HO.out i oM
   have HN:=Lib.hid hnext
   clear hnext
   have hdup:∀i e,i<k->l[i]?=some e->e.Id=d.Id->QN l=false:=fun i e hi he' hh=>BX (fun ho=>(ho.2 k hlt d HD.out).2.2.2 i e hi he' hh)
   have HU:=Lib.hid hdup
   clear hdup
   by_cases hk0:k=0
   .
    subst hk0
    simp only[Nat.zero_mul,Nat.add_zero] at d0 d1
    go_wp2
    refine rx0 bQ4 fun w1 hx1=>?_
    go_wp2
    go_loopw [4] (fun i wr'=>i=.int .i64 0/\Ext wr wr') (fun _ _=>0)
    case atStart=>exact⟨rfl,hx1⟩
    case round =>
     obtain⟨rfl,he'⟩:=hrel
     go_wp2
     go_roundw
     case rel=>exact⟨1,by omega,rfl,he.trans he',HN.out (fun e h=>by omega) (fun i e h=>by omega)⟩
     case measure=>simp[intOf];omega
   obtain⟨e,b2,o2,hde,hbo,_,c⟩:=HA.out (k - 1) oM
   obtain⟨rfl,rfl⟩:b1=b2/\o1=o2:=by simpa using hbo
   have e0:=he.cell (c 0 _ dC rfl)
   have e1:=he.cell (c 1 _ dC rfl)
   simp only[Nat.add_zero] at e0
   have HE:=Lib.hid hde
   clear c hde hbo
   have hk1:decide (0<k)=true:=by simp;omega
   cases hls:IF e d
   .
    go_wp2
    refine rx0 bQ5 fun w1 hx1=>?_
    go_wp2
    go_ret
    exact⟨congrArg (fun z=>Ending.returned (.bool z)) (BX (fun hh=>by have:=(hh.2 k hlt d HD.out).2.2.1 e oM HE.out;rw[hls] at this;cases this)).symm,he.trans hx1⟩
   go_wp2
   refine rx0 bQ5 fun w1 hx1=>?_
   go_wp2
   go_loopw [4] (fun i wr'=>∃m:Nat,m<=k/\i=.int .i64 m/\Ext wr wr'/\∀i e,i<m->l[i]?=some e->e.Id≠d.Id) (fun i _=>k - (intOf i).toNat)
   case atStart=>exact⟨0,by omega,rfl,hx1,fun i e h=>by omega⟩
   case round =>
    obtain⟨m,hm',rfl,he',hno⟩:=hrel
    have HM:=Lib.hid hno
    clear hno
    by_cases hmk:m<k
    .
     obtain⟨g,b2,o2,hdg,hbo,_,c⟩:=HA.out m oM
     obtain⟨rfl,rfl⟩:b1=b2/\o1=o2:=by simpa using hbo
     have g0:=(he.trans he').cell (c 0 _ dC rfl)
     have f0:=he'.cell d0
     simp only[Nat.add_zero] at g0
     have HG:=Lib.hid hdg
     clear c hdg hbo
     by_cases heq:g.Id=d.Id
     .
      have hb:(g.Id == d.Id)=true:=by simpa using heq
      have HEQ:=Lib.hid heq
      clear heq
      go_wp2
      go_quiet (fail)
      go_wp2
      go_ret
      exact⟨congrArg (fun z=>Ending.returned (.bool z)) (HU.out m g hmk HG.out HEQ.out).symm,(he.trans he').drewN _⟩
     have hb:(g.Id == d.Id)=false:=by simpa using heq
     go_wp2
     go_quiet (fail)
     go_wp2
     go_roundw
     case rel=>
      refine⟨m+1,by omega,by go_num,he'.drewN _,fun i e' hi hl=>?_⟩
      by_cases him:i=m
      .
       subst him
       rw[HG.out] at hl
       obtain rfl:=Option.some.inj hl
       exact heq
      exact HM.out i e' oM hl
     case measure=>simp[intOf];omega
    obtain rfl:m=k:=by omega
    go_wp2
    go_roundw
    case rel=>exact⟨m+1,by omega,by go_num,he.trans he',HN.out (fun e' _ hl=>by rw[HE.out] at hl;obtain rfl:=Option.some.inj hl;exact hls) HM.out⟩
    case measure=>simp[intOf];omega
  obtain rfl:k=l.length:=by omega
  go_wp2
  go_ret
  exact⟨congrArg (fun z=>Ending.returned (.bool z)) (TA ⟨by omega,HO.out⟩).symm,he⟩
theorem ZZ(w:World)(x:Int):Calls Tryz.prog 418 #[.int .i64 x] w fun e w'=>e=.returned (.bool (DY x))/\w=w':=by
 by_cases h2:x=2
 .
  subst h2
  go_enter Tryz.func418,Tryz.ntmps418
  go_wp2
  go_ret
  exact⟨rfl,rfl⟩
 have e2:(x == 2)=false:=by simpa using h2
 by_cases h3:x=3
 .
  subst h3
  go_enter Tryz.func418,Tryz.ntmps418
  go_wp2
  go_ret
  exact⟨rfl,rfl⟩
 have e3:(x == 3)=false:=by simpa using h3
 go_enter Tryz.func418,Tryz.ntmps418
 go_wp2
 go_ret
 exact⟨by simp[DY,e2,e3],rfl⟩
theorem bQ6(w:World)(x:Int):Calls Tryz.prog 175 #[.int .i64 x] w fun e w'=>e=.returned (.bool (DY x))/\w=w':=by
 by_cases h2:x=2
 .
  subst h2
  go_enter Tryz.func175,Tryz.ntmps175
  go_wp2
  go_ret
  exact⟨rfl,rfl⟩
 have e2:(x == 2)=false:=by simpa using h2
 by_cases h3:x=3
 .
  subst h3
  go_enter Tryz.func175,Tryz.ntmps175
  go_wp2
  go_ret
  exact⟨rfl,rfl⟩
 have e3:(x == 3)=false:=by simpa using h3
 go_enter Tryz.func175,Tryz.ntmps175
 go_wp2
 go_ret
 exact⟨by simp[DY,e2,e3],rfl⟩
theorem OU(w:World)(x:Int):Calls Tryz.prog 170 #[.int .i64 x] w fun e w'=>e=.returned (.bool (DY x))/\w=w':=by
 by_cases h2:x=2
 .
  subst h2
  go_enter Tryz.func170,Tryz.ntmps170
  go_wp2
  go_ret
  exact⟨rfl,rfl⟩
 have e2:(x == 2)=false:=by simpa using h2
 by_cases h3:x=3
 .
  subst h3
  go_enter Tryz.func170,Tryz.ntmps170
  go_wp2
  go_ret
  exact⟨rfl,rfl⟩
 have e3:(x == 3)=false:=by simpa using h3
 go_enter Tryz.func170,Tryz.ntmps170
 go_wp2
 go_ret
 exact⟨by simp[DY,e2,e3],rfl⟩
theorem aV5(w:World)(j:VS)(s:Value)(h:Aw 2 w s (KF j.Open)):Calls Tryz.prog 390 #[.agg #[.int .i64 j.Index,.int .i64 j.Time,.int .i64 j.Holder,.int .i64 j.Epoch,.int .i64 j.Until,s]] w (Fz w (.bool (GX j))):=by
 obtain⟨a,n,c,rfl⟩:=h.shape
 by_cases hH:j.Holder=0
 .
  have hH':(j.Holder == 0)=true:=by simpa using hH
  clear hH
  go_enter Tryz.func390,Tryz.ntmps390
  go_wp2_with (first|(go_at_call 303;refine(wR _ _ _ _).mono ?_;rintro e w1 ⟨rfl,rfl⟩)|(go_at_call 207;refine(BK _ _).mono ?_;rintro e w1 ⟨rfl,rfl⟩)|(go_at_call 418;refine(ZZ _ _).mono ?_;rintro e w1 ⟨rfl,rfl⟩)|(go_at_call 419;refine(aF1 _ _ _ (h.ext xT)).mono ?_;rintro e w1 ⟨rfl,hx1⟩))
  all_goals
   go_ret
   refine⟨congrArg (fun z=>Ending.returned (.bool z)) ?_,?_⟩
   .
    simp[GX, *]
   exact xT
 have hH':(j.Holder == 0)=false:=by simpa using hH
 clear hH
 go_enter Tryz.func390,Tryz.ntmps390
 go_wp2_with (first|(go_at_call 303;refine(wR _ _ _ _).mono ?_;rintro e w1 ⟨rfl,rfl⟩)|(go_at_call 207;refine(BK _ _).mono ?_;rintro e w1 ⟨rfl,rfl⟩)|(go_at_call 418;refine(ZZ _ _).mono ?_;rintro e w1 ⟨rfl,rfl⟩)|(go_at_call 419;refine(aF1 _ _ _ (h.ext xT)).mono ?_;rintro e w1 ⟨rfl,hx1⟩))
 all_goals
  go_ret
  refine⟨congrArg (fun z=>Ending.returned (.bool z)) ?_,?_⟩
  .
   simp[GX, *]
  exact xT
theorem zb(w:World):(zeroValue 4).run Tryz.prog w=.ok (.bool false) w:=by kernel_rfl
theorem aO5(w:World)(j:VS)(s:Value)(h:Aw 2 w s (KF j.Open))(hbad:¬ (inb j.Index 0 2000=true/\wZ j.Time=true/\(j.Holder == 0||DY j.Holder)=true/\inb j.Epoch 0 1000=true/\inb j.Until 0 1001000=true/\j.Open.length<=8)):Calls Tryz.prog 408 #[.agg #[.int .i64 j.Index,.int .i64 j.Time,.int .i64 j.Holder,.int .i64 j.Epoch,.int .i64 j.Until,s]] w (Fz w (.bool (GX j))):=by
 obtain⟨a,cap,rfl,hcap,hm,ha⟩:=h.recs (f:=DO.ints) (fun _=>rfl) dC
 have HA:=Lib.hid ha
 clear ha
 unfold maxLen at hm
 have hmm:=@run_makeMap Tryz.prog
 have hb0:GX j=false:=by
  have e8:¬ j.Open.length<=8->QN j.Open=false:=fun hn=>BX (fun hh=>hn hh.1)
  cases h1:inb j.Index 0 2000 <;> cases h2:wZ j.Time <;> cases h3:(j.Holder == 0||DY j.Holder) <;> cases h4:inb j.Epoch 0 1000 <;> cases h5:inb j.Until 0 1001000 <;> simp only[GX,h1,h2,h3,h4,h5,Bool.false_and,Bool.and_false,Bool.true_and]
  exact e8 (fun h8=>hbad ⟨h1,h2,h3,h4,h5,h8⟩)
 rw[hb0]
 have HBD:=Lib.hid hbad
 clear hb0 hbad
 by_cases hH:j.Holder=0
 .
  have hH':(j.Holder == 0)=true:=by simpa using hH
  have hH2:(j.Holder != 0)=false:=by simpa using hH
  clear hH
  go_enter Tryz.func408,Tryz.ntmps408
  go_wp2_with (first|(go_at_call 176;refine(Og _ _ _ _).mono ?_;rintro e w1 ⟨rfl,rfl⟩)|(go_at_call 177;refine(AT _ _).mono ?_;rintro e w1 ⟨rfl,rfl⟩)|(go_at_call 170;refine(OU _ _).mono ?_;rintro e w1 ⟨rfl,rfl⟩))
  all_goals try(go_ret;refine⟨rfl,?_⟩;(exact xT);done)
  exfalso
  refine HBD.out ⟨?_,?_,?_,?_,?_,?_⟩
  all_goals first|assumption|omega|(rw[Bool.or_eq_true];first|exact .inl hH'|exact .inr (by simpa using ‹(!DY j.Holder)=false›))
 have hH':(j.Holder == 0)=false:=by simpa using hH
 have hH2:(j.Holder != 0)=true:=by simpa using hH
 clear hH
 go_enter Tryz.func408,Tryz.ntmps408
 go_wp2_with (first|(go_at_call 176;refine(Og _ _ _ _).mono ?_;rintro e w1 ⟨rfl,rfl⟩)|(go_at_call 177;refine(AT _ _).mono ?_;rintro e w1 ⟨rfl,rfl⟩)|(go_at_call 170;refine(OU _ _).mono ?_;rintro e w1 ⟨rfl,rfl⟩))
 all_goals try(go_ret;refine⟨rfl,?_⟩;(exact xT);done)
 exfalso
 refine HBD.out ⟨?_,?_,?_,?_,?_,?_⟩
 all_goals first|assumption|omega|(rw[Bool.or_eq_true];first|exact .inl hH'|exact .inr (by simpa using ‹(!DY j.Holder)=false›))
theorem bQ7{p:Prop}(h:p:=by intro KQ hKQ;(repeat (first|go_big_quiet_skip|(go_big_quiet_want;first|(refine Hn _ _ _ ?_ rfl rfl (fun wq hq=>?_) ?_;rotate_left;(focus(have q0:=hq.cell x0;have q1:=hq.cell x1;go_simp;first|done|rfl));(try simp only[Ak,Act.put]);go_big_quiet_on)|(refine KE _ _ _ _ _ ?_ rfl rfl rfl (fun wq hq=>?_) ?_;rotate_left;(focus(fail));(try simp only[Ak,Act.put]);go_big_quiet_on)|(go_big_quiet_op;first|go_big_quiet_on|(refine⟨_,fun _ _=>rfl,?_⟩;go_big_quiet_on)|(apply Exists.intro;refine⟨fun wq hq=>?_,?_⟩;(focus(first|exact Ma hq (by have c:=VG wq d.Id;rw[hid] at c;exact c)));go_big_quiet_on)))));exact wpQuiet_nil hKQ):p:=h
theorem bQ8{p:Prop}(h:p:=by intro KQ hKQ;(repeat (first|go_big_quiet_skip|(go_big_quiet_want;first|(refine Hn _ _ _ ?_ rfl rfl (fun wq hq=>?_) ?_;rotate_left;(focus(have q0:=hq.cell x0;have q1:=hq.cell x1;go_simp;first|done|rfl));(try simp only[Ak,Act.put]);go_big_quiet_on)|(refine KE _ _ _ _ _ ?_ rfl rfl rfl (fun wq hq=>?_) ?_;rotate_left;(focus(fail));(try simp only[Ak,Act.put]);go_big_quiet_on)|(go_big_quiet_op;first|go_big_quiet_on|(refine⟨_,fun _ _=>rfl,?_⟩;go_big_quiet_on)|(apply Exists.intro;refine⟨fun wq hq=>?_,?_⟩;(focus(first|exact Ma hq (by have c:=VG wq d.Id;rw[hid] at c;exact c)|exact Ma hq (by have c:=AT wq d.Due;rw[htm] at c;exact c)));go_big_quiet_on)))));exact wpQuiet_nil hKQ):p:=h
theorem aJ1{p:Prop}(h:p:=by intro KQ hKQ;(repeat (first|go_big_quiet_skip|(go_big_quiet_want;first|(refine Hn _ _ _ ?_ rfl rfl (fun wq hq=>?_) ?_;rotate_left;(focus(have q0:=hq.cell x0;have q1:=hq.cell x1;go_simp;first|done|rfl));(try simp only[Ak,Act.put]);go_big_quiet_on)|(refine KE _ _ _ _ _ ?_ rfl rfl rfl (fun wq hq=>?_) ?_;rotate_left;(focus(exact(by have c:=(hset'.ext hq).look (t:=407) Tryz.underlying2 Tryz.underlying407 Tryz.underlying4 (zb _) hw;rw[hnu] at c;exact c)));(try simp only[Ak,Act.put]);go_big_quiet_on)|(go_big_quiet_op;first|go_big_quiet_on|(refine⟨_,fun _ _=>rfl,?_⟩;go_big_quiet_on)|(apply Exists.intro;refine⟨fun wq hq=>?_,?_⟩;(focus(first|exact Ma hq (by have c:=VG wq d.Id;rw[hid] at c;exact c)|exact Ma hq (by have c:=AT wq d.Due;rw[htm] at c;exact c)));go_big_quiet_on)))));exact wpQuiet_nil hKQ):p:=h
theorem aJ2{p:Prop}(h:p:=by intro KQ hKQ;(repeat (first|go_big_quiet_skip|(go_big_quiet_want;first|(refine Hn _ _ _ ?_ rfl rfl (fun wq hq=>?_) ?_;rotate_left;(focus(have q0:=hq.cell x0;have q1:=hq.cell x1;have q2:=hq.cell jb';have p0:=hq.cell e0';have p1:=hq.cell e1';go_simp;first|done|rfl));(try simp only[Ak,Act.put]);go_big_quiet_on)|(refine KE _ _ _ _ _ ?_ rfl rfl rfl (fun wq hq=>?_) ?_;rotate_left;(focus(exact(by have c:=(hset'.ext hq).look (t:=407) Tryz.underlying2 Tryz.underlying407 Tryz.underlying4 (zb _) hw;rw[hnu] at c;exact c)));(try simp only[Ak,Act.put]);go_big_quiet_on)|(go_big_quiet_op;first|go_big_quiet_on|(refine⟨_,fun _ _=>rfl,?_⟩;go_big_quiet_on)|(apply Exists.intro;refine⟨fun wq hq=>?_,?_⟩;(focus(first|exact Ma hq (by have c:=VG wq d.Id;rw[hid] at c;exact c)|exact Ma hq (by have c:=AT wq d.Due;rw[htm] at c;exact c)|exact Tu hq (by have c:=bE2 wq e d;rw[hls] at c;exact c)));go_big_quiet_on)))));exact wpQuiet_nil hKQ):p:=h
theorem aJ3(w:World)(j:VS)(s:Value)(h:Aw 2 w s (KF j.Open))(h1:inb j.Index 0 2000=true)(h2:wZ j.Time=true)(h3:(j.Holder == 0)=true)(h4:inb j.Epoch 0 1000=true)(h5:inb j.Until 0 1001000=true)(h8:j.Open.length<=8):Calls Tryz.prog 408 #[.agg #[.int .i64 j.Index,.int .i64 j.Time,.int .i64 j.Holder,.int .i64 j.Epoch,.int .i64 j.Until,s]] w (Fz w (.bool (GX j))):=by
 obtain⟨a,cap,rfl,hcap,hm,ha⟩:=h.recs (f:=DO.ints) (fun _=>rfl) dC
 have HA:=Lib.hid ha
 clear ha
 unfold maxLen at hm
 have hmm:=@run_makeMap Tryz.prog
 have hb0:GX j=QN j.Open:=by simp[GX, *]
 have HB0:=Lib.hid hb0
 clear hb0
 have h8':decide ((8:Int)<(j.Open.length:Int))=false:=by simp;omega
 have h3':(j.Holder != 0)=false:=by simpa using h3
 go_enter Tryz.func408,Tryz.ntmps408
 go_wp2_with (first|(go_at_call 176;refine(Og _ _ _ _).mono ?_;rintro e w1 ⟨rfl,rfl⟩)|(go_at_call 177;refine(AT _ _).mono ?_;rintro e w1 ⟨rfl,rfl⟩)|(go_at_call 170;refine(OU _ _).mono ?_;rintro e w1 ⟨rfl,rfl⟩))
 clear hmm
 go_loopw [47] (fun i wr=>∃k:Nat,k<=j.Open.length/\i=.int .i64 k/\Ext w wr/\wr.cell? ⟨w.heap.size,5,none⟩=some (.slice a j.Open.length cap)/\(∃S,MO Tryz.prog 2 4 wr (w.heap.size+1) k S/\(∀i,i<k->VD j.Open i)/\(∀x,x ∈ S↔∃i e,i<k/\j.Open[i]?=some e/\e.Id=x))) (fun i _=>j.Open.length - (intOf i).toNat)
 case atStart=>exact⟨0,Nat.zero_le _,rfl,((Ext.refl _).alloc _).alloc _,by simp,[],by simpa using MO.made Tryz.prog 2 4 (w.alloc _),fun i hi=>by omega,fun x=>by simp⟩
 case round =>
  obtain⟨k,hk,rfl,he,jb,S,hset,hok,hS⟩:=hrel
  have HO:=Lib.hid hok
  have HM:=Lib.hid hS
  clear hok hS
  have hsz:=he.size
  by_cases hlt:k<j.Open.length
  .
   obtain⟨d,b1,o1,hd,rfl,hb1,c⟩:=HA.out k hlt
   have d0:=he.cell (c 0 _ dC rfl)
   have d1:=he.cell (c 1 _ dC rfl)
   simp only[Nat.add_zero] at d0
   have HD:=Lib.hid hd
   clear c hd
   go_wp2
   obtain⟨W,hW⟩:∃W,W=wr.alloc (.cells #[.int .i64 d.Id,.int .i64 d.Due] 286):=⟨_,rfl⟩
   have x0:W.cell? ⟨wr.heap.size,0,none⟩=some (.int .i64 d.Id):=by rw[hW];simp
   have x1:W.cell? ⟨wr.heap.size,1,none⟩=some (.int .i64 d.Due):=by rw[hW];simp
   have jb':W.cell? ⟨w.heap.size,5,none⟩=some (.slice (some ⟨b1,o1,none⟩) j.Open.length cap):=by rw[hW];exact((Ext.refl wr).alloc _).cell jb
   have hset':MO Tryz.prog 2 4 W (w.heap.size+1) k S:=by rw[hW];exact hset.ext ((Ext.refl wr).alloc _)
   have heW:Ext w W:=by rw[hW];exact he.alloc _
   have heR:Ext wr W:=by rw[hW];exact(Ext.refl wr).alloc _
   rw[<-hW]
   clear hW
   cases hid:SS d.Id
   .
    refine rx0 bQ7 fun w1 hx1=>?_
    go_wp2
    go_ret
    exact⟨congrArg (fun z=>Ending.returned (.bool z)) (HB0.out.trans (BX (fun hh=>by have:=(hh.2 k hlt d HD.out).1;rw[hid] at this;cases this))).symm,heW.trans hx1⟩
   have hw:(Lit.int .i64 d.Id).wf=true:=by
    have:=AO.1 hid
    exact WalkArith.wf_i64 oM
   cases htm:wZ d.Due
   .
    refine rx0 bQ8 fun w1 hx1=>?_
    go_wp2
    go_ret
    exact⟨congrArg (fun z=>Ending.returned (.bool z)) (HB0.out.trans (BX (fun hh=>by have:=(hh.2 k hlt d HD.out).2.1;rw[htm] at this;cases this))).symm,heW.trans hx1⟩
   by_cases hmem:d.Id ∈ S
   .
    have hnu:decide (d.Id ∈ S)=true:=by simpa using hmem
    have HMM:=Lib.hid hmem
    clear hmem
    refine rx0 aJ1 fun w1 hx1=>?_
    go_wp2
    go_ret
    exact⟨congrArg (fun z=>Ending.returned (.bool z)) (HB0.out.trans (BX (fun hh=>by obtain⟨i,e,hi,he',hid'⟩:=(HM.out d.Id).1 HMM.out;exact(hh.2 k hlt d HD.out).2.2.2 i e hi he' hid'))).symm,heW.trans hx1⟩
   have hnu:decide (d.Id ∈ S)=false:=by simpa using hmem
   have hnd:∀i e,i<k->j.Open[i]?=some e->e.Id≠d.Id:=fun i e hi he' hid'=>hmem ((HM.out d.Id).2 ⟨i,e,hi,he',hid'⟩)
   have HND:=Lib.hid hnd
   clear hmem hnd
   have hnext:(∀e,0<k->j.Open[k - 1]?=some e->IF e d=true)->∀i,i<k+1->VD j.Open i:=by
    intro n1 i hi
    by_cases hik:i=k
    .
     subst hik
     intro d' hd'
     rw[HD.out] at hd'
     obtain rfl:=Option.some.inj hd'
     exact⟨hid,htm,n1,HND.out⟩
    exact HO.out i oM
   have HN:=Lib.hid hnext
   clear hnext
   have hs2:∀x,x ∈ d.Id::S↔∃i e,i<k+1/\j.Open[i]?=some e/\e.Id=x:=by
    intro x
    rw[List.mem_cons,HM.out x]
    constructor
    .
     rintro(rfl|⟨i,e,hi,h1,h2⟩)
     .
      exact⟨k,d,by omega,HD.out,rfl⟩
     exact⟨i,e,by omega,h1,h2⟩
    rintro⟨i,e,hi,h1,h2⟩
    by_cases hik:i=k
    .
     subst hik
     rw[HD.out] at h1
     obtain rfl:=Option.some.inj h1
     exact .inl h2.symm
    exact .inr ⟨i,e,by omega,h1,h2⟩
   have HS:=Lib.hid hs2
   clear hs2
   by_cases hk0:k=0
   .
    subst hk0
    refine rx0 aJ1 fun w1 hx1=>?_
    have x0':=hx1.cell x0
    go_wp2_with (at_mapUpdate;refine IH rfl _ _ _ 407 rfl 2 4 Tryz.underlying2 Tryz.underlying407 Tryz.underlying4 _ _ _ _ rfl rfl rfl (hset'.ext hx1) (by unfold maxLen;omega) hw ?_;intro w2 hset2 hgr2)
    have hx2:=(heW.trans hx1).grownOwn hgr2 oM
    go_roundw
    case rel=>exact⟨0+1,by omega,by go_num,hx2,hgr2.cell (hx1.cell jb') (by first|(simp;done)|(simp;omega)),_,hset2,HN.out (fun e h=>by omega),HS.out⟩
    case measure=>simp[intOf];omega
   obtain⟨e,b2,o2,hde,hbo,_,c⟩:=HA.out (k - 1) oM
   obtain⟨rfl,rfl⟩:b1=b2/\o1=o2:=by simpa using hbo
   have e0':=heW.cell (c 0 _ dC rfl)
   have e1':=heW.cell (c 1 _ dC rfl)
   simp only[Nat.add_zero] at e0'
   have HE:=Lib.hid hde
   clear c hde hbo
   have hk1:decide (0<k)=true:=by simp;omega
   cases hls:IF e d
   .
    refine rx0 aJ2 fun w1 hx1=>?_
    go_wp2
    go_ret
    exact⟨congrArg (fun z=>Ending.returned (.bool z)) (HB0.out.trans (BX (fun hh=>by have:=(hh.2 k hlt d HD.out).2.2.1 e oM HE.out;rw[hls] at this;cases this))).symm,heW.trans hx1⟩
   refine rx0 aJ2 fun w1 hx1=>?_
   have x0':=hx1.cell x0
   go_wp2_with (at_mapUpdate;refine IH rfl _ _ _ 407 rfl 2 4 Tryz.underlying2 Tryz.underlying407 Tryz.underlying4 _ _ _ _ rfl rfl rfl (hset'.ext hx1) (by unfold maxLen;omega) hw ?_;intro w2 hset2 hgr2)
   have hx2:=(heW.trans hx1).grownOwn hgr2 oM
   go_roundw
   case rel=>exact⟨k+1,by omega,by go_num,hx2,hgr2.cell (hx1.cell jb') (by first|(simp;done)|(simp;omega)),_,hset2,HN.out (fun e' _ hl=>by rw[HE.out] at hl;obtain rfl:=Option.some.inj hl;exact hls),HS.out⟩
   case measure=>simp[intOf];omega
  obtain rfl:k=j.Open.length:=by omega
  go_wp2
  go_ret
  exact⟨congrArg (fun z=>Ending.returned (.bool z)) (HB0.out.trans (TA ⟨by omega,HO.out⟩)).symm,he⟩
theorem aJ4(w:World)(j:VS)(s:Value)(h:Aw 2 w s (KF j.Open))(h1:inb j.Index 0 2000=true)(h2:wZ j.Time=true)(h3:(j.Holder == 0)=false)(h6:DY j.Holder=true)(h4:inb j.Epoch 0 1000=true)(h5:inb j.Until 0 1001000=true)(h8:j.Open.length<=8):Calls Tryz.prog 408 #[.agg #[.int .i64 j.Index,.int .i64 j.Time,.int .i64 j.Holder,.int .i64 j.Epoch,.int .i64 j.Until,s]] w (Fz w (.bool (GX j))):=by
 obtain⟨a,cap,rfl,hcap,hm,ha⟩:=h.recs (f:=DO.ints) (fun _=>rfl) dC
 have HA:=Lib.hid ha
 clear ha
 unfold maxLen at hm
 have hmm:=@run_makeMap Tryz.prog
 have hb0:GX j=QN j.Open:=by simp[GX, *]
 have HB0:=Lib.hid hb0
 clear hb0
 have h8':decide ((8:Int)<(j.Open.length:Int))=false:=by simp;omega
 have h3':(j.Holder != 0)=true:=by simpa using h3
 go_enter Tryz.func408,Tryz.ntmps408
 go_wp2_with (first|(go_at_call 176;refine(Og _ _ _ _).mono ?_;rintro e w1 ⟨rfl,rfl⟩)|(go_at_call 177;refine(AT _ _).mono ?_;rintro e w1 ⟨rfl,rfl⟩)|(go_at_call 170;refine(OU _ _).mono ?_;rintro e w1 ⟨rfl,rfl⟩))
 clear hmm
 go_loopw [47] (fun i wr=>∃k:Nat,k<=j.Open.length/\i=.int .i64 k/\Ext w wr/\wr.cell? ⟨w.heap.size,5,none⟩=some (.slice a j.Open.length cap)/\(∃S,MO Tryz.prog 2 4 wr (w.heap.size+1) k S/\(∀i,i<k->VD j.Open i)/\(∀x,x ∈ S↔∃i e,i<k/\j.Open[i]?=some e/\e.Id=x))) (fun i _=>j.Open.length - (intOf i).toNat)
 case atStart=>exact⟨0,Nat.zero_le _,rfl,((Ext.refl _).alloc _).alloc _,by simp,[],by simpa using MO.made Tryz.prog 2 4 (w.alloc _),fun i hi=>by omega,fun x=>by simp⟩
 case round =>
  obtain⟨k,hk,rfl,he,jb,S,hset,hok,hS⟩:=hrel
  have HO:=Lib.hid hok
  have HM:=Lib.hid hS
  clear hok hS
  have hsz:=he.size
  by_cases hlt:k<j.Open.length
  .
   obtain⟨d,b1,o1,hd,rfl,hb1,c⟩:=HA.out k hlt
   have d0:=he.cell (c 0 _ dC rfl)
   have d1:=he.cell (c 1 _ dC rfl)
   simp only[Nat.add_zero] at d0
   have HD:=Lib.hid hd
   clear c hd
   go_wp2
   obtain⟨W,hW⟩:∃W,W=wr.alloc (.cells #[.int .i64 d.Id,.int .i64 d.Due] 286):=⟨_,rfl⟩
   have x0:W.cell? ⟨wr.heap.size,0,none⟩=some (.int .i64 d.Id):=by rw[hW];simp
   have x1:W.cell? ⟨wr.heap.size,1,none⟩=some (.int .i64 d.Due):=by rw[hW];simp
   have jb':W.cell? ⟨w.heap.size,5,none⟩=some (.slice (some ⟨b1,o1,none⟩) j.Open.length cap):=by rw[hW];exact((Ext.refl wr).alloc _).cell jb
   have hset':MO Tryz.prog 2 4 W (w.heap.size+1) k S:=by rw[hW];exact hset.ext ((Ext.refl wr).alloc _)
   have heW:Ext w W:=by rw[hW];exact he.alloc _
   have heR:Ext wr W:=by rw[hW];exact(Ext.refl wr).alloc _
   rw[<-hW]
   clear hW
   cases hid:SS d.Id
   .
    refine rx0 bQ7 fun w1 hx1=>?_
    go_wp2
    go_ret
    exact⟨congrArg (fun z=>Ending.returned (.bool z)) (HB0.out.trans (BX (fun hh=>by have:=(hh.2 k hlt d HD.out).1;rw[hid] at this;cases this))).symm,heW.trans hx1⟩
   have hw:(Lit.int .i64 d.Id).wf=true:=by
    have:=AO.1 hid
    exact WalkArith.wf_i64 oM
   cases htm:wZ d.Due
   .
    refine rx0 bQ8 fun w1 hx1=>?_
    go_wp2
    go_ret
    exact⟨congrArg (fun z=>Ending.returned (.bool z)) (HB0.out.trans (BX (fun hh=>by have:=(hh.2 k hlt d HD.out).2.1;rw[htm] at this;cases this))).symm,heW.trans hx1⟩
   by_cases hmem:d.Id ∈ S
   .
    have hnu:decide (d.Id ∈ S)=true:=by simpa using hmem
    have HMM:=Lib.hid hmem
    clear hmem
    refine rx0 aJ1 fun w1 hx1=>?_
    go_wp2
    go_ret
    exact⟨congrArg (fun z=>Ending.returned (.bool z)) (HB0.out.trans (BX (fun hh=>by obtain⟨i,e,hi,he',hid'⟩:=(HM.out d.Id).1 HMM.out;exact(hh.2 k hlt d HD.out).2.2.2 i e hi he' hid'))).symm,heW.trans hx1⟩
   have hnu:decide (d.Id ∈ S)=false:=by simpa using hmem
   have hnd:∀i e,i<k->j.Open[i]?=some e->e.Id≠d.Id:=fun i e hi he' hid'=>hmem ((HM.out d.Id).2 ⟨i,e,hi,he',hid'⟩)
   have HND:=Lib.hid hnd
   clear hmem hnd
   have hnext:(∀e,0<k->j.Open[k - 1]?=some e->IF e d=true)->∀i,i<k+1->VD j.Open i:=by
    intro n1 i hi
    by_cases hik:i=k
    .
     subst hik
     intro d' hd'
     rw[HD.out] at hd'
     obtain rfl:=Option.some.inj hd'
     exact⟨hid,htm,n1,HND.out⟩
    exact HO.out i oM
   have HN:=Lib.hid hnext
   clear hnext
   have hs2:∀x,x ∈ d.Id::S↔∃i e,i<k+1/\j.Open[i]?=some e/\e.Id=x:=by
    intro x
    rw[List.mem_cons,HM.out x]
    constructor
    .
     rintro(rfl|⟨i,e,hi,h1,h2⟩)
     .
      exact⟨k,d,by omega,HD.out,rfl⟩
     exact⟨i,e,by omega,h1,h2⟩
    rintro⟨i,e,hi,h1,h2⟩
    by_cases hik:i=k
    .
     subst hik
     rw[HD.out] at h1
     obtain rfl:=Option.some.inj h1
     exact .inl h2.symm
    exact .inr ⟨i,e,by omega,h1,h2⟩
   have HS:=Lib.hid hs2
   clear hs2
   by_cases hk0:k=0
   .
    subst hk0
    refine rx0 aJ1 fun w1 hx1=>?_
    have x0':=hx1.cell x0
    go_wp2_with (at_mapUpdate;refine IH rfl _ _ _ 407 rfl 2 4 Tryz.underlying2 Tryz.underlying407 Tryz.underlying4 _ _ _ _ rfl rfl rfl (hset'.ext hx1) (by unfold maxLen;omega) hw ?_;intro w2 hset2 hgr2)
    have hx2:=(heW.trans hx1).grownOwn hgr2 oM
    go_roundw
    case rel=>exact⟨0+1,by omega,by go_num,hx2,hgr2.cell (hx1.cell jb') (by first|(simp;done)|(simp;omega)),_,hset2,HN.out (fun e h=>by omega),HS.out⟩
    case measure=>simp[intOf];omega
   obtain⟨e,b2,o2,hde,hbo,_,c⟩:=HA.out (k - 1) oM
   obtain⟨rfl,rfl⟩:b1=b2/\o1=o2:=by simpa using hbo
   have e0':=heW.cell (c 0 _ dC rfl)
   have e1':=heW.cell (c 1 _ dC rfl)
   simp only[Nat.add_zero] at e0'
   have HE:=Lib.hid hde
   clear c hde hbo
   have hk1:decide (0<k)=true:=by simp;omega
   cases hls:IF e d
   .
    refine rx0 aJ2 fun w1 hx1=>?_
    go_wp2
    go_ret
    exact⟨congrArg (fun z=>Ending.returned (.bool z)) (HB0.out.trans (BX (fun hh=>by have:=(hh.2 k hlt d HD.out).2.2.1 e oM HE.out;rw[hls] at this;cases this))).symm,heW.trans hx1⟩
   refine rx0 aJ2 fun w1 hx1=>?_
   have x0':=hx1.cell x0
   go_wp2_with (at_mapUpdate;refine IH rfl _ _ _ 407 rfl 2 4 Tryz.underlying2 Tryz.underlying407 Tryz.underlying4 _ _ _ _ rfl rfl rfl (hset'.ext hx1) (by unfold maxLen;omega) hw ?_;intro w2 hset2 hgr2)
   have hx2:=(heW.trans hx1).grownOwn hgr2 oM
   go_roundw
   case rel=>exact⟨k+1,by omega,by go_num,hx2,hgr2.cell (hx1.cell jb') (by first|(simp;done)|(simp;omega)),_,hset2,HN.out (fun e' _ hl=>by rw[HE.out] at hl;obtain rfl:=Option.some.inj hl;exact hls),HS.out⟩
   case measure=>simp[intOf];omega
  obtain rfl:k=j.Open.length:=by omega
  go_wp2
  go_ret
  exact⟨congrArg (fun z=>Ending.returned (.bool z)) (HB0.out.trans (TA ⟨by omega,HO.out⟩)).symm,he⟩
theorem bG0(w:World)(j:VS)(s:Value)(h:Aw 2 w s (KF j.Open)):Calls Tryz.prog 408 #[.agg #[.int .i64 j.Index,.int .i64 j.Time,.int .i64 j.Holder,.int .i64 j.Epoch,.int .i64 j.Until,s]] w (Fz w (.bool (GX j))):=by
 by_cases hg:inb j.Index 0 2000=true/\wZ j.Time=true/\(j.Holder == 0||DY j.Holder)=true/\inb j.Epoch 0 1000=true/\inb j.Until 0 1001000=true/\j.Open.length<=8
 .
  obtain⟨h1,h2,h3,h4,h5,h8⟩:=hg
  cases h6:(j.Holder == 0)
  .
   exact aJ4 w j s h h1 h2 h6 (by simpa[h6] using h3) h4 h5 h8
  exact aJ3 w j s h h1 h2 h6 h4 h5 h8
 exact aO5 w j s h hg
theorem bG1(w:World)(v:CZ)(s:Value)(h:Aw 2 w s (KF v.Jobs.Open)):Calls Tryz.prog 320 #[.agg #[.int .i64 v.Jobs.Index,.int .i64 v.Jobs.Time,.int .i64 v.Jobs.Holder,.int .i64 v.Jobs.Epoch,.int .i64 v.Jobs.Until,s]] w (Fz w (.bool (GX v.Jobs))):=by
 obtain⟨a,n,c,rfl⟩:=h.shape
 go_enter Tryz.func320,Tryz.ntmps320
 go_wp2_with (first|(go_at_call 390;refine(aV5 _ v.Jobs _ (h.ext xT)).mono ?_;rintro e w1 ⟨rfl,hx1⟩;have hz1:=hx1.size;obtain⟨hc1,hf1⟩:=hx1.cells;(repeat (first|simp only[World.size_alloc] at hz1 hc1 hf1|simp only[World.size_setCell] at hz1 hc1 hf1));have JJ:w.heap.size<w1.heap.size:=oM))
 go_ret
 refine⟨rfl,?_⟩
 exact xT
theorem bQ9(w:World)(v:CZ)(s:Value)(h:Aw 2 w s (KF v.Jobs.Open)):Calls Tryz.prog 355 #[.agg #[.int .i64 v.Jobs.Index,.int .i64 v.Jobs.Time,.int .i64 v.Jobs.Holder,.int .i64 v.Jobs.Epoch,.int .i64 v.Jobs.Until,s]] w (Fz w (.bool (GX v.Jobs))):=by
 obtain⟨a,n,c,rfl⟩:=h.shape
 go_enter Tryz.func355,Tryz.ntmps355
 go_wp2_with (first|(go_at_call 408;refine(bG0 _ v.Jobs _ (h.ext xT)).mono ?_;rintro e w1 ⟨rfl,hx1⟩;have hz1:=hx1.size;obtain⟨hc1,hf1⟩:=hx1.cells;(repeat (first|simp only[World.size_alloc] at hz1 hc1 hf1|simp only[World.size_setCell] at hz1 hc1 hf1));have JJ:w.heap.size<w1.heap.size:=oM))
 go_ret
 refine⟨rfl,?_⟩
 exact xT
def opZ(o:DOp):Bool:=decide (o.Kind=0/\o.A=0/\o.B=0/\o.C=0/\o.D=0)
noncomputable def EU(s:aQ):Bool:=DY s.Id&&(inb s.Seq 0 2000&&(GX s.View.Jobs&&(inb s.Index 0 2000&&(if s.Busy then decide (0<s.Seq)&&(NC s.Op&&(decide (s.Op.Kind=4)||decide (s.Op.Kind=5))) else opZ s.Op))))
theorem bG2(w:World)(Ay:Int)(Ce:Int)(Uu:Int)(wY:Int)(Em:Int)(XT:Value)(VR:List DO)(aZ6:Aw 2 w XT (KF VR)):Calls Tryz.prog 320 #[.agg #[.int .i64 Ay,.int .i64 Ce,.int .i64 Uu,.int .i64 wY,.int .i64 Em,XT]] w (Fz w (.bool (GX (⟨⟨Ay,Ce,Uu,wY,Em,VR⟩⟩:CZ).Jobs))):=bG1 w (⟨⟨Ay,Ce,Uu,wY,Em,VR⟩⟩:CZ) XT aZ6
theorem bR0(w:World)(Ay:Int)(Ce:Int)(Uu:Int)(wY:Int)(Em:Int)(XT:Value)(VR:List DO)(aZ6:Aw 2 w XT (KF VR)):Calls Tryz.prog 355 #[.agg #[.int .i64 Ay,.int .i64 Ce,.int .i64 Uu,.int .i64 wY,.int .i64 Em,XT]] w (Fz w (.bool (GX (⟨⟨Ay,Ce,Uu,wY,Em,VR⟩⟩:CZ).Jobs))):=bQ9 w (⟨⟨Ay,Ce,Uu,wY,Em,VR⟩⟩:CZ) XT aZ6
theorem cE0(w:World)(Ay:Int):Calls Tryz.prog 322 #[.int .i64 Ay] w (fun e w'=>e=.returned (.bool (inb Ay 0 9))/\w=w'):=by
 go_enter Tryz.func322,Tryz.ntmps322
 go_wp2_with (first|(go_at_call 303;refine(wR _ _ _ _  ).mono ?_;rintro e wa ⟨rfl,rfl⟩))
 all_goals
  go_ret
  refine⟨by first|rfl|(simp[*];done)|(simp[*];omega)|(simp_all [bq,bn];done)|(simp_all [bq,bn];omega),by rfl⟩
theorem bG3(w:World)(Ay:Int):Calls Tryz.prog 324 #[.int .i64 Ay] w (fun e w'=>e=.returned (.bool (inb Ay 0 999))/\w=w'):=by
 go_enter Tryz.func324,Tryz.ntmps324
 go_wp2_with (first|(go_at_call 303;refine(wR _ _ _ _  ).mono ?_;rintro e wa ⟨rfl,rfl⟩))
 all_goals
  go_ret
  refine⟨by first|rfl|(simp[*];done)|(simp[*];omega)|(simp_all [bq,bn];done)|(simp_all [bq,bn];omega),by rfl⟩
theorem cE1(w:World)(Ay:Int):Calls Tryz.prog 266 #[.int .i64 Ay] w (fun e w'=>e=.returned (.bool (inb Ay 0 9))/\w=w'):=by
 go_enter Tryz.func266,Tryz.ntmps266
 go_wp2_with (first|(go_at_call 176;refine(Og _ _ _ _  ).mono ?_;rintro e wa ⟨rfl,rfl⟩))
 all_goals
  go_ret
  refine⟨by first|rfl|(simp[*];done)|(simp[*];omega)|(simp_all [bq,bn];done)|(simp_all [bq,bn];omega),by rfl⟩
theorem bG4(w:World)(Ay:Int):Calls Tryz.prog 346 #[.int .i64 Ay] w (fun e w'=>e=.returned (.bool (inb Ay 0 999))/\w=w'):=by
 go_enter Tryz.func346,Tryz.ntmps346
 go_wp2_with (first|(go_at_call 176;refine(Og _ _ _ _  ).mono ?_;rintro e wa ⟨rfl,rfl⟩))
 all_goals
  go_ret
  refine⟨by first|rfl|(simp[*];done)|(simp[*];omega)|(simp_all [bq,bn];done)|(simp_all [bq,bn];omega),by rfl⟩
theorem cE2(w:World)(Ay:Int)(Ce:Int)(Uu:Int)(wY:Int)(Em:Int):Calls Tryz.prog 321 #[.agg #[.int .i64 Ay,.int .i64 Ce,.int .i64 Uu,.int .i64 wY,.int .i64 Em]] w (Fz w (.bool (NC (⟨Ay,Ce,Uu,wY,Em⟩:DOp)))):=by
 go_enter Tryz.func321,Tryz.ntmps321
 go_wp2_with (first|(go_at_call 322;refine(cE0 _ _  ).mono ?_;rintro e wa ⟨rfl,rfl⟩)|(go_at_call 324;refine(bG3 _ _  ).mono ?_;rintro e wb ⟨rfl,rfl⟩)|(go_at_call 391;refine(aI4 _ _  ).mono ?_;rintro e wc ⟨rfl,rfl⟩)|(go_at_call 207;refine(BK _ _  ).mono ?_;rintro e wd ⟨rfl,rfl⟩)|(go_at_call 303;refine(wR _ _ _ _  ).mono ?_;rintro e we ⟨rfl,rfl⟩))
 all_goals
  go_ret
  refine⟨by first|rfl|(simp[NC, *];done)|(simp[NC, *];omega)|(simp_all [NC,bq,bn];done)|(simp_all [NC,bq,bn];omega),?_⟩
  exact xT
theorem cJ6(w:World)(Ay:Int)(Ce:Int)(Uu:Int)(wY:Int)(Em:Int):Calls Tryz.prog 265 #[.agg #[.int .i64 Ay,.int .i64 Ce,.int .i64 Uu,.int .i64 wY,.int .i64 Em]] w (Fz w (.bool (NC (⟨Ay,Ce,Uu,wY,Em⟩:DOp)))):=by
 go_enter Tryz.func265,Tryz.ntmps265
 go_wp2_with (first|(go_at_call 266;refine(cE1 _ _  ).mono ?_;rintro e wa ⟨rfl,rfl⟩)|(go_at_call 346;refine(bG4 _ _  ).mono ?_;rintro e wb ⟨rfl,rfl⟩)|(go_at_call 347;refine(VG _ _  ).mono ?_;rintro e wc ⟨rfl,rfl⟩)|(go_at_call 177;refine(AT _ _  ).mono ?_;rintro e wd ⟨rfl,rfl⟩)|(go_at_call 176;refine(Og _ _ _ _  ).mono ?_;rintro e we ⟨rfl,rfl⟩))
 all_goals
  go_ret
  refine⟨by first|rfl|(simp[NC, *];done)|(simp[NC, *];omega)|(simp_all [NC,bq,bn];done)|(simp_all [NC,bq,bn];omega),?_⟩
  exact xT
theorem aV6(w:World)(Ay:Int)(Ce:Int)(Uu:Int)(wY:Int)(Em:Int)(Ga:Int)(Ih:Int)(PQ:Value)(lM:List DO)(Py:Bool)(Oh:Int)(Ee:Int)(UC:Int)(Pw:Int)(Ck:Int)(Dt:Int)(KV:Aw 2 w PQ (KF lM)):Calls Tryz.prog 212 #[.agg #[.int .i64 Ay,.int .i64 Ce,.int .i64 Uu,.int .i64 wY,.int .i64 Em,.int .i64 Ga,.int .i64 Ih,PQ,.bool Py,.int .i64 Oh,.int .i64 Ee,.int .i64 UC,.int .i64 Pw,.int .i64 Ck,.int .i64 Dt]] w (Fz w (.bool (EU (⟨Ay,Ce,⟨⟨Uu,wY,Em,Ga,Ih,lM⟩⟩,Py,⟨Oh,Ee,UC,Pw,Ck⟩,Dt⟩:aQ)))):=by
 obtain⟨cU6,cU7,cU8,rfl⟩:=KV.shape
 go_enter Tryz.func212,Tryz.ntmps212
 go_wp2_with (first|(go_at_call 175;refine(bQ6 _ _  ).mono ?_;rintro e wa ⟨rfl,rfl⟩)|(go_at_call 303;refine(wR _ _ _ _  ).mono ?_;rintro e wb ⟨rfl,rfl⟩)|(go_at_call 320;refine(bG2 _ _ _ _ _ _ _ _ (by first|(with_reducible exact Aw.ext (by assumption) xT)|(with_reducible exact Aw.ext (Ba.ints (by assumption)) xT)|with_reducible exact aE9 _ _) ).mono ?_;rintro e wc ⟨rfl,hxc⟩;have hzc:=hxc.size;obtain⟨hcc,hfc⟩:=hxc.cells;(repeat (first|simp only[World.size_alloc] at hzc hcc hfc|simp only[World.size_setCell] at hzc hcc hfc));(try have hcrc_a:=fun u v (h0:wa.heap.size<=u) h=>hcc u v h);(try have hfrc_a:=fun u v (h0:wa.heap.size<=u) h=>hfc u v h);(try have hyc_a_0:wa.heap.size<wc.heap.size:=oM);(try have hyc_a_1:wa.heap.size+1<wc.heap.size:=oM);(try have hyc_a_2:wa.heap.size+1+1<wc.heap.size:=oM);(try have hcrc_b:=fun u v (h0:wb.heap.size<=u) h=>hcc u v h);(try have hfrc_b:=fun u v (h0:wb.heap.size<=u) h=>hfc u v h);(try have hyc_b_0:wb.heap.size<wc.heap.size:=oM);(try have hyc_b_1:wb.heap.size+1<wc.heap.size:=oM);(try have hyc_b_2:wb.heap.size+1+1<wc.heap.size:=oM);(try have hcrc_d:=fun u v (h0:wd.heap.size<=u) h=>hcc u v h);(try have hfrc_d:=fun u v (h0:wd.heap.size<=u) h=>hfc u v h);(try have hyc_d_0:wd.heap.size<wc.heap.size:=oM);(try have hyc_d_1:wd.heap.size+1<wc.heap.size:=oM);(try have hyc_d_2:wd.heap.size+1+1<wc.heap.size:=oM);have Pc0_0:=hcc (w.heap.size) 0 oM;have Rc0_0:=hfc (w.heap.size) 0 oM;have Pc0_1:=hcc (w.heap.size) 1 oM;have Rc0_1:=hfc (w.heap.size) 1 oM;have Pc0_2:=hcc (w.heap.size) 2 oM;have Rc0_2:=hfc (w.heap.size) 2 oM;have Pc0_3:=hcc (w.heap.size) 3 oM;have Rc0_3:=hfc (w.heap.size) 3 oM;have Pc0_4:=hcc (w.heap.size) 4 oM;have Rc0_4:=hfc (w.heap.size) 4 oM;have Pc0_5:=hcc (w.heap.size) 5 oM;have Rc0_5:=hfc (w.heap.size) 5 oM;have Pc0_6:=hcc (w.heap.size) 6 oM;have Rc0_6:=hfc (w.heap.size) 6 oM;have Pc0_7:=hcc (w.heap.size) 7 oM;have Rc0_7:=hfc (w.heap.size) 7 oM;have Pc0_8:=hcc (w.heap.size) 8 oM;have Rc0_8:=hfc (w.heap.size) 8 oM;have Pc0_9:=hcc (w.heap.size) 9 oM;have Rc0_9:=hfc (w.heap.size) 9 oM;have Pc0_10:=hcc (w.heap.size) 10 oM;have Rc0_10:=hfc (w.heap.size) 10 oM;have Pc0_11:=hcc (w.heap.size) 11 oM;have Rc0_11:=hfc (w.heap.size) 11 oM;have Pc0_12:=hcc (w.heap.size) 12 oM;have Rc0_12:=hfc (w.heap.size) 12 oM;have Pc0_13:=hcc (w.heap.size) 13 oM;have Rc0_13:=hfc (w.heap.size) 13 oM;have Pc0_14:=hcc (w.heap.size) 14 oM;have Rc0_14:=hfc (w.heap.size) 14 oM;have hyc__0:w.heap.size<wc.heap.size:=oM;clear hcc hfc;(try simp[*] at Pc0_0);(try simp[*] at Rc0_0);(try simp[*] at Pc0_1);(try simp[*] at Rc0_1);(try simp[*] at Pc0_2);(try simp[*] at Rc0_2);(try simp[*] at Pc0_3);(try simp[*] at Rc0_3);(try simp[*] at Pc0_4);(try simp[*] at Rc0_4);(try simp[*] at Pc0_5);(try simp[*] at Rc0_5);(try simp[*] at Pc0_6);(try simp[*] at Rc0_6);(try simp[*] at Pc0_7);(try simp[*] at Rc0_7);(try simp[*] at Pc0_8);(try simp[*] at Rc0_8);(try simp[*] at Pc0_9);(try simp[*] at Rc0_9);(try simp[*] at Pc0_10);(try simp[*] at Rc0_10);(try simp[*] at Pc0_11);(try simp[*] at Rc0_11);(try simp[*] at Pc0_12);(try simp[*] at Rc0_12);(try simp[*] at Pc0_13);(try simp[*] at Rc0_13);(try simp[*] at Pc0_14);(try simp[*] at Rc0_14))|(go_at_call 321;refine(cE2 _ _ _ _ _ _  ).mono ?_;rintro e wd ⟨rfl,hxd⟩;have hzd:=hxd.size;obtain⟨hcd,hfd⟩:=hxd.cells;(repeat (first|simp only[World.size_alloc] at hzd hcd hfd|simp only[World.size_setCell] at hzd hcd hfd));(try have hcrd_a:=fun u v (h0:wa.heap.size<=u) h=>hcd u v h);(try have hfrd_a:=fun u v (h0:wa.heap.size<=u) h=>hfd u v h);(try have hyd_a_0:wa.heap.size<wd.heap.size:=oM);(try have hyd_a_1:wa.heap.size+1<wd.heap.size:=oM);(try have hyd_a_2:wa.heap.size+1+1<wd.heap.size:=oM);(try have hcrd_b:=fun u v (h0:wb.heap.size<=u) h=>hcd u v h);(try have hfrd_b:=fun u v (h0:wb.heap.size<=u) h=>hfd u v h);(try have hyd_b_0:wb.heap.size<wd.heap.size:=oM);(try have hyd_b_1:wb.heap.size+1<wd.heap.size:=oM);(try have hyd_b_2:wb.heap.size+1+1<wd.heap.size:=oM);(try have hcrd_c:=fun u v (h0:wc.heap.size<=u) h=>hcd u v h);(try have hfrd_c:=fun u v (h0:wc.heap.size<=u) h=>hfd u v h);(try have hyd_c_0:wc.heap.size<wd.heap.size:=oM);(try have hyd_c_1:wc.heap.size+1<wd.heap.size:=oM);(try have hyd_c_2:wc.heap.size+1+1<wd.heap.size:=oM);have Pd0_0:=hcd (w.heap.size) 0 oM;have Rd0_0:=hfd (w.heap.size) 0 oM;have Pd0_1:=hcd (w.heap.size) 1 oM;have Rd0_1:=hfd (w.heap.size) 1 oM;have Pd0_2:=hcd (w.heap.size) 2 oM;have Rd0_2:=hfd (w.heap.size) 2 oM;have Pd0_3:=hcd (w.heap.size) 3 oM;have Rd0_3:=hfd (w.heap.size) 3 oM;have Pd0_4:=hcd (w.heap.size) 4 oM;have Rd0_4:=hfd (w.heap.size) 4 oM;have Pd0_5:=hcd (w.heap.size) 5 oM;have Rd0_5:=hfd (w.heap.size) 5 oM;have Pd0_6:=hcd (w.heap.size) 6 oM;have Rd0_6:=hfd (w.heap.size) 6 oM;have Pd0_7:=hcd (w.heap.size) 7 oM;have Rd0_7:=hfd (w.heap.size) 7 oM;have Pd0_8:=hcd (w.heap.size) 8 oM;have Rd0_8:=hfd (w.heap.size) 8 oM;have Pd0_9:=hcd (w.heap.size) 9 oM;have Rd0_9:=hfd (w.heap.size) 9 oM;have Pd0_10:=hcd (w.heap.size) 10 oM;have Rd0_10:=hfd (w.heap.size) 10 oM;have Pd0_11:=hcd (w.heap.size) 11 oM;have Rd0_11:=hfd (w.heap.size) 11 oM;have Pd0_12:=hcd (w.heap.size) 12 oM;have Rd0_12:=hfd (w.heap.size) 12 oM;have Pd0_13:=hcd (w.heap.size) 13 oM;have Rd0_13:=hfd (w.heap.size) 13 oM;have Pd0_14:=hcd (w.heap.size) 14 oM;have Rd0_14:=hfd (w.heap.size) 14 oM;have hyd__0:w.heap.size<wd.heap.size:=oM;clear hcd hfd;(try simp[*] at Pd0_0);(try simp[*] at Rd0_0);(try simp[*] at Pd0_1);(try simp[*] at Rd0_1);(try simp[*] at Pd0_2);(try simp[*] at Rd0_2);(try simp[*] at Pd0_3);(try simp[*] at Rd0_3);(try simp[*] at Pd0_4);(try simp[*] at Rd0_4);(try simp[*] at Pd0_5);(try simp[*] at Rd0_5);(try simp[*] at Pd0_6);(try simp[*] at Rd0_6);(try simp[*] at Pd0_7);(try simp[*] at Rd0_7);(try simp[*] at Pd0_8);(try simp[*] at Rd0_8);(try simp[*] at Pd0_9);(try simp[*] at Rd0_9);(try simp[*] at Pd0_10);(try simp[*] at Rd0_10);(try simp[*] at Pd0_11);(try simp[*] at Rd0_11);(try simp[*] at Pd0_12);(try simp[*] at Rd0_12);(try simp[*] at Pd0_13);(try simp[*] at Rd0_13);(try simp[*] at Pd0_14);(try simp[*] at Rd0_14)))
 all_goals
  go_ret
  refine⟨by first|rfl|(simp[EU,opZ,inb, *];done)|(simp[EU,opZ,inb, *];omega)|(simp_all [EU,opZ,inb,bq,bn];done)|(simp_all [EU,opZ,inb,bq,bn];omega),?_⟩
  exact xT
theorem aV7(w:World)(Ay:Int)(Ce:Int)(Uu:Int)(wY:Int)(Em:Int)(Ga:Int)(Ih:Int)(PQ:Value)(lM:List DO)(Py:Bool)(Oh:Int)(Ee:Int)(UC:Int)(Pw:Int)(Ck:Int)(Dt:Int)(KV:Aw 2 w PQ (KF lM)):Calls Tryz.prog 277 #[.agg #[.int .i64 Ay,.int .i64 Ce,.int .i64 Uu,.int .i64 wY,.int .i64 Em,.int .i64 Ga,.int .i64 Ih,PQ,.bool Py,.int .i64 Oh,.int .i64 Ee,.int .i64 UC,.int .i64 Pw,.int .i64 Ck,.int .i64 Dt]] w (Fz w (.bool (EU (⟨Ay,Ce,⟨⟨Uu,wY,Em,Ga,Ih,lM⟩⟩,Py,⟨Oh,Ee,UC,Pw,Ck⟩,Dt⟩:aQ)))):=by
 obtain⟨cU6,cU7,cU8,rfl⟩:=KV.shape
 go_enter Tryz.func277,Tryz.ntmps277
 go_wp2_with (first|(go_at_call 170;refine(OU _ _  ).mono ?_;rintro e wa ⟨rfl,rfl⟩)|(go_at_call 176;refine(Og _ _ _ _  ).mono ?_;rintro e wb ⟨rfl,rfl⟩)|(go_at_call 355;refine(bR0 _ _ _ _ _ _ _ _ (by first|(with_reducible exact Aw.ext (by assumption) xT)|(with_reducible exact Aw.ext (Ba.ints (by assumption)) xT)|with_reducible exact aE9 _ _) ).mono ?_;rintro e wc ⟨rfl,hxc⟩;have hzc:=hxc.size;obtain⟨hcc,hfc⟩:=hxc.cells;(repeat (first|simp only[World.size_alloc] at hzc hcc hfc|simp only[World.size_setCell] at hzc hcc hfc));(try have hcrc_a:=fun u v (h0:wa.heap.size<=u) h=>hcc u v h);(try have hfrc_a:=fun u v (h0:wa.heap.size<=u) h=>hfc u v h);(try have hyc_a_0:wa.heap.size<wc.heap.size:=oM);(try have hyc_a_1:wa.heap.size+1<wc.heap.size:=oM);(try have hyc_a_2:wa.heap.size+1+1<wc.heap.size:=oM);(try have hcrc_b:=fun u v (h0:wb.heap.size<=u) h=>hcc u v h);(try have hfrc_b:=fun u v (h0:wb.heap.size<=u) h=>hfc u v h);(try have hyc_b_0:wb.heap.size<wc.heap.size:=oM);(try have hyc_b_1:wb.heap.size+1<wc.heap.size:=oM);(try have hyc_b_2:wb.heap.size+1+1<wc.heap.size:=oM);(try have hcrc_d:=fun u v (h0:wd.heap.size<=u) h=>hcc u v h);(try have hfrc_d:=fun u v (h0:wd.heap.size<=u) h=>hfc u v h);(try have hyc_d_0:wd.heap.size<wc.heap.size:=oM);(try have hyc_d_1:wd.heap.size+1<wc.heap.size:=oM);(try have hyc_d_2:wd.heap.size+1+1<wc.heap.size:=oM);have Pc0_0:=hcc (w.heap.size) 0 oM;have Rc0_0:=hfc (w.heap.size) 0 oM;have Pc0_1:=hcc (w.heap.size) 1 oM;have Rc0_1:=hfc (w.heap.size) 1 oM;have Pc0_2:=hcc (w.heap.size) 2 oM;have Rc0_2:=hfc (w.heap.size) 2 oM;have Pc0_3:=hcc (w.heap.size) 3 oM;have Rc0_3:=hfc (w.heap.size) 3 oM;have Pc0_4:=hcc (w.heap.size) 4 oM;have Rc0_4:=hfc (w.heap.size) 4 oM;have Pc0_5:=hcc (w.heap.size) 5 oM;have Rc0_5:=hfc (w.heap.size) 5 oM;have Pc0_6:=hcc (w.heap.size) 6 oM;have Rc0_6:=hfc (w.heap.size) 6 oM;have Pc0_7:=hcc (w.heap.size) 7 oM;have Rc0_7:=hfc (w.heap.size) 7 oM;have Pc0_8:=hcc (w.heap.size) 8 oM;have Rc0_8:=hfc (w.heap.size) 8 oM;have Pc0_9:=hcc (w.heap.size) 9 oM;have Rc0_9:=hfc (w.heap.size) 9 oM;have Pc0_10:=hcc (w.heap.size) 10 oM;have Rc0_10:=hfc (w.heap.size) 10 oM;have Pc0_11:=hcc (w.heap.size) 11 oM;have Rc0_11:=hfc (w.heap.size) 11 oM;have Pc0_12:=hcc (w.heap.size) 12 oM;have Rc0_12:=hfc (w.heap.size) 12 oM;have Pc0_13:=hcc (w.heap.size) 13 oM;have Rc0_13:=hfc (w.heap.size) 13 oM;have Pc0_14:=hcc (w.heap.size) 14 oM;have Rc0_14:=hfc (w.heap.size) 14 oM;have hyc__0:w.heap.size<wc.heap.size:=oM;clear hcc hfc;(try simp[*] at Pc0_0);(try simp[*] at Rc0_0);(try simp[*] at Pc0_1);(try simp[*] at Rc0_1);(try simp[*] at Pc0_2);(try simp[*] at Rc0_2);(try simp[*] at Pc0_3);(try simp[*] at Rc0_3);(try simp[*] at Pc0_4);(try simp[*] at Rc0_4);(try simp[*] at Pc0_5);(try simp[*] at Rc0_5);(try simp[*] at Pc0_6);(try simp[*] at Rc0_6);(try simp[*] at Pc0_7);(try simp[*] at Rc0_7);(try simp[*] at Pc0_8);(try simp[*] at Rc0_8);(try simp[*] at Pc0_9);(try simp[*] at Rc0_9);(try simp[*] at Pc0_10);(try simp[*] at Rc0_10);(try simp[*] at Pc0_11);(try simp[*] at Rc0_11);(try simp[*] at Pc0_12);(try simp[*] at Rc0_12);(try simp[*] at Pc0_13);(try simp[*] at Rc0_13);(try simp[*] at Pc0_14);(try simp[*] at Rc0_14))|(go_at_call 265;refine(cJ6 _ _ _ _ _ _  ).mono ?_;rintro e wd ⟨rfl,hxd⟩;have hzd:=hxd.size;obtain⟨hcd,hfd⟩:=hxd.cells;(repeat (first|simp only[World.size_alloc] at hzd hcd hfd|simp only[World.size_setCell] at hzd hcd hfd));(try have hcrd_a:=fun u v (h0:wa.heap.size<=u) h=>hcd u v h);(try have hfrd_a:=fun u v (h0:wa.heap.size<=u) h=>hfd u v h);(try have hyd_a_0:wa.heap.size<wd.heap.size:=oM);(try have hyd_a_1:wa.heap.size+1<wd.heap.size:=oM);(try have hyd_a_2:wa.heap.size+1+1<wd.heap.size:=oM);(try have hcrd_b:=fun u v (h0:wb.heap.size<=u) h=>hcd u v h);(try have hfrd_b:=fun u v (h0:wb.heap.size<=u) h=>hfd u v h);(try have hyd_b_0:wb.heap.size<wd.heap.size:=oM);(try have hyd_b_1:wb.heap.size+1<wd.heap.size:=oM);(try have hyd_b_2:wb.heap.size+1+1<wd.heap.size:=oM);(try have hcrd_c:=fun u v (h0:wc.heap.size<=u) h=>hcd u v h);(try have hfrd_c:=fun u v (h0:wc.heap.size<=u) h=>hfd u v h);(try have hyd_c_0:wc.heap.size<wd.heap.size:=oM);(try have hyd_c_1:wc.heap.size+1<wd.heap.size:=oM);(try have hyd_c_2:wc.heap.size+1+1<wd.heap.size:=oM);have Pd0_0:=hcd (w.heap.size) 0 oM;have Rd0_0:=hfd (w.heap.size) 0 oM;have Pd0_1:=hcd (w.heap.size) 1 oM;have Rd0_1:=hfd (w.heap.size) 1 oM;have Pd0_2:=hcd (w.heap.size) 2 oM;have Rd0_2:=hfd (w.heap.size) 2 oM;have Pd0_3:=hcd (w.heap.size) 3 oM;have Rd0_3:=hfd (w.heap.size) 3 oM;have Pd0_4:=hcd (w.heap.size) 4 oM;have Rd0_4:=hfd (w.heap.size) 4 oM;have Pd0_5:=hcd (w.heap.size) 5 oM;have Rd0_5:=hfd (w.heap.size) 5 oM;have Pd0_6:=hcd (w.heap.size) 6 oM;have Rd0_6:=hfd (w.heap.size) 6 oM;have Pd0_7:=hcd (w.heap.size) 7 oM;have Rd0_7:=hfd (w.heap.size) 7 oM;have Pd0_8:=hcd (w.heap.size) 8 oM;have Rd0_8:=hfd (w.heap.size) 8 oM;have Pd0_9:=hcd (w.heap.size) 9 oM;have Rd0_9:=hfd (w.heap.size) 9 oM;have Pd0_10:=hcd (w.heap.size) 10 oM;have Rd0_10:=hfd (w.heap.size) 10 oM;have Pd0_11:=hcd (w.heap.size) 11 oM;have Rd0_11:=hfd (w.heap.size) 11 oM;have Pd0_12:=hcd (w.heap.size) 12 oM;have Rd0_12:=hfd (w.heap.size) 12 oM;have Pd0_13:=hcd (w.heap.size) 13 oM;have Rd0_13:=hfd (w.heap.size) 13 oM;have Pd0_14:=hcd (w.heap.size) 14 oM;have Rd0_14:=hfd (w.heap.size) 14 oM;have hyd__0:w.heap.size<wd.heap.size:=oM;clear hcd hfd;(try simp[*] at Pd0_0);(try simp[*] at Rd0_0);(try simp[*] at Pd0_1);(try simp[*] at Rd0_1);(try simp[*] at Pd0_2);(try simp[*] at Rd0_2);(try simp[*] at Pd0_3);(try simp[*] at Rd0_3);(try simp[*] at Pd0_4);(try simp[*] at Rd0_4);(try simp[*] at Pd0_5);(try simp[*] at Rd0_5);(try simp[*] at Pd0_6);(try simp[*] at Rd0_6);(try simp[*] at Pd0_7);(try simp[*] at Rd0_7);(try simp[*] at Pd0_8);(try simp[*] at Rd0_8);(try simp[*] at Pd0_9);(try simp[*] at Rd0_9);(try simp[*] at Pd0_10);(try simp[*] at Rd0_10);(try simp[*] at Pd0_11);(try simp[*] at Rd0_11);(try simp[*] at Pd0_12);(try simp[*] at Rd0_12);(try simp[*] at Pd0_13);(try simp[*] at Rd0_13);(try simp[*] at Pd0_14);(try simp[*] at Rd0_14)))
 all_goals
  go_ret
  refine⟨by first|rfl|(simp[EU,opZ,inb, *];done)|(simp[EU,opZ,inb, *];omega)|(simp_all [EU,opZ,inb,bq,bn];done)|(simp_all [EU,opZ,inb,bq,bn];omega),?_⟩
  exact xT
noncomputable def aA0:aQ:=⟨0,0,⟨⟨0,0,0,0,0,[]⟩⟩,false,⟨0,0,0,0,0⟩,0⟩
noncomputable def OZ(id:Int):aQ:=if DY id then⟨id,0,⟨⟨0,0,0,0,0,[]⟩⟩,false,⟨0,0,0,0,0⟩,0⟩ else aA0
theorem aV8(w:World)(Ay:Int):Calls Tryz.prog 73 #[.int .i64 Ay] w (Ret w fun r0 w'=>PU w.heap.size w' r0 (OZ Ay)):=by
 have rr:=JM
 go_enter Tryz.func73,Tryz.ntmps73
 go_wp2_with (first|(go_at_call 170;refine(OU _ _  ).mono ?_;rintro e wa ⟨rfl,rfl⟩))
 all_goals
  refine bodyPost_ret (by simp[results,Tryz.results73,go_sem, *];try rfl) rfl ?_
  refine⟨_,rfl,?_,?_⟩
  .
   exact xT
  exact(PU.cast (PU.mk (by first|(with_reducible exact bM7 _ _ _ _)|(with_reducible refine Ba.mono (Ba.keep (by assumption) ?_) ?_;rotate_left;(focus omega);(focus(exact cB5))))) (by first|rfl|(simp[OZ,aA0, *];done)|(simp[OZ,aA0, *];omega)|(simp_all [OZ,aA0,bq,bn];done)|(simp_all [OZ,aA0,bq,bn];omega)))
theorem Ba.boxS{B:Nat}{e:TypeId}{n:Nat}{w:World}{v:Value}{xs:List Int}(h:Ba B e n w v xs){X:Nat}{t:TypeId}{a:Array Value}(hX:Blk w X t a)(h1:t≠e)(i:Nat)(u:Value):Ba B e n (w.setCell ⟨X,i,none⟩ u) v xs :=
 Ba.upd' h ((Upd.refl w [X]).setCell (by simp) _) (fun k hk hf=>by
  obtain⟨cur,hb⟩:=h.typed hk
  simp at hf;subst hf
  exact h1 (hX.same hb))
def CN(w:World)(v:Value)(s:aQ):Prop:=∃t2:Value,v=.agg #[.int .i64 s.Id,.int .i64 s.Seq,.int .i64 s.View.Jobs.Index,.int .i64 s.View.Jobs.Time,.int .i64 s.View.Jobs.Holder,.int .i64 s.View.Jobs.Epoch,.int .i64 s.View.Jobs.Until,t2,.bool s.Busy,.int .i64 s.Op.Kind,.int .i64 s.Op.A,.int .i64 s.Op.B,.int .i64 s.Op.C,.int .i64 s.Op.D,.int .i64 s.Index]/\Aw 2 w t2 (KF s.View.Jobs.Open)
def EB(B:Nat)(w:World)(v:Value)(s:aQ)(F:List Nat):Prop:=∃t2:Value,v=.agg #[.int .i64 s.Id,.int .i64 s.Seq,.int .i64 s.View.Jobs.Index,.int .i64 s.View.Jobs.Time,.int .i64 s.View.Jobs.Holder,.int .i64 s.View.Jobs.Epoch,.int .i64 s.View.Jobs.Until,t2,.bool s.Busy,.int .i64 s.Op.Kind,.int .i64 s.Op.A,.int .i64 s.Op.B,.int .i64 s.Op.C,.int .i64 s.Op.D,.int .i64 s.Index]/\Ba B 286 2 w t2 (KF s.View.Jobs.Open)/\F=Ep [t2]
def EK(s:aQ):Nat:=s.View.Jobs.Open.length*2
def OR(B:Nat)(w:World)(v:Value)(s:aQ)(F:List Nat)(q:Int):Prop:=∃t2:Value,v=.agg #[.int .i64 s.Id,.int .i64 s.Seq,.int .i64 s.View.Jobs.Index,.int .i64 s.View.Jobs.Time,.int .i64 s.View.Jobs.Holder,.int .i64 s.View.Jobs.Epoch,.int .i64 s.View.Jobs.Until,t2,.bool s.Busy,.int .i64 s.Op.Kind,.int .i64 s.Op.A,.int .i64 s.Op.B,.int .i64 s.Op.C,.int .i64 s.Op.D,.int .i64 s.Index]/\Ba B 286 2 w t2 (run q (s.View.Jobs.Open.length*2))/\F=Ep [t2]
section
variable {B B':Nat} {w w':World} {v:Value} {s s':aQ} {F:List Nat} {q:Int}
theorem CN.shape(h:CN w v s):∃a7 n7 k7,v=.agg #[.int .i64 s.Id,.int .i64 s.Seq,.int .i64 s.View.Jobs.Index,.int .i64 s.View.Jobs.Time,.int .i64 s.View.Jobs.Holder,.int .i64 s.View.Jobs.Epoch,.int .i64 s.View.Jobs.Until,.slice a7 n7 k7,.bool s.Busy,.int .i64 s.Op.Kind,.int .i64 s.Op.A,.int .i64 s.Op.B,.int .i64 s.Op.C,.int .i64 s.Op.D,.int .i64 s.Index]:=by
 obtain⟨t2,rfl,h2⟩:=h
 obtain⟨a2,n2,k2,rfl⟩:=h2.shape
 exact⟨a2,n2,k2,rfl⟩
theorem CN.ext(h:CN w v s)(x:Ext w w'):CN w' v s:=let ⟨t2,e,h2⟩:=h;⟨t2,e,h2.ext x⟩
theorem EB.rd(h:EB B w v s F):CN w v s:=let ⟨t2,e,h2,_⟩:=h;⟨t2,e,h2.ints⟩
theorem EB.ext(h:EB B w v s F)(x:Ext w w'):EB B w' v s F:=let ⟨t2,e,h2,hF⟩:=h;⟨t2,e,Own.ext h2 x,hF⟩
theorem EB.keep(h:EB B w v s F)(x:Chg B w w'):EB B w' v s F:=let ⟨t2,e,h2,hF⟩:=h;⟨t2,e,h2.keep x,hF⟩
theorem EB.mono(h:EB B w v s F)(x:B'<=B):EB B' w v s F:=let ⟨t2,e,h2,hF⟩:=h;⟨t2,e,h2.mono x,hF⟩
theorem EB.upd(h:EB B w v s F){fs:List Nat}(x:Upd w w' fs)(hn:∀k,k ∈ F->k ∈ fs->False):EB B w' v s F:=by
 obtain⟨t2,e,h2,rfl⟩:=h
 exact⟨t2,e,Ba.upd' h2 x hn,rfl⟩
theorem EB.box(h:EB B w v s F){X:Nat}{a:Array Value}(hX:Blk w X 96 a)(i:Nat)(u:Value):EB B (w.setCell ⟨X,i,none⟩ u) v s F:=let ⟨t2,e,h2,hF⟩:=h;⟨t2,e,h2.boxS hX dC i u,hF⟩
theorem EB.low(h:EB B w v s F):∀k,k ∈ F->B<=k/\k<w.heap.size:=by
 obtain⟨t2,e,h2,rfl⟩:=h
 exact fun k hk=>h2.foot k hk
theorem OR.ext(h:OR B w v s F q)(x:Ext w w'):OR B w' v s F q:=let ⟨t2,e,h2,hF⟩:=h;⟨t2,e,Own.ext h2 x,hF⟩
theorem OR.upd(h:OR B w v s F q){fs:List Nat}(x:Upd w w' fs)(hn:∀k,k ∈ F->k ∈ fs->False):OR B w' v s F q:=by
 obtain⟨t2,e,h2,rfl⟩:=h
 exact⟨t2,e,Ba.upd' h2 x hn,rfl⟩
theorem bR1(h:CN w v s)(q2:s.View.Jobs.Open.length<=1048576):Calls Tryz.prog 45 #[v] w (Ret w fun v' w'=>∃F,EB w.heap.size w' v' s F):=by
 obtain⟨t2,rfl,h2⟩:=h
 refine(bF4 w _ _ _ _ _ _ _ t2 _ _ (SZ _) _ _ _ _ _ _ _ h2 q2).mono ?_
 rintro e w'⟨_,rfl,hx,u2,rfl,g2⟩
 exact⟨_,rfl,hx,_,u2,rfl,g2,rfl⟩
theorem bR2(h:CN w v s){left:Int}(h0:0<=left)(h1:left<=1048576):Calls Tryz.prog 35 #[v,.int .i64 left] w (Ret w fun v' _=>SzR left (s.View.Jobs.Open.length) v'):=by
 obtain⟨t2,rfl,h2⟩:=h
 exact bF5 w _ _ _ _ _ _ _ t2 _ _ (SZ _) _ _ _ _ _ _ _ _ h2 h0 h1
theorem aO7{u:Value}(h:CN w v s)(k:CN w u s):Calls Tryz.prog 54 #[v,u] w (Fz w (.bool true)):=by
 obtain⟨t2,rfl,h2⟩:=h
 obtain⟨u2,rfl,k2⟩:=k
 exact bF6 w _ _ _ _ _ _ _ t2 u2 _ _ _ _ _ _ _ _ h2 k2
theorem aA1(h:EB B w v s F)(hq0:0<=q)(hq1:q+(EK s:Nat)<=4611686018427387904):Calls Tryz.prog 61 #[v,.int .i64 q] w (IX w F (.int .i64 (q+(EK s:Nat))) fun w'=>OR B w' v s F q):=by
 obtain⟨t2,rfl,h2,rfl⟩:=h
 unfold EK at hq1 ⊢
 refine(aO0 w B _ _ _ _ _ _ _ t2 _ _ (SZ _) _ _ _ _ _ _ _ q h2 hq0 oM).mono ?_
 rintro e w'⟨rfl,hx,g2⟩
 exact⟨rfl,hx,t2,rfl,g2,rfl⟩
end
theorem aV9{w:World}{v:Value}{s:aQ}(h:CN w v s):Calls Tryz.prog 212 #[v] w (Fz w (.bool (EU s))):=by
 obtain⟨t2,rfl,h2⟩:=h
 exact aV6 w _ _ _ _ _ _ _ t2 _ _ _ _ _ _ _ _ h2
theorem aW0{w:World}{v:Value}{s:aQ}(h:CN w v s):Calls Tryz.prog 277 #[v] w (Fz w (.bool (EU s))):=by
 obtain⟨t2,rfl,h2⟩:=h
 exact aV7 w _ _ _ _ _ _ _ t2 _ _ _ _ _ _ _ _ h2
end Go.Proofs.YtkpmbocbbgocbaaGreat
