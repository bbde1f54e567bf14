/- WHc. -/
import Derived.Test.YtkpmbocbbgocbaaGreatQB11
set_option linter.unusedSimpArgs false
set_option linter.unusedVariables false
set_option maxHeartbeats 8000000
set_option maxRecDepth 100000
namespace Go.Proofs.YtkpmbocbbgocbaaGreat
open Go.RowKit Go.G8
def jM(n:Int):Bool:=inb n 0 5
noncomputable def Ve(d:Fb)(n:Int):Bool:=Ch d&&(jM n&&Jk d n.toNat)
noncomputable def Rk(d:Fb)(n:Int):Int:=if Ch d&&jM n then d.Clocks[n.toNat]?.getD 0 else -1
theorem bL{d:Fb}(h:Ch d=true):d.Up.length=6:=by
 unfold Ch at h
 simp only[Bool.and_eq_true,decide_eq_true_eq] at h
 exact h.2.1
theorem bM{d:Fb}(h:Ch d=true):d.Clocks.length=6:=by
 unfold Ch He at h
 simp only[Bool.and_eq_true,decide_eq_true_eq] at h
 exact h.1.1
theorem jN(w:World)(n:Int):Calls Tryz.prog 81 #[.int .i64 n] w fun e w'=>e=.returned (.bool (jM n))/\w=w':=by
 go_enter Tryz.func81,Tryz.ntmps81
 go_wp2_with (first|(go_at_call 176;refine(Cf _ n 0 5).mono ?_;rintro e9 w9 ⟨rfl,rfl⟩))
 go_ret
 exact⟨rfl,rfl⟩
theorem vN{w:World}{v:Value}{d:Fb}(h:Gu w v d)(n:Int):Calls Tryz.prog 25 #[v,.int .i64 n] w (Cp w (.bool (Ve d n))):=by
 have HH:=Lib.hid h
 obtain⟨p0,p1,p2,p3,p4,p5,p6,t7,t8,rfl,l0,l1,l2,l3,l4,l5,l6,g0,g1,g2,g3,g4,g5,g6,g7,g8⟩:=h
 obtain⟨ua,uc,rfl,huc,hum,-⟩:=Sl.bools g8
 unfold maxLen at hum
 obtain⟨un,hun⟩:∃x,x=d.Up.length:=⟨_,rfl⟩
 rw[<-hun] at huc ⊢
 have HUN:=Lib.hid hun;clear hun
 obtain⟨L,hL⟩:∃L:List Value,L=(p0++(p1++(p2++(p3++(p4++(p5++(p6++([t7]++([Value.slice ua un uc]++[]))))))))):=⟨_,rfl⟩
 have hLn:L.length=73:=by rw[hL];simp[l0,l1,l2,l3,l4,l5,l6]
 rw[<-hL]
 have HV:=Lib.hid (show Gu w (.agg L.toArray) d from by rw[hL,HUN.out];exact HH.out)
 have h8:=g8
 rw[<-HUN.out] at h8
 obtain⟨W0,hW0⟩:∃W0,W0=w.alloc (.cells L.toArray 106):=⟨_,rfl⟩
 have E0:Ext w W0:=by rw[hW0];exact(Ext.refl _).alloc _
 have BL:Bk W0 w.heap.size 106 L:=by rw[hW0];exact Bk.new _ _ _
 have RL:W0.rangeAt w.heap.size 0 L:=Bk.range (A:=[]) (C:=[]) (Bk.cast BL (by simp)) rfl
 have BD:Bk W0 w.heap.size 106 (p0++(p1++(p2++(p3++(p4++(p5++(p6++([t7]++([Value.slice ua un uc]++[]))))))))):=Bk.cast BL hL
 have LW:=BL.lt
 have cC:W0.cell? ⟨w.heap.size,71,none⟩=some t7:=Bk.cellAt (A:=(p0++p1++p2++p3++p4++p5++p6)) (C:=([Value.slice ua un uc]++[])) (Bk.c BD) (by simp[l0,l1,l2,l3,l4,l5,l6])
 have cU:W0.cell? ⟨w.heap.size,72,none⟩=some (.slice ua un uc):=Bk.cellAt (A:=(p0++p1++p2++p3++p4++p5++p6++[t7])) (C:=[]) (Bk.c BD) (by simp[l0,l1,l2,l3,l4,l5,l6])
 clear hL BL BD
 go_enter Tryz.func25,Tryz.ntmps25
 go_upto_region 1 with(fail)
 rw[<-hW0]
 clear hW0
 have g7:Aj 1 w t7 d.Clocks:=g7
 have gc:=g7
 obtain⟨ta,tn,tk,rfl,htl,htc,htm,htp⟩:=gc.open_
 simp only[Nat.mul_one] at htl htp
 unfold maxLen at htm
 have HTL:=Lib.hid htl;have HTP:=Lib.hid htp;clear htl htp
 go_wp2_with (first|(refine wpList_load_mid rfl 106 _ rfl w.heap.size 0 (by rfl) L _ (Al RL Aa) Tryz.underlying106 rfl (by rw[hLn];kernel_rfl) ?_))
 refine(Oe (HV.out.ext Aa)).mono ?_
 rintro e w1⟨rfl,hx1⟩
 have X1:Ext W0 w1:=hx1;clear hx1
 cases b1:Ch d
 .
  go_wp2_with (fail)
  go_ret
  exact⟨by rw[show Ve d n=false from by unfold Ve;simp[b1]];try rfl,by exact Aa⟩
 have B1:=Lib.hid b1;clear b1
 go_wp2_with fail
 refine(jN _ n).mono ?_
 rintro e9 w9⟨rfl,rfl⟩
 cases b2:jM n
 .
  go_wp2_with (fail)
  go_ret
  exact⟨by rw[show Ve d n=false from by unfold Ve;simp[b2]];try rfl,by exact Aa⟩
 have hn:=Dz.1 (show inb n 0 5=true from b2)
 have B2:=Lib.hid b2;clear b2
 obtain⟨m,hm⟩:∃m:Nat,(m:Int)=n:=⟨n.toNat,by omega⟩
 subst hm
 have hm6:m<6:=by omega
 obtain⟨ub,uo,uc2,eu,-,-,hub,hup⟩:=Rt (show Pn w _ d.Up from by rw[HUN.out] at h8;exact h8) (bL B1.out)
 have hu6:un=6:=by rw[HUN.out];exact bL B1.out
 rw[<-HUN.out] at eu
 have HU6:=Lib.hid hu6;clear hu6
 rw[HU6.out] at eu
 cases eu
 have hb:m<un:=by have:=HU6.out;omega
 have u0:=X1.cell (E0.cell (hup m hm6))
 have cU1:=X1.cell cU
 clear hup h8
 have HD:=Lib.hid (show Ve d m=Jk d m from by unfold Ve;rw[B1.out,B2.out];simp)
 go_wp2_with fail
 go_ret
 exact⟨by rw[HD.out];try rfl,by exact Aa⟩
theorem uB{w:World}{v:Value}{d:Fb}(h:Gu w v d)(n:Int):Calls Tryz.prog 26 #[v,.int .i64 n] w (Cp w (.int .i64 (Rk d n))):=by
 have HH:=Lib.hid h
 obtain⟨p0,p1,p2,p3,p4,p5,p6,t7,t8,rfl,l0,l1,l2,l3,l4,l5,l6,g0,g1,g2,g3,g4,g5,g6,g7,g8⟩:=h
 obtain⟨ua,uc,rfl,huc,hum,-⟩:=Sl.bools g8
 unfold maxLen at hum
 obtain⟨un,hun⟩:∃x,x=d.Up.length:=⟨_,rfl⟩
 rw[<-hun] at huc ⊢
 have HUN:=Lib.hid hun;clear hun
 obtain⟨L,hL⟩:∃L:List Value,L=(p0++(p1++(p2++(p3++(p4++(p5++(p6++([t7]++([Value.slice ua un uc]++[]))))))))):=⟨_,rfl⟩
 have hLn:L.length=73:=by rw[hL];simp[l0,l1,l2,l3,l4,l5,l6]
 rw[<-hL]
 have HV:=Lib.hid (show Gu w (.agg L.toArray) d from by rw[hL,HUN.out];exact HH.out)
 have h8:=g8
 rw[<-HUN.out] at h8
 obtain⟨W0,hW0⟩:∃W0,W0=w.alloc (.cells L.toArray 106):=⟨_,rfl⟩
 have E0:Ext w W0:=by rw[hW0];exact(Ext.refl _).alloc _
 have BL:Bk W0 w.heap.size 106 L:=by rw[hW0];exact Bk.new _ _ _
 have RL:W0.rangeAt w.heap.size 0 L:=Bk.range (A:=[]) (C:=[]) (Bk.cast BL (by simp)) rfl
 have BD:Bk W0 w.heap.size 106 (p0++(p1++(p2++(p3++(p4++(p5++(p6++([t7]++([Value.slice ua un uc]++[]))))))))):=Bk.cast BL hL
 have LW:=BL.lt
 have cC:W0.cell? ⟨w.heap.size,71,none⟩=some t7:=Bk.cellAt (A:=(p0++p1++p2++p3++p4++p5++p6)) (C:=([Value.slice ua un uc]++[])) (Bk.c BD) (by simp[l0,l1,l2,l3,l4,l5,l6])
 have cU:W0.cell? ⟨w.heap.size,72,none⟩=some (.slice ua un uc):=Bk.cellAt (A:=(p0++p1++p2++p3++p4++p5++p6++[t7])) (C:=[]) (Bk.c BD) (by simp[l0,l1,l2,l3,l4,l5,l6])
 clear hL BL BD
 go_enter Tryz.func26,Tryz.ntmps26
 go_upto_region 1 with(fail)
 rw[<-hW0]
 clear hW0
 have g7:Aj 1 w t7 d.Clocks:=g7
 have gc:=g7
 obtain⟨ta,tn,tk,rfl,htl,htc,htm,htp⟩:=gc.open_
 simp only[Nat.mul_one] at htl htp
 unfold maxLen at htm
 have HTL:=Lib.hid htl;have HTP:=Lib.hid htp;clear htl htp
 go_wp2_with (first|(refine wpList_load_mid rfl 106 _ rfl w.heap.size 0 (by rfl) L _ (Al RL Aa) Tryz.underlying106 rfl (by rw[hLn];kernel_rfl) ?_))
 refine(Oe (HV.out.ext Aa)).mono ?_
 rintro e w1⟨rfl,hx1⟩
 have X1:Ext W0 w1:=hx1;clear hx1
 cases b1:Ch d
 .
  go_wp2_with (fail)
  go_ret
  exact⟨by rw[show Rk d n=-1 from by unfold Rk;simp[b1]];try rfl,by exact Aa⟩
 have B1:=Lib.hid b1;clear b1
 go_wp2_with fail
 refine(jN _ n).mono ?_
 rintro e9 w9⟨rfl,rfl⟩
 cases b2:jM n
 .
  go_wp2_with (fail)
  go_ret
  exact⟨by rw[show Rk d n=-1 from by unfold Rk;simp[b2]];try rfl,by exact Aa⟩
 have hn:=Dz.1 (show inb n 0 5=true from b2)
 have B2:=Lib.hid b2;clear b2
 obtain⟨m,hm⟩:∃m:Nat,(m:Int)=n:=⟨n.toNat,by omega⟩
 subst hm
 have hm6:m<6:=by omega
 have ht6:tn=6:=by rw[<-HTL.out];exact bM B1.out
 have HT6:=Lib.hid ht6;clear ht6
 have hb:m<tn:=by have:=HT6.out;omega
 obtain⟨tb,tq,rfl,htb,hx⟩:=HTP.out m hb
 obtain⟨x,hx1,hx2⟩:=hx 0 dC
 simp only[Nat.add_zero] at hx1 hx2
 have u0:=X1.cell (E0.cell hx2)
 have cC1:=X1.cell cC
 have HD:=Lib.hid (show Rk d m=x from by unfold Rk;rw[B1.out,B2.out];simp[hx1])
 clear hx hx1 hx2 HTP
 go_wp2_with fail
 go_ret
 exact⟨by rw[HD.out];try rfl,by exact Aa⟩
end Go.Proofs.YtkpmbocbbgocbaaGreat
