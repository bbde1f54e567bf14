/- WGa WGb WFa WFb WGc WGd WHa. -/
import Derived.Test.YtkpmbocbbgocbaaGreatQB9
set_option linter.unusedSimpArgs false
set_option linter.unusedVariables false
set_option maxHeartbeats 8000000
set_option maxRecDepth 100000
namespace Go.Proofs.YtkpmbocbbgocbaaGreat
open Go.RowKit Go.G8
theorem fR{w:World}{v:Value}{d:Fb}(h:Gu w v d)(hu:d.Up.length=6):Calls Tryz.prog 84 #[v] w (Cp w (.bool (Dh d))):=by
 obtain⟨p0,p1,p2,p3,p4,p5,p6,t7,t8,rfl,l0,l1,l2,l3,l4,l5,l6,g0,g1,g2,g3,g4,g5,g6,g7,g8⟩:=h
 obtain⟨ub,uo,uc,rfl,huc,hum,hub,hup⟩:=Rt g8 hu
 unfold maxLen at hum
 obtain⟨L,hL⟩:∃L:List Value,L=(p0++(p1++(p2++(p3++(p4++(p5++(p6++([t7]++([Value.slice (some ⟨ub,uo,none⟩) 6 uc]++[]))))))))):=⟨_,rfl⟩
 have hLn:L.length=73:=by rw[hL];simp[l0,l1,l2,l3,l4,l5,l6]
 rw[<-hL]
 obtain⟨W0,hW0⟩:∃W0,W0=w.alloc (.cells L.toArray 106):=⟨_,rfl⟩
 have E0:Ext w W0:=by rw[hW0];exact(Ext.refl _).alloc _
 have BL:Bk W0 w.heap.size 106 L:=by rw[hW0];exact Bk.new _ _ _
 have RL:W0.rangeAt w.heap.size 0 L:=Bk.range (A:=[]) (C:=[]) (Bk.cast BL (by simp)) rfl
 have BD:Bk W0 w.heap.size 106 (p0++(p1++(p2++(p3++(p4++(p5++(p6++([t7]++([Value.slice (some ⟨ub,uo,none⟩) 6 uc]++[]))))))))):=Bk.cast BL hL
 have LW:=BL.lt
 have R4:W0.rangeAt w.heap.size 61 p4:=Bk.range (A:=(p0++p1++p2++p3)) (cs:=p4) (C:=(p5++(p6++([t7]++([Value.slice (some ⟨ub,uo,none⟩) 6 uc]++[]))))) (Bk.c BD) (by simp[l0,l1,l2,l3,l4,l5,l6])
 have R5:W0.rangeAt w.heap.size 65 p5:=Bk.range (A:=(p0++p1++p2++p3++p4)) (cs:=p5) (C:=(p6++([t7]++([Value.slice (some ⟨ub,uo,none⟩) 6 uc]++[])))) (Bk.c BD) (by simp[l0,l1,l2,l3,l4,l5,l6])
 have cC:W0.cell? ⟨w.heap.size,71,none⟩=some t7:=Bk.cellAt (A:=(p0++p1++p2++p3++p4++p5++p6)) (C:=([Value.slice (some ⟨ub,uo,none⟩) 6 uc]++[])) (Bk.c BD) (by simp[l0,l1,l2,l3,l4,l5,l6])
 have cU:W0.cell? ⟨w.heap.size,72,none⟩=some (.slice (some ⟨ub,uo,none⟩) 6 uc):=Bk.cellAt (A:=(p0++p1++p2++p3++p4++p5++p6++[t7])) (C:=[]) (Bk.c BD) (by simp[l0,l1,l2,l3,l4,l5,l6])
 have hup:=fun k hk=>E0.cell (hup k hk)
 have hub:=Nat.lt_of_lt_of_le hub E0.size
 clear hL BL BD
 go_enter Tryz.func84,Tryz.ntmps84
 go_upto_region 1 with(fail)
 rw[<-hW0]
 clear hW0
 have u4:=hup 4 dC;have u5:=hup 5 dC
 have HC4:=g4
 obtain⟨s1,s2,e4,-,-⟩:=g4.leaves
 have d4:W0.cell? ⟨w.heap.size,61,none⟩=some (.int .i64 d.Ann.Id):=by
  have:=R4 0 (.int .i64 d.Ann.Id) (by rw[Ct (M:=[Value.int .i64 d.Ann.Id,s1,s2,Value.int .i64 d.Ann.Last]) e4];rfl)
  simpa using this
 clear e4 s1 s2
 have HC5:=g5
 obtain⟨s1,s2,e5,-,-⟩:=g5.leaves
 have d5:W0.cell? ⟨w.heap.size,65,none⟩=some (.int .i64 d.Bob.Id):=by
  have:=R5 0 (.int .i64 d.Bob.Id) (by rw[Ct (M:=[Value.int .i64 d.Bob.Id,s1,s2,Value.int .i64 d.Bob.Last]) e5];rfl)
  simpa using this
 clear e5 s1 s2
 cases b4:Jk d 4
 .
  rw[b4] at u4
  go_wp2_with (fail)
  go_ret
  exact⟨by rw[show Dh d=false from by unfold Dh;simp[b4]];try rfl,by exact Aa⟩
 rw[b4] at u4
 cases b5:Jk d 5
 .
  rw[b5] at u5
  go_wp2_with (fail)
  go_ret
  exact⟨by rw[show Dh d=false from by unfold Dh;simp[b5]];try rfl,by exact Aa⟩
 rw[b5] at u5
 go_wp2_with (first|(refine Hp rfl 100 _ rfl w.heap.size 61 (by rfl) p4 _ (Al R4 Aa) Tryz.underlying100 rfl (by rw[l4];kernel_rfl) ?_))
 refine(Wb (HC4.ext Aa)).mono ?_
 rintro e w1⟨rfl,hx1⟩
 have X1:Ext W0 w1:=hx1;clear hx1
 cases k4:Dm d.Ann
 .
  go_wp2_with (fail)
  go_ret
  exact⟨by rw[show Dh d=false from by unfold Dh;simp[k4]];try rfl,by exact Aa⟩
 have f4:=X1.cell d4
 by_cases e4:d.Ann.Id=4
 rotate_left
 .
  have e41:(d.Ann.Id == 4)=false:=by simpa using e4
  have e42:decide (d.Ann.Id=4)=false:=by simpa using e4
  have He4:=Lib.hid e4;clear e4
  go_wp2_with (fail)
  go_ret
  exact⟨by rw[show Dh d=false from by unfold Dh;simp[He4.out]];try rfl,by exact Aa⟩
 have e41:(d.Ann.Id == 4)=true:=by simpa using e4
 have e42:decide (d.Ann.Id=4)=true:=by simpa using e4
 have He4:=Lib.hid e4;clear e4
 go_wp2_with (first|(refine Hp rfl 100 _ rfl w.heap.size 65 (by rfl) p5 _ (Al R5 Aa) Tryz.underlying100 rfl (by rw[l5];kernel_rfl) ?_))
 refine(Wb (HC5.ext Aa)).mono ?_
 rintro e w2⟨rfl,hx2⟩
 have X2:Ext W0 w2:=X1.trans hx2;clear hx2
 cases k5:Dm d.Bob
 .
  go_wp2_with (fail)
  go_ret
  exact⟨by rw[show Dh d=false from by unfold Dh;simp[k5]];try rfl,by exact Aa⟩
 have f5:=X2.cell d5
 by_cases e5:d.Bob.Id=5
 rotate_left
 .
  have e51:(d.Bob.Id == 5)=false:=by simpa using e5
  have e52:decide (d.Bob.Id=5)=false:=by simpa using e5
  have He5:=Lib.hid e5;clear e5
  go_wp2_with (fail)
  go_ret
  exact⟨by rw[show Dh d=false from by unfold Dh;simp[He5.out]];try rfl,by exact Aa⟩
 have e51:(d.Bob.Id == 5)=true:=by simpa using e5
 have e52:decide (d.Bob.Id=5)=true:=by simpa using e5
 have He5:=Lib.hid e5;clear e5
 go_wp2_with (fail)
 go_ret
 exact⟨by rw[show Dh d=true from by unfold Dh;simp[b4,b5,k4,k5,He4.out,He5.out]];try rfl,by exact Aa⟩
theorem oS{w:World}{v:Value}{n:Ap}(h:Lz w v n){t0 t1 t2 t3:Value}(k0:Ck 0 w t0 (Ac n.Two.A.Kept))(k1:Ck 1 w t1 (Ah n.Two.A.Wait))(k2:Ck 0 w t2 (Ac n.Two.B.Kept))(k3:Ck 1 w t3 (Ah n.Two.B.Wait)):Calls Tryz.prog 184 #[v,.agg #[t0,t1,t2,t3,.int .i64 0,.int .i64 0,.int .i64 0,.slice none 0 0,.int .i64 0,.int .i64 0,.int .i64 0,.slice none 0 0,.bool false,.int .i64 0,.int .i64 0,.slice none 0 0,.slice none 0 0,.int .i64 0,.slice none 0 0]] w (Cp w (.bool (eqB n (Wp n.Two)))):=by
 obtain⟨p,rfl⟩:=h.list
 obtain⟨s0,s1,s2,s3,s7,s11,s15,s16,s18,rfl,h0,h1,h2,h3,h7,h11,h15,h16,h18⟩:=h.leaves
 exact oO w _ _ _ _ _ _ _ _ n.Head.Num n.Head.Base n.Head.Time _ _ n.Next.Num n.Next.Base n.Next.Time _ _ n.More n.Book.Base n.Book.Time _ _ _ _ n.Durable _ _ h0 h1 h2 h3 h7 h11 h15 h16 h18 _ _ _ _ k0 k1 k2 k3
theorem oU{w:World}{v:Value}{d:Fb}(h:Gu w v d)(hu:d.Up.length=6):Calls Tryz.prog 86 #[v] w (Cp w (.bool (Mn d.Log (Jk d 0)))):=by
 obtain⟨p0,p1,p2,p3,p4,p5,p6,t7,t8,rfl,l0,l1,l2,l3,l4,l5,l6,g0,g1,g2,g3,g4,g5,g6,g7,g8⟩:=h
 obtain⟨ub,uo,uc,rfl,huc,hum,hub,hup⟩:=Rt g8 hu
 unfold maxLen at hum
 obtain⟨L,hL⟩:∃L:List Value,L=(p0++(p1++(p2++(p3++(p4++(p5++(p6++([t7]++([Value.slice (some ⟨ub,uo,none⟩) 6 uc]++[]))))))))):=⟨_,rfl⟩
 have hLn:L.length=73:=by rw[hL];simp[l0,l1,l2,l3,l4,l5,l6]
 rw[<-hL]
 obtain⟨W0,hW0⟩:∃W0,W0=w.alloc (.cells L.toArray 106):=⟨_,rfl⟩
 have E0:Ext w W0:=by rw[hW0];exact(Ext.refl _).alloc _
 have BL:Bk W0 w.heap.size 106 L:=by rw[hW0];exact Bk.new _ _ _
 have RL:W0.rangeAt w.heap.size 0 L:=Bk.range (A:=[]) (C:=[]) (Bk.cast BL (by simp)) rfl
 have BD:Bk W0 w.heap.size 106 (p0++(p1++(p2++(p3++(p4++(p5++(p6++([t7]++([Value.slice (some ⟨ub,uo,none⟩) 6 uc]++[]))))))))):=Bk.cast BL hL
 have LW:=BL.lt
 have R0:W0.rangeAt w.heap.size 0 p0:=Bk.range (A:=[]) (cs:=p0) (C:=(p1++(p2++(p3++(p4++(p5++(p6++([t7]++([Value.slice (some ⟨ub,uo,none⟩) 6 uc]++[]))))))))) (Bk.c BD) (by simp[l0,l1,l2,l3,l4,l5,l6])
 have cC:W0.cell? ⟨w.heap.size,71,none⟩=some t7:=Bk.cellAt (A:=(p0++p1++p2++p3++p4++p5++p6)) (C:=([Value.slice (some ⟨ub,uo,none⟩) 6 uc]++[])) (Bk.c BD) (by simp[l0,l1,l2,l3,l4,l5,l6])
 have cU:W0.cell? ⟨w.heap.size,72,none⟩=some (.slice (some ⟨ub,uo,none⟩) 6 uc):=Bk.cellAt (A:=(p0++p1++p2++p3++p4++p5++p6++[t7])) (C:=[]) (Bk.c BD) (by simp[l0,l1,l2,l3,l4,l5,l6])
 have hup:=fun k hk=>E0.cell (hup k hk)
 have hub:=Nat.lt_of_lt_of_le hub E0.size
 clear hL BL BD
 go_enter Tryz.func86,Tryz.ntmps86
 go_upto_region 1 with(fail)
 rw[<-hW0]
 clear hW0
 have u0:=hup 0 dC
 simp only[Nat.add_zero] at u0
 cases b0:Jk d 0
 rotate_left
 .
  rw[b0] at u0
  go_wp2_with (first|(refine wpList_load_mid rfl 81 _ rfl w.heap.size 0 (by rfl) p0 _ (Al R0 Aa) Tryz.underlying81 rfl (by rw[l0];kernel_rfl) ?_))
  refine(tU (g0.ext Aa)).mono ?_
  rintro e w1⟨rfl,hx1⟩
  have X1:Ext W0 w1:=hx1;clear hx1
  go_wp2_with fail
  go_ret
  exact⟨by rw[b0];try rfl,by exact Aa⟩
 rw[b0] at u0
 have HG:=Lib.hid g0
 obtain⟨s0,s1,s2,s3,s7,s11,s15,s16,s18,hp,h0,h1,h2,h3,-⟩:=g0.leaves
 have q0:W0.cell? ⟨w.heap.size,0,none⟩=some s0:=by
  have:=R0 0 s0 (by rw[hp];rfl)
  simpa using this
 have q1:W0.cell? ⟨w.heap.size,1,none⟩=some s1:=by
  have:=R0 1 s1 (by rw[hp];rfl)
  simpa using this
 have q2:W0.cell? ⟨w.heap.size,2,none⟩=some s2:=by
  have:=R0 2 s2 (by rw[hp];rfl)
  simpa using this
 have q3:W0.cell? ⟨w.heap.size,3,none⟩=some s3:=by
  have:=R0 3 s3 (by rw[hp];rfl)
  simpa using this
 clear hp
 obtain⟨a0,n0,k0,rfl⟩:=h0.shape
 obtain⟨a1,n1,k1,rfl⟩:=h1.shape
 obtain⟨a2,n2,k2,rfl⟩:=h2.shape
 obtain⟨a3,n3,k3,rfl⟩:=h3.shape
 go_wp2_with (fail)
 refine(Yw _ _ d.Log.Two.A.Kept _ d.Log.Two.A.Wait _ d.Log.Two.B.Kept _ d.Log.Two.B.Wait (h0.ext Aa) (h1.ext Aa) (h2.ext Aa) (h3.ext Aa)).mono ?_
 rintro e w1⟨rfl,hx1⟩
 have X1:Ext W0 w1:=hx1;clear hx1
 cases p0:Jy (⟨⟨d.Log.Two.A.Kept,d.Log.Two.A.Wait⟩,⟨d.Log.Two.B.Kept,d.Log.Two.B.Wait⟩⟩:Jg)
 .
  go_wp2_with (fail)
  go_ret
  exact⟨by rw[show Mn d.Log (Jk d 0)=false from by rw[b0];show Ig d.Log=false;unfold Ig;rw[show Jy d.Log.Two=false from p0];rfl];try rfl,by exact Aa⟩
 have P0:=Lib.hid (show Jy d.Log.Two=true from p0);clear p0
 have q0:=X1.cell q0
 have q1:=X1.cell q1
 have q2:=X1.cell q2
 have q3:=X1.cell q3
 go_wp2_with (first|(refine Hp rfl 81 _ rfl w.heap.size 0 (by rfl) p0 _ (Al R0 Aa) Tryz.underlying81 rfl (by rw[l0];kernel_rfl) ?_))
 refine(oS (HG.out.ext Aa) (h0.ext Aa) (h1.ext Aa) (h2.ext Aa) (h3.ext Aa)).mono ?_
 rintro e w2⟨rfl,hx2⟩
 have X2:Ext W0 w2:=X1.trans hx2;clear hx2
 have HD:=Lib.hid (show Mn d.Log (Jk d 0)=eqB d.Log (Wp d.Log.Two) from by rw[b0];show Ig d.Log=_;unfold Ig;rw[P0.out];rfl)
 go_wp2_with fail
 go_ret
 exact⟨by rw[HD.out];try rfl,by exact Aa⟩
theorem Oy:Iu []=true:=Pi (fun i h=>by simp at h)
theorem Ws{α:Type}{l:List α}{p:List α->Bool}(hn:p []=true)(h:p l=false):eqB l []=false:=Au (fun e=>by rw[e,hn] at h;cases h)
theorem bG{α:Type}(x:α)(l:List α):eqB (x::l) []=false:=Au (fun e=>by cases e)
theorem fS(w:World)(v u:Value)(l:List Ft)(h:Aj 2 w v (Dp l))(k:Aj 2 w u (Dp [])):Calls Tryz.prog 293 #[v,u] w (Cp w (.bool (eqB l []))):=by
 go_enter Tryz.func293,Tryz.ntmps293
 have X0:Ext w w:=Ext.refl _
 go_wp2_with (fail)
 refine(Xe _ _ l h).mono ?_
 rintro e w1⟨rfl,hx1⟩
 have X1:Ext w w1:=hx1;clear hx1
 cases b1:Iu l
 .
  go_wp2_with (fail)
  go_ret
  exact⟨by rw[show eqB l []=false from by exact Ws Oy b1];try rfl,by exact Aa⟩
 go_wp2_with (fail)
 refine(Xe _ _ [] (k.ext Aa)).mono ?_
 rintro e w2⟨rfl,hx2⟩
 have X2:=X1.trans hx2;clear hx2
 rw[Oy]
 go_wp2_with (fail)
 refine(oN _ _ _ l [] (h.ext Aa) (k.ext Aa)).mono ?_
 rintro e w3⟨rfl,hx3⟩
 have X3:=X2.trans hx3;clear hx3
 go_wp2_with fail
 go_ret
 exact⟨rfl,by exact Aa⟩
theorem cH(w:World)(v u:Value)(l:List Ft)(h:Aj 2 w v (Dp l))(k:Aj 2 w u (Dp [])):Calls Tryz.prog 388 #[v,u] w (Cp w (.bool (eqB l []))):=by
 obtain⟨b,kb,rfl,hkb,hkm,-⟩:=k.recs (f:=Ft.ints) (fun _=>rfl) dC
 obtain⟨a,ka,rfl,hka,ham,-⟩:=h.recs (f:=Ft.ints) (fun _=>rfl) dC
 unfold maxLen at hkm ham
 go_enter Tryz.func388,Tryz.ntmps388
 have X0:Ext w w:=Ext.refl _
 go_wp2_with (fail)
 refine(Sb _ _ l h).mono ?_
 rintro e w1⟨rfl,hx1⟩
 have X1:Ext w w1:=hx1;clear hx1
 cases b1:Iu l
 .
  go_wp2_with (fail)
  go_ret
  exact⟨by rw[show eqB l []=false from by exact Ws Oy b1];try rfl,by exact Aa⟩
 go_wp2_with (fail)
 refine(Sb _ _ [] (k.ext Aa)).mono ?_
 rintro e w2⟨rfl,hx2⟩
 have X2:=X1.trans hx2;clear hx2
 rw[Oy]
 simp only[List.length_nil] at hkb ⊢
 cases l with
 | cons x l =>
  simp only[List.length_cons] at hka ham ⊢
  have e1:(((l.length+1:Nat):Int) != 0)=true:=by simp;omega
  have e2:decide (l.length+1=0)=false:=by simp
  go_wp2_with fail
  go_ret
  exact⟨by rw[bG];try rfl,by exact Aa⟩
 | nil =>
  simp only[List.length_nil] at hka ham ⊢
  go_wp2_with fail
  go_loopw [5] (fun i wr=>i=.int .i64 0/\Ext w wr) (fun _ _=>0)
  case atStart=>exact⟨rfl,by exact Aa⟩
  case round =>
   obtain⟨rfl,he⟩:=hrel
   go_wp2_with fail
   go_ret
   exact⟨by rw[Fc rfl];try rfl,he⟩
theorem jH(w:World)(v u:Value)(l:List Hl)(h:Aj 5 w v (Fj l))(k:Aj 5 w u (Fj [])):Calls Tryz.prog 294 #[v,u] w (Cp w (.bool (eqB l []))):=by
 go_enter Tryz.func294,Tryz.ntmps294
 have X0:Ext w w:=Ext.refl _
 go_wp2_with (fail)
 refine(Zq _ _ l h).mono ?_
 rintro e w1⟨rfl,hx1⟩
 have X1:Ext w w1:=hx1;clear hx1
 cases b1:Kd l
 .
  go_wp2_with (fail)
  go_ret
  exact⟨by rw[show eqB l []=false from by exact Ws Nu b1];try rfl,by exact Aa⟩
 go_wp2_with (fail)
 refine(Zq _ _ [] (k.ext Aa)).mono ?_
 rintro e w2⟨rfl,hx2⟩
 have X2:=X1.trans hx2;clear hx2
 rw[Nu]
 go_wp2_with (fail)
 refine(rF _ _ _ l [] (h.ext Aa) (k.ext Aa)).mono ?_
 rintro e w3⟨rfl,hx3⟩
 have X3:=X2.trans hx3;clear hx3
 go_wp2_with fail
 go_ret
 exact⟨rfl,by exact Aa⟩
theorem fU(w:World)(v u:Value)(l:List Hl)(h:Aj 5 w v (Fj l))(k:Aj 5 w u (Fj [])):Calls Tryz.prog 389 #[v,u] w (Cp w (.bool (eqB l []))):=by
 obtain⟨b,kb,rfl,hkb,hkm,-⟩:=k.recs (f:=Hl.ints) (fun _=>rfl) dC
 obtain⟨a,ka,rfl,hka,ham,-⟩:=h.recs (f:=Hl.ints) (fun _=>rfl) dC
 unfold maxLen at hkm ham
 go_enter Tryz.func389,Tryz.ntmps389
 have X0:Ext w w:=Ext.refl _
 go_wp2_with (fail)
 refine(Ue _ _ l h).mono ?_
 rintro e w1⟨rfl,hx1⟩
 have X1:Ext w w1:=hx1;clear hx1
 cases b1:Kd l
 .
  go_wp2_with (fail)
  go_ret
  exact⟨by rw[show eqB l []=false from by exact Ws Nu b1];try rfl,by exact Aa⟩
 go_wp2_with (fail)
 refine(Ue _ _ [] (k.ext Aa)).mono ?_
 rintro e w2⟨rfl,hx2⟩
 have X2:=X1.trans hx2;clear hx2
 rw[Nu]
 simp only[List.length_nil] at hkb ⊢
 cases l with
 | cons x l =>
  simp only[List.length_cons] at hka ham ⊢
  have e1:(((l.length+1:Nat):Int) != 0)=true:=by simp;omega
  have e2:decide (l.length+1=0)=false:=by simp
  go_wp2_with fail
  go_ret
  exact⟨by rw[bG];try rfl,by exact Aa⟩
 | nil =>
  simp only[List.length_nil] at hka ham ⊢
  go_wp2_with fail
  go_loopw [5] (fun i wr=>i=.int .i64 0/\Ext w wr) (fun _ _=>0)
  case atStart=>exact⟨rfl,by exact Aa⟩
  case round =>
   obtain⟨rfl,he⟩:=hrel
   go_wp2_with fail
   go_ret
   exact⟨by rw[Fc rfl];try rfl,he⟩
theorem Xx:Gg Ha=true:=by
 unfold Gg Ha
 simp only[Bool.and_eq_true]
 exact⟨by decide,by decide,Oy,Nu,by decide,by simp⟩
theorem rP{s:Fl}(h:Gg s=false):eqB s Ha=false:=Au (fun e=>by rw[e,Xx] at h;cases h)
theorem rQ(s:Fl):eqB s Ha=(decide (s.Index=0)&&(decide (s.Time=0)&&(eqB s.Pairs []&&(eqB s.Jobs []&&(decide (s.Lease.Holder=0)&&(decide (s.Lease.Epoch=0)&&decide (s.Lease.Until=0))))))):=by
 refine Wq ?_
 rcases s with⟨a,b,c,d,⟨e,f,g⟩⟩
 simp[Ha,Bool.and_eq_true,Sk]
theorem fV{w:World}{v u2 u3:Value}{s:Fl}(h:Ml w v s)(q2:Aj 2 w u2 (Dp []))(q3:Aj 5 w u3 (Fj [])):Calls Tryz.prog 187 #[v,.agg #[.int .i64 0,.int .i64 0,u2,u3,.int .i64 0,.int .i64 0,.int .i64 0]] w (Cp w (.bool (eqB s Ha))):=by
 have HS:=Lib.hid h
 obtain⟨t2,t3,rfl,h2,h3⟩:=h
 obtain⟨a2,n2,k2,rfl⟩:=h2.shape
 obtain⟨b2,m2,j2,rfl⟩:=q2.shape
 obtain⟨a3,n3,k3,rfl⟩:=h3.shape
 obtain⟨b3,m3,j3,rfl⟩:=q3.shape
 have HM:=Lib.hid (rQ s)
 obtain⟨W0,hW0⟩:∃W0,W0=((w.alloc (.cells #[.int .i64 s.Index,.int .i64 s.Time,.slice a2 n2 k2,.slice a3 n3 k3,.int .i64 s.Lease.Holder,.int .i64 s.Lease.Epoch,.int .i64 s.Lease.Until] 86)).alloc (.cells #[.int .i64 0,.int .i64 0,.slice b2 m2 j2,.slice b3 m3 j3,.int .i64 0,.int .i64 0,.int .i64 0] 86)):=⟨_,rfl⟩
 have E0:Ext w W0:=by rw[hW0];exact Aa
 have KA:Blk W0 (w.heap.size) 86 #[.int .i64 s.Index,.int .i64 s.Time,.slice a2 n2 k2,.slice a3 n3 k3,.int .i64 s.Lease.Holder,.int .i64 s.Lease.Epoch,.int .i64 s.Lease.Until]:=by rw[hW0];exact(Blk.new _ _ _).alloc _
 have KB:Blk W0 (w.heap.size+1) 86 #[.int .i64 0,.int .i64 0,.slice b2 m2 j2,.slice b3 m3 j3,.int .i64 0,.int .i64 0,.int .i64 0]:=by rw[hW0];exact Blk.new2 _ _ _ _
 go_enter Tryz.func187,Tryz.ntmps187
 go_upto_region 1 with(fail)
 rw[<-hW0]
 clear hW0
 have X0:Ext w W0:=E0
 obtain⟨CA,FA,LA⟩:=KA.cfl
 obtain⟨CB,FB,LB⟩:=KB.cfl
 go_wp2_with (fail)
 refine(cV (HS.out.ext Aa)).mono ?_
 rintro e w1⟨rfl,hx1⟩
 have KA:=KA.ext hx1;clear CA FA LA
 have KB:=KB.ext hx1;clear CB FB LB
 have X1:=X0.trans hx1;clear hx1
 obtain⟨CA,FA,LA⟩:=KA.cfl
 obtain⟨CB,FB,LB⟩:=KB.cfl
 cases b1:Gg s
 .
  go_wp2_with (fail)
  go_ret
  exact⟨by rw[show eqB s Ha=false from by exact rP b1];try rfl,by exact Aa⟩
 go_wp2_with (fail)
 refine(cV (s:=Ha) ⟨_,_,rfl,q2.ext Aa,q3.ext Aa⟩).mono ?_
 rintro e w2⟨rfl,hx2⟩
 have KA:=KA.ext hx2;clear CA FA LA
 have KB:=KB.ext hx2;clear CB FB LB
 have X2:=X1.trans hx2;clear hx2
 obtain⟨CA,FA,LA⟩:=KA.cfl
 obtain⟨CB,FB,LB⟩:=KB.cfl
 rw[Xx]
 have B1:=Lib.hid b1;clear b1
 by_cases e0:s.Index=0
 rotate_left
 .
  have e01:(s.Index == 0)=false:=by simpa using e0
  have e02:decide (s.Index=0)=false:=by simpa using e0
  have He0:=Lib.hid e0;clear e0
  go_wp2_with (fail)
  go_ret
  exact⟨by rw[show eqB s Ha=false from by rw[HM.out];simp[He0.out]];try rfl,by exact Aa⟩
 have e01:(s.Index == 0)=true:=by simpa using e0
 have e02:decide (s.Index=0)=true:=by simpa using e0
 have He0:=Lib.hid e0;clear e0
 by_cases e1:s.Time=0
 rotate_left
 .
  have e11:(s.Time == 0)=false:=by simpa using e1
  have e12:decide (s.Time=0)=false:=by simpa using e1
  have He1:=Lib.hid e1;clear e1
  go_wp2_with (fail)
  go_ret
  exact⟨by rw[show eqB s Ha=false from by rw[HM.out];simp[He1.out]];try rfl,by exact Aa⟩
 have e11:(s.Time == 0)=true:=by simpa using e1
 have e12:decide (s.Time=0)=true:=by simpa using e1
 have He1:=Lib.hid e1;clear e1
 go_wp2_with (fail)
 refine(fS _ _ _ s.Pairs (h2.ext Aa) (q2.ext Aa)).mono ?_
 rintro e w3⟨rfl,hx3⟩
 have KA:=KA.ext hx3;clear CA FA LA
 have KB:=KB.ext hx3;clear CB FB LB
 have X3:=X2.trans hx3;clear hx3
 obtain⟨CA,FA,LA⟩:=KA.cfl
 obtain⟨CB,FB,LB⟩:=KB.cfl
 cases p2:eqB s.Pairs ([]:List Ft)
 .
  go_wp2_with (fail)
  go_ret
  exact⟨by rw[show eqB s Ha=false from by rw[HM.out];simp[p2]];try rfl,by exact Aa⟩
 have P2:=Lib.hid p2;clear p2
 go_wp2_with (fail)
 refine(jH _ _ _ s.Jobs (h3.ext Aa) (q3.ext Aa)).mono ?_
 rintro e w4⟨rfl,hx4⟩
 have KA:=KA.ext hx4;clear CA FA LA
 have KB:=KB.ext hx4;clear CB FB LB
 have X4:=X3.trans hx4;clear hx4
 obtain⟨CA,FA,LA⟩:=KA.cfl
 obtain⟨CB,FB,LB⟩:=KB.cfl
 cases p3:eqB s.Jobs ([]:List Hl)
 .
  go_wp2_with (fail)
  go_ret
  exact⟨by rw[show eqB s Ha=false from by rw[HM.out];simp[p3]];try rfl,by exact Aa⟩
 have P3:=Lib.hid p3;clear p3
 by_cases l0:s.Lease.Holder=0
 rotate_left
 .
  have l01:(s.Lease.Holder == 0)=false:=by simpa using l0
  have l02:decide (s.Lease.Holder=0)=false:=by simpa using l0
  have Hl0:=Lib.hid l0;clear l0
  go_wp2_with (fail)
  go_ret
  exact⟨by rw[show eqB s Ha=false from by rw[HM.out];simp[Hl0.out]];try rfl,by exact Aa⟩
 have l01:(s.Lease.Holder == 0)=true:=by simpa using l0
 have l02:decide (s.Lease.Holder=0)=true:=by simpa using l0
 have Hl0:=Lib.hid l0;clear l0
 by_cases l1:s.Lease.Epoch=0
 rotate_left
 .
  have l11:(s.Lease.Epoch == 0)=false:=by simpa using l1
  have l12:decide (s.Lease.Epoch=0)=false:=by simpa using l1
  have Hl1:=Lib.hid l1;clear l1
  go_wp2_with (fail)
  go_ret
  exact⟨by rw[show eqB s Ha=false from by rw[HM.out];simp[Hl1.out]];try rfl,by exact Aa⟩
 have l11:(s.Lease.Epoch == 0)=true:=by simpa using l1
 have l12:decide (s.Lease.Epoch=0)=true:=by simpa using l1
 have Hl1:=Lib.hid l1;clear l1
 by_cases l2:s.Lease.Until=0
 rotate_left
 .
  have l21:(s.Lease.Until == 0)=false:=by simpa using l2
  have l22:decide (s.Lease.Until=0)=false:=by simpa using l2
  have Hl2:=Lib.hid l2;clear l2
  go_wp2_with (fail)
  go_ret
  exact⟨by rw[show eqB s Ha=false from by rw[HM.out];simp[Hl2.out]];try rfl,by exact Aa⟩
 have l21:(s.Lease.Until == 0)=true:=by simpa using l2
 have l22:decide (s.Lease.Until=0)=true:=by simpa using l2
 have Hl2:=Lib.hid l2;clear l2
 go_wp2_with (fail)
 go_ret
 exact⟨by rw[show eqB s Ha=true from by rw[HM.out,P2.out,P3.out];simp[He0.out,He1.out,Hl0.out,Hl1.out,Hl2.out]];try rfl,by exact Aa⟩
theorem cI{w:World}{v u2 u3:Value}{s:Fl}(h:Ml w v s)(q2:Aj 2 w u2 (Dp []))(q3:Aj 5 w u3 (Fj [])):Calls Tryz.prog 318 #[v,.agg #[.int .i64 0,.int .i64 0,u2,u3,.int .i64 0,.int .i64 0,.int .i64 0]] w (Cp w (.bool (eqB s Ha))):=by
 have HS:=Lib.hid h
 obtain⟨t2,t3,rfl,h2,h3⟩:=h
 obtain⟨a2,n2,k2,rfl⟩:=h2.shape
 obtain⟨b2,m2,j2,rfl⟩:=q2.shape
 obtain⟨a3,n3,k3,rfl⟩:=h3.shape
 obtain⟨b3,m3,j3,rfl⟩:=q3.shape
 have HM:=Lib.hid (rQ s)
 obtain⟨W0,hW0⟩:∃W0,W0=((w.alloc (.cells #[.int .i64 s.Index,.int .i64 s.Time,.slice a2 n2 k2,.slice a3 n3 k3,.int .i64 s.Lease.Holder,.int .i64 s.Lease.Epoch,.int .i64 s.Lease.Until] 86)).alloc (.cells #[.int .i64 0,.int .i64 0,.slice b2 m2 j2,.slice b3 m3 j3,.int .i64 0,.int .i64 0,.int .i64 0] 86)):=⟨_,rfl⟩
 have E0:Ext w W0:=by rw[hW0];exact Aa
 have KA:Blk W0 (w.heap.size) 86 #[.int .i64 s.Index,.int .i64 s.Time,.slice a2 n2 k2,.slice a3 n3 k3,.int .i64 s.Lease.Holder,.int .i64 s.Lease.Epoch,.int .i64 s.Lease.Until]:=by rw[hW0];exact(Blk.new _ _ _).alloc _
 have KB:Blk W0 (w.heap.size+1) 86 #[.int .i64 0,.int .i64 0,.slice b2 m2 j2,.slice b3 m3 j3,.int .i64 0,.int .i64 0,.int .i64 0]:=by rw[hW0];exact Blk.new2 _ _ _ _
 go_enter Tryz.func318,Tryz.ntmps318
 go_upto_region 1 with(fail)
 rw[<-hW0]
 clear hW0
 have X0:Ext w W0:=E0
 obtain⟨CA,FA,LA⟩:=KA.cfl
 obtain⟨CB,FB,LB⟩:=KB.cfl
 go_wp2_with (fail)
 refine(Zy (HS.out.ext Aa)).mono ?_
 rintro e w1⟨rfl,hx1⟩
 have KA:=KA.ext hx1;clear CA FA LA
 have KB:=KB.ext hx1;clear CB FB LB
 have X1:=X0.trans hx1;clear hx1
 obtain⟨CA,FA,LA⟩:=KA.cfl
 obtain⟨CB,FB,LB⟩:=KB.cfl
 cases b1:Gg s
 .
  go_wp2_with (fail)
  go_ret
  exact⟨by rw[show eqB s Ha=false from by exact rP b1];try rfl,by exact Aa⟩
 go_wp2_with (fail)
 refine(Zy (s:=Ha) ⟨_,_,rfl,q2.ext Aa,q3.ext Aa⟩).mono ?_
 rintro e w2⟨rfl,hx2⟩
 have KA:=KA.ext hx2;clear CA FA LA
 have KB:=KB.ext hx2;clear CB FB LB
 have X2:=X1.trans hx2;clear hx2
 obtain⟨CA,FA,LA⟩:=KA.cfl
 obtain⟨CB,FB,LB⟩:=KB.cfl
 rw[Xx]
 have B1:=Lib.hid b1;clear b1
 by_cases e0:s.Index=0
 rotate_left
 .
  have e01:(s.Index == 0)=false:=by simpa using e0
  have e02:decide (s.Index=0)=false:=by simpa using e0
  have He0:=Lib.hid e0;clear e0
  go_wp2_with (fail)
  go_ret
  exact⟨by rw[show eqB s Ha=false from by rw[HM.out];simp[He0.out]];try rfl,by exact Aa⟩
 have e01:(s.Index == 0)=true:=by simpa using e0
 have e02:decide (s.Index=0)=true:=by simpa using e0
 have He0:=Lib.hid e0;clear e0
 by_cases e1:s.Time=0
 rotate_left
 .
  have e11:(s.Time == 0)=false:=by simpa using e1
  have e12:decide (s.Time=0)=false:=by simpa using e1
  have He1:=Lib.hid e1;clear e1
  go_wp2_with (fail)
  go_ret
  exact⟨by rw[show eqB s Ha=false from by rw[HM.out];simp[He1.out]];try rfl,by exact Aa⟩
 have e11:(s.Time == 0)=true:=by simpa using e1
 have e12:decide (s.Time=0)=true:=by simpa using e1
 have He1:=Lib.hid e1;clear e1
 go_wp2_with (fail)
 refine(cH _ _ _ s.Pairs (h2.ext Aa) (q2.ext Aa)).mono ?_
 rintro e w3⟨rfl,hx3⟩
 have KA:=KA.ext hx3;clear CA FA LA
 have KB:=KB.ext hx3;clear CB FB LB
 have X3:=X2.trans hx3;clear hx3
 obtain⟨CA,FA,LA⟩:=KA.cfl
 obtain⟨CB,FB,LB⟩:=KB.cfl
 cases p2:eqB s.Pairs ([]:List Ft)
 .
  go_wp2_with (fail)
  go_ret
  exact⟨by rw[show eqB s Ha=false from by rw[HM.out];simp[p2]];try rfl,by exact Aa⟩
 have P2:=Lib.hid p2;clear p2
 go_wp2_with (fail)
 refine(fU _ _ _ s.Jobs (h3.ext Aa) (q3.ext Aa)).mono ?_
 rintro e w4⟨rfl,hx4⟩
 have KA:=KA.ext hx4;clear CA FA LA
 have KB:=KB.ext hx4;clear CB FB LB
 have X4:=X3.trans hx4;clear hx4
 obtain⟨CA,FA,LA⟩:=KA.cfl
 obtain⟨CB,FB,LB⟩:=KB.cfl
 cases p3:eqB s.Jobs ([]:List Hl)
 .
  go_wp2_with (fail)
  go_ret
  exact⟨by rw[show eqB s Ha=false from by rw[HM.out];simp[p3]];try rfl,by exact Aa⟩
 have P3:=Lib.hid p3;clear p3
 by_cases l0:s.Lease.Holder=0
 rotate_left
 .
  have l01:(s.Lease.Holder == 0)=false:=by simpa using l0
  have l02:decide (s.Lease.Holder=0)=false:=by simpa using l0
  have Hl0:=Lib.hid l0;clear l0
  go_wp2_with (fail)
  go_ret
  exact⟨by rw[show eqB s Ha=false from by rw[HM.out];simp[Hl0.out]];try rfl,by exact Aa⟩
 have l01:(s.Lease.Holder == 0)=true:=by simpa using l0
 have l02:decide (s.Lease.Holder=0)=true:=by simpa using l0
 have Hl0:=Lib.hid l0;clear l0
 by_cases l1:s.Lease.Epoch=0
 rotate_left
 .
  have l11:(s.Lease.Epoch == 0)=false:=by simpa using l1
  have l12:decide (s.Lease.Epoch=0)=false:=by simpa using l1
  have Hl1:=Lib.hid l1;clear l1
  go_wp2_with (fail)
  go_ret
  exact⟨by rw[show eqB s Ha=false from by rw[HM.out];simp[Hl1.out]];try rfl,by exact Aa⟩
 have l11:(s.Lease.Epoch == 0)=true:=by simpa using l1
 have l12:decide (s.Lease.Epoch=0)=true:=by simpa using l1
 have Hl1:=Lib.hid l1;clear l1
 by_cases l2:s.Lease.Until=0
 rotate_left
 .
  have l21:(s.Lease.Until == 0)=false:=by simpa using l2
  have l22:decide (s.Lease.Until=0)=false:=by simpa using l2
  have Hl2:=Lib.hid l2;clear l2
  go_wp2_with (fail)
  go_ret
  exact⟨by rw[show eqB s Ha=false from by rw[HM.out];simp[Hl2.out]];try rfl,by exact Aa⟩
 have l21:(s.Lease.Until == 0)=true:=by simpa using l2
 have l22:decide (s.Lease.Until=0)=true:=by simpa using l2
 have Hl2:=Lib.hid l2;clear l2
 go_wp2_with (fail)
 go_ret
 exact⟨by rw[show eqB s Ha=true from by rw[HM.out,P2.out,P3.out];simp[He0.out,He1.out,Hl0.out,Hl1.out,Hl2.out]];try rfl,by exact Aa⟩
theorem jI{w:World}{v:Value}{d:Fb}(h:Gu w v d)(hu:d.Up.length=6):Calls Tryz.prog 87 #[v] w (Cp w (.bool (Ho d.Store (Jk d 1)))):=by
 obtain⟨p0,p1,p2,p3,p4,p5,p6,t7,t8,rfl,l0,l1,l2,l3,l4,l5,l6,g0,g1,g2,g3,g4,g5,g6,g7,g8⟩:=h
 obtain⟨ub,uo,uc,rfl,huc,hum,hub,hup⟩:=Rt g8 hu
 unfold maxLen at hum
 obtain⟨L,hL⟩:∃L:List Value,L=(p0++(p1++(p2++(p3++(p4++(p5++(p6++([t7]++([Value.slice (some ⟨ub,uo,none⟩) 6 uc]++[]))))))))):=⟨_,rfl⟩
 have hLn:L.length=73:=by rw[hL];simp[l0,l1,l2,l3,l4,l5,l6]
 rw[<-hL]
 obtain⟨W0,hW0⟩:∃W0,W0=w.alloc (.cells L.toArray 106):=⟨_,rfl⟩
 have E0:Ext w W0:=by rw[hW0];exact(Ext.refl _).alloc _
 have BL:Bk W0 w.heap.size 106 L:=by rw[hW0];exact Bk.new _ _ _
 have RL:W0.rangeAt w.heap.size 0 L:=Bk.range (A:=[]) (C:=[]) (Bk.cast BL (by simp)) rfl
 have BD:Bk W0 w.heap.size 106 (p0++(p1++(p2++(p3++(p4++(p5++(p6++([t7]++([Value.slice (some ⟨ub,uo,none⟩) 6 uc]++[]))))))))):=Bk.cast BL hL
 have LW:=BL.lt
 have R1:W0.rangeAt w.heap.size 19 p1:=Bk.range (A:=p0) (cs:=p1) (C:=(p2++(p3++(p4++(p5++(p6++([t7]++([Value.slice (some ⟨ub,uo,none⟩) 6 uc]++[])))))))) (Bk.c BD) (by simp[l0,l1,l2,l3,l4,l5,l6])
 have cC:W0.cell? ⟨w.heap.size,71,none⟩=some t7:=Bk.cellAt (A:=(p0++p1++p2++p3++p4++p5++p6)) (C:=([Value.slice (some ⟨ub,uo,none⟩) 6 uc]++[])) (Bk.c BD) (by simp[l0,l1,l2,l3,l4,l5,l6])
 have cU:W0.cell? ⟨w.heap.size,72,none⟩=some (.slice (some ⟨ub,uo,none⟩) 6 uc):=Bk.cellAt (A:=(p0++p1++p2++p3++p4++p5++p6++[t7])) (C:=[]) (Bk.c BD) (by simp[l0,l1,l2,l3,l4,l5,l6])
 have hup:=fun k hk=>E0.cell (hup k hk)
 have hub:=Nat.lt_of_lt_of_le hub E0.size
 clear hL BL BD
 go_enter Tryz.func87,Tryz.ntmps87
 go_upto_region 1 with(fail)
 rw[<-hW0]
 clear hW0
 have u1:=hup 1 dC
 cases b0:Jk d 1
 rotate_left
 .
  rw[b0] at u1
  go_wp2_with (first|(refine wpList_load_mid rfl 88 _ rfl w.heap.size 19 (by rfl) p1 _ (Al R1 Aa) Tryz.underlying88 rfl (by rw[l1];kernel_rfl) ?_))
  refine(nR (g1.ext Aa)).mono ?_
  rintro e w1⟨rfl,hx1⟩
  have X1:Ext W0 w1:=hx1;clear hx1
  go_wp2_with fail
  go_ret
  exact⟨by rw[b0];try rfl,by exact Aa⟩
 rw[b0] at u1
 obtain⟨L1,eL,-,one1⟩:=g1.cells
 replace eL:=Ct eL;rw[<-eL] at one1;clear eL
 have HG:=Lib.hid g1
 obtain⟨t0,t1,t4,t5,ep,h0,h1,h4,h5⟩:=g1
 replace ep:=Ct (M:=[t0,t1,Value.int .i64 d.Store.State.Index,Value.int .i64 d.Store.State.Time,t4,t5,Value.int .i64 d.Store.State.Lease.Holder,Value.int .i64 d.Store.State.Lease.Epoch,Value.int .i64 d.Store.State.Lease.Until,Value.int .i64 d.Store.Num,Value.int .i64 d.Store.Last,Value.int .i64 d.Store.Busy]) ep
 have HEP:=Lib.hid ep;clear ep
 obtain⟨a0,n0,k0,rfl⟩:=h0.shape
 obtain⟨a1,n1,k1,rfl⟩:=h1.shape
 obtain⟨a4,n4,k4,rfl⟩:=h4.shape
 obtain⟨a5,n5,k5,rfl⟩:=h5.shape
 go_wp2_with (first|(refine wpList_load_mid rfl 88 _ rfl w.heap.size 19 (by rfl) p1 _ R1 Tryz.underlying88 rfl (by rw[l1];kernel_rfl) ?_)|(refine Nf rfl 88 _ _ rfl W0.heap.size 0 (.agg p1.toArray) p1 (by rfl) (by rfl) rfl 88 [] [Value.slice none 0 0,Value.slice none 0 0,Value.int .i64 0,Value.int .i64 0,Value.slice none 0 0,Value.slice none 0 0,Value.int .i64 0,Value.int .i64 0,Value.int .i64 0,Value.int .i64 0,Value.int .i64 0,Value.int .i64 0] [] (Bk.cast (Bk.new W0 88 [Value.slice none 0 0,Value.slice none 0 0,Value.int .i64 0,Value.int .i64 0,Value.slice none 0 0,Value.slice none 0 0,Value.int .i64 0,Value.int .i64 0,Value.int .i64 0,Value.int .i64 0,Value.int .i64 0,Value.int .i64 0]) (by simp)) rfl (by rw[l1];rfl) (by rw[l1];kernel_rfl) one1 ?_;intro V1 hV BO;have X1:Ext W0 V1:=Ext.ofSet hV Aa oM;have BO:=Bk.cast (C:=p1) BO (by simp);clear hV;have BO:=Bk.cast BO HEP.out;have CB:=Blk.cell BO;have FB:=Blk.frozen BO;have LB:=Blk.lt BO))
 refine(Rm _ _ d.Store.Disk.Kept _ d.Store.Disk.Wait (h0.ext Aa) (h1.ext Aa)).mono ?_
 rintro e w2⟨rfl,hx2⟩
 have BO:=BO.ext hx2;clear CB FB LB
 have CB:=Blk.cell BO;have FB:=Blk.frozen BO;have LB:=Blk.lt BO
 have X2:=X1.trans hx2;clear hx2
 cases p1:Fu (⟨d.Store.Disk.Kept,d.Store.Disk.Wait⟩:Ez)
 .
  go_wp2_with (fail)
  go_ret
  exact⟨by rw[show Ho d.Store (Jk d 1)=false from by rw[b0];show Em d.Store=false;unfold Em;simp[show Fu d.Store.Disk=false from p1]];try rfl,by exact Aa⟩
 have P1:=Lib.hid (show Fu d.Store.Disk=true from p1);clear p1
 go_wp2_with (fail)
 refine(fV (s:=d.Store.State) ⟨_,_,rfl,h4.ext Aa,h5.ext Aa⟩ (Aj.nil 2 _) (Aj.nil 5 _)).mono ?_
 rintro e w3⟨rfl,hx3⟩
 have BO:=BO.ext hx3;clear CB FB LB
 have CB:=Blk.cell BO;have FB:=Blk.frozen BO;have LB:=Blk.lt BO
 have X3:=X2.trans hx3;clear hx3
 cases p2:eqB d.Store.State Ha
 .
  go_wp2_with (fail)
  go_ret
  exact⟨by rw[show Ho d.Store (Jk d 1)=false from by rw[b0];show Em d.Store=false;unfold Em;simp[p2]];try rfl,by exact Aa⟩
 have P2:=Lib.hid p2;clear p2
 by_cases e0:d.Store.Num=0
 rotate_left
 .
  have e01:(d.Store.Num == 0)=false:=by simpa using e0
  have e02:decide (d.Store.Num=0)=false:=by simpa using e0
  have He0:=Lib.hid e0;clear e0
  go_wp2_with (fail)
  go_ret
  exact⟨by rw[show Ho d.Store (Jk d 1)=false from by rw[b0];show Em d.Store=false;unfold Em;simp[He0.out]];try rfl,by exact Aa⟩
 have e01:(d.Store.Num == 0)=true:=by simpa using e0
 have e02:decide (d.Store.Num=0)=true:=by simpa using e0
 have He0:=Lib.hid e0;clear e0
 by_cases e1:d.Store.Last=0
 rotate_left
 .
  have e11:(d.Store.Last == 0)=false:=by simpa using e1
  have e12:decide (d.Store.Last=0)=false:=by simpa using e1
  have He1:=Lib.hid e1;clear e1
  go_wp2_with (fail)
  go_ret
  exact⟨by rw[show Ho d.Store (Jk d 1)=false from by rw[b0];show Em d.Store=false;unfold Em;simp[He1.out]];try rfl,by exact Aa⟩
 have e11:(d.Store.Last == 0)=true:=by simpa using e1
 have e12:decide (d.Store.Last=0)=true:=by simpa using e1
 have He1:=Lib.hid e1;clear e1
 by_cases e2:d.Store.Busy=0
 rotate_left
 .
  have e21:(d.Store.Busy == 0)=false:=by simpa using e2
  have e22:decide (d.Store.Busy=0)=false:=by simpa using e2
  have He2:=Lib.hid e2;clear e2
  go_wp2_with (fail)
  go_ret
  exact⟨by rw[show Ho d.Store (Jk d 1)=false from by rw[b0];show Em d.Store=false;unfold Em;simp[He2.out]];try rfl,by exact Aa⟩
 have e21:(d.Store.Busy == 0)=true:=by simpa using e2
 have e22:decide (d.Store.Busy=0)=true:=by simpa using e2
 have He2:=Lib.hid e2;clear e2
 go_wp2_with (fail)
 go_ret
 exact⟨by rw[show Ho d.Store (Jk d 1)=true from by rw[b0];show Em d.Store=true;unfold Em;simp[P1.out,P2.out,He0.out,He1.out,He2.out]];try rfl,by exact Aa⟩
theorem jJ{w:World}{v:Value}{d:Fb}(h:Gu w v d)(hu:d.Up.length=6):Calls Tryz.prog 85 #[v] w (Cp w (.bool (Hg d))):=by
 obtain⟨p0,p1,p2,p3,p4,p5,p6,t7,t8,rfl,l0,l1,l2,l3,l4,l5,l6,g0,g1,g2,g3,g4,g5,g6,g7,g8⟩:=h
 obtain⟨ub,uo,uc,rfl,huc,hum,hub,hup⟩:=Rt g8 hu
 unfold maxLen at hum
 obtain⟨L,hL⟩:∃L:List Value,L=(p0++(p1++(p2++(p3++(p4++(p5++(p6++([t7]++([Value.slice (some ⟨ub,uo,none⟩) 6 uc]++[]))))))))):=⟨_,rfl⟩
 have hLn:L.length=73:=by rw[hL];simp[l0,l1,l2,l3,l4,l5,l6]
 rw[<-hL]
 obtain⟨W0,hW0⟩:∃W0,W0=w.alloc (.cells L.toArray 106):=⟨_,rfl⟩
 have E0:Ext w W0:=by rw[hW0];exact(Ext.refl _).alloc _
 have BL:Bk W0 w.heap.size 106 L:=by rw[hW0];exact Bk.new _ _ _
 have RL:W0.rangeAt w.heap.size 0 L:=Bk.range (A:=[]) (C:=[]) (Bk.cast BL (by simp)) rfl
 have BD:Bk W0 w.heap.size 106 (p0++(p1++(p2++(p3++(p4++(p5++(p6++([t7]++([Value.slice (some ⟨ub,uo,none⟩) 6 uc]++[]))))))))):=Bk.cast BL hL
 have LW:=BL.lt
 have R2:W0.rangeAt w.heap.size 31 p2:=Bk.range (A:=(p0++p1)) (cs:=p2) (C:=(p3++(p4++(p5++(p6++([t7]++([Value.slice (some ⟨ub,uo,none⟩) 6 uc]++[]))))))) (Bk.c BD) (by simp[l0,l1,l2,l3,l4,l5,l6])
 have R3:W0.rangeAt w.heap.size 46 p3:=Bk.range (A:=(p0++p1++p2)) (cs:=p3) (C:=(p4++(p5++(p6++([t7]++([Value.slice (some ⟨ub,uo,none⟩) 6 uc]++[])))))) (Bk.c BD) (by simp[l0,l1,l2,l3,l4,l5,l6])
 have cC:W0.cell? ⟨w.heap.size,71,none⟩=some t7:=Bk.cellAt (A:=(p0++p1++p2++p3++p4++p5++p6)) (C:=([Value.slice (some ⟨ub,uo,none⟩) 6 uc]++[])) (Bk.c BD) (by simp[l0,l1,l2,l3,l4,l5,l6])
 have cU:W0.cell? ⟨w.heap.size,72,none⟩=some (.slice (some ⟨ub,uo,none⟩) 6 uc):=Bk.cellAt (A:=(p0++p1++p2++p3++p4++p5++p6++[t7])) (C:=[]) (Bk.c BD) (by simp[l0,l1,l2,l3,l4,l5,l6])
 have hup:=fun k hk=>E0.cell (hup k hk)
 have hub:=Nat.lt_of_lt_of_le hub E0.size
 clear hL BL BD
 go_enter Tryz.func85,Tryz.ntmps85
 go_upto_region 1 with(fail)
 rw[<-hW0]
 clear hW0
 have u2:=hup 2 dC;have u3:=hup 3 dC
 obtain⟨b2,hb2⟩:∃b,b=Jk d 2:=⟨_,rfl⟩
 obtain⟨b3,hb3⟩:∃b,b=Jk d 3:=⟨_,rfl⟩
 rw[<-hb2] at u2;rw[<-hb3] at u3
 have HB2:=Lib.hid hb2;have HB3:=Lib.hid hb3;clear hb2 hb3
 cases q1:Et d.Left 2 b2
 .
  refine wp_region_held_drew (S:=fun w'=>Ext W0 w') (by kernel_rfl) (by(try dsimp only);exact Aa) (fun hHeld=>?_)
  refine wt 0 ?_
  (try simp only[Ab,Act.put])
  refine wpAnyH_take (i:=1) (v:=.agg p2.toArray) rfl (by kernel_rfl) (by kernel_rfl) (by kernel_rfl) (fun _ _ _ h=>h) (yieldsIf_load_mid (by rfl) 96 (.tmp 3) rfl w.heap.size 31 (by rfl) p2 _ (fun _ hSw=>Al R2 hSw) Tryz.underlying96 rfl (by rw[l2];kernel_rfl)) (by assumption) ?_
  (try simp only[Ab,Act.put])
  refine wt 2 ?_
  (try simp only[Ab,Act.put])
  refine wpAnyH_take (i:=3) (v:=?_) rfl (by kernel_rfl) (by kernel_rfl) (by kernel_rfl) (fun _ _ _ h=>h) (Or.inl ⟨by rfl,?_⟩) (by assumption) ?_
  rotate_left
  focus(intro w hSw;(try dsimp only at hSw);have qU:=hSw.cell cU;go_simp <;> with_reducible rfl)
  (try simp only[Ab,Act.put])
  refine wt 4 ?_
  (try simp only[Ab,Act.put])
  refine wpAnyH_take (i:=5) (v:=?_) rfl (by kernel_rfl) (by kernel_rfl) (by kernel_rfl) (fun _ _ _ h=>h) (Or.inl ⟨by rfl,?_⟩) (by assumption) ?_
  rotate_left
  focus(intro w hSw;(try dsimp only at hSw);have qx:=hSw.cell u2;go_simp <;> with_reducible rfl)
  (try simp only[Ab,Act.put])
  refine wr1 6 fun Kz hKz=>?_
  (try simp only[Ab])
  go_simp
  go_at_call 181
  refine(Ua _ (g2.ext Aa) 2 (.inl rfl) b2).mono ?_
  rintro e w1⟨rfl,hx1⟩
  rw[q1]
  have Y1:Ext W0 w1:=Ext.trans Aa hx1
  clear hx1
  refine hKz.out _ _ (by(try dsimp only);exact Aa) (fun hHeld=>?_)
  clear hKz Kz
  (try simp only[Ab,Act.put])
  refine wt 7 ?_
  (try simp only[Ab,Act.put])
  refine wpAnyH_take (i:=8) (v:=undef) rfl (by kernel_rfl) (by kernel_rfl) (by kernel_rfl) (fun _ _ _ h=>h) (Or.inr ⟨by rfl,rfl⟩) (by assumption) ?_
  (try simp only[Ab,Act.put])
  refine wpAnyH_take (i:=9) (v:=undef) rfl (by kernel_rfl) (by kernel_rfl) (by kernel_rfl) (fun _ _ _ h=>h) (Or.inr ⟨by rfl,rfl⟩) (by assumption) ?_
  (try simp only[Ab,Act.put])
  refine wpAnyH_take (i:=10) (v:=undef) rfl (by kernel_rfl) (by kernel_rfl) (by kernel_rfl) (fun _ _ _ h=>h) (Or.inr ⟨by rfl,rfl⟩) (by assumption) ?_
  (try simp only[Ab,Act.put])
  refine wpAnyH_take (i:=11) (v:=undef) rfl (by kernel_rfl) (by kernel_rfl) (by kernel_rfl) (fun _ _ _ h=>h) (Or.inr ⟨by rfl,rfl⟩) (by assumption) ?_
  (try simp only[Ab,Act.put])
  refine wpAnyH_take (i:=12) (v:=undef) rfl (by kernel_rfl) (by kernel_rfl) (by kernel_rfl) (fun _ _ _ h=>h) (Or.inr ⟨by rfl,rfl⟩) (by assumption) ?_
  (try simp only[Ab,Act.put])
  refine wpAnyH_take (i:=13) (v:=undef) rfl (by kernel_rfl) (by kernel_rfl) (by kernel_rfl) (fun _ _ _ h=>h) (Or.inr ⟨by rfl,rfl⟩) (by assumption) ?_
  (try simp only[Ab,Act.put])
  refine wpAnyH_take (i:=14) (v:=undef) rfl (by kernel_rfl) (by kernel_rfl) (by kernel_rfl) (fun _ _ _ h=>h) (Or.inr ⟨by rfl,rfl⟩) (by assumption) ?_
  (try simp only[Ab,Act.put])
  refine wt 15 ?_
  (try simp only[Ab,Act.put])
  refine wt 16 ?_
  (try simp only[Ab,Act.put])
  refine wpAnyH_done (by kernel_rfl) ?_ _
  go_wp2_with (fail)
  go_ret
  exact⟨by rw[show Hg d=false from by unfold Hg;rw[<-HB2.out,q1];rfl];try rfl,by exact Aa⟩
 refine wp_region_held_drew (S:=fun w'=>Ext W0 w') (by kernel_rfl) (by(try dsimp only);exact Aa) (fun hHeld=>?_)
 refine wt 0 ?_
 (try simp only[Ab,Act.put])
 refine wpAnyH_take (i:=1) (v:=.agg p2.toArray) rfl (by kernel_rfl) (by kernel_rfl) (by kernel_rfl) (fun _ _ _ h=>h) (yieldsIf_load_mid (by rfl) 96 (.tmp 3) rfl w.heap.size 31 (by rfl) p2 _ (fun _ hSw=>Al R2 hSw) Tryz.underlying96 rfl (by rw[l2];kernel_rfl)) (by assumption) ?_
 (try simp only[Ab,Act.put])
 refine wt 2 ?_
 (try simp only[Ab,Act.put])
 refine wpAnyH_take (i:=3) (v:=?_) rfl (by kernel_rfl) (by kernel_rfl) (by kernel_rfl) (fun _ _ _ h=>h) (Or.inl ⟨by rfl,?_⟩) (by assumption) ?_
 rotate_left
 focus(intro w hSw;(try dsimp only at hSw);have qU:=hSw.cell cU;go_simp <;> with_reducible rfl)
 (try simp only[Ab,Act.put])
 refine wt 4 ?_
 (try simp only[Ab,Act.put])
 refine wpAnyH_take (i:=5) (v:=?_) rfl (by kernel_rfl) (by kernel_rfl) (by kernel_rfl) (fun _ _ _ h=>h) (Or.inl ⟨by rfl,?_⟩) (by assumption) ?_
 rotate_left
 focus(intro w hSw;(try dsimp only at hSw);have qx:=hSw.cell u2;go_simp <;> with_reducible rfl)
 (try simp only[Ab,Act.put])
 refine wr1 6 fun Kz hKz=>?_
 (try simp only[Ab])
 go_simp
 go_at_call 181
 refine(Ua _ (g2.ext Aa) 2 (.inl rfl) b2).mono ?_
 rintro e w1⟨rfl,hx1⟩
 rw[q1]
 have Y1:Ext W0 w1:=Ext.trans Aa hx1
 clear hx1
 refine hKz.out _ _ (by(try dsimp only);exact Aa) (fun hHeld=>?_)
 clear hKz Kz
 (try simp only[Ab,Act.put])
 refine wt 7 ?_
 (try simp only[Ab,Act.put])
 refine wt 8 ?_
 (try simp only[Ab,Act.put])
 refine wpAnyH_take (i:=9) (v:=.agg p3.toArray) rfl (by kernel_rfl) (by kernel_rfl) (by kernel_rfl) (fun _ _ _ h=>h) (yieldsIf_load_mid (by rfl) 96 (.tmp 11) rfl w.heap.size 46 (by rfl) p3 _ (fun _ hSw=>Al R3 hSw) Tryz.underlying96 rfl (by rw[l3];kernel_rfl)) (by assumption) ?_
 (try simp only[Ab,Act.put])
 refine wt 10 ?_
 (try simp only[Ab,Act.put])
 refine wpAnyH_take (i:=11) (v:=?_) rfl (by kernel_rfl) (by kernel_rfl) (by kernel_rfl) (fun _ _ _ h=>h) (Or.inl ⟨by rfl,?_⟩) (by assumption) ?_
 rotate_left
 focus(intro w hSw;(try dsimp only at hSw);have qU:=hSw.cell cU;go_simp <;> with_reducible rfl)
 (try simp only[Ab,Act.put])
 refine wt 12 ?_
 (try simp only[Ab,Act.put])
 refine wpAnyH_take (i:=13) (v:=?_) rfl (by kernel_rfl) (by kernel_rfl) (by kernel_rfl) (fun _ _ _ h=>h) (Or.inl ⟨by rfl,?_⟩) (by assumption) ?_
 rotate_left
 focus(intro w hSw;(try dsimp only at hSw);have qx:=hSw.cell u3;go_simp <;> with_reducible rfl)
 (try simp only[Ab,Act.put])
 refine wr1 14 fun Kz hKz=>?_
 (try simp only[Ab])
 go_simp
 go_at_call 181
 refine(Ua _ (g3.ext Aa) 3 (.inr rfl) b3).mono ?_
 rintro e w2⟨rfl,hx2⟩
 skip
 have Y2:Ext W0 w2:=Ext.trans Aa hx2
 clear hx2
 refine hKz.out _ _ (by(try dsimp only);exact Aa) (fun hHeld=>?_)
 clear hKz Kz
 (try simp only[Ab,Act.put])
 refine wt 15 ?_
 (try simp only[Ab,Act.put])
 refine wt 16 ?_
 (try simp only[Ab,Act.put])
 refine wpAnyH_done (by kernel_rfl) ?_ _
 have HD:=Lib.hid (show Hg d=Et d.Right 3 b3 from by unfold Hg;rw[<-HB2.out,<-HB3.out,q1];rfl)
 go_wp2_with fail
 go_ret
 exact⟨by rw[HD.out];try rfl,by exact Aa⟩
noncomputable def rR(d:Fb):Nat->Bool
 | 0=>Dh d
 | 1=>Hg d
 | 2=>Mn d.Log (Jk d 0)
 | _=>Ho d.Store (Jk d 1)
theorem Oe{w:World}{v:Value}{d:Fb}(h:Gu w v d):Calls Tryz.prog 27 #[v] w (Cp w (.bool (Ch d))):=by
 have HH:=Lib.hid h
 obtain⟨p0,p1,p2,p3,p4,p5,p6,t7,t8,rfl,l0,l1,l2,l3,l4,l5,l6,g0,g1,g2,g3,g4,g5,g6,g7,g8⟩:=h
 obtain⟨ua,uc,rfl,huc,hum,-⟩:=Sl.bools g8
 unfold maxLen at hum
 obtain⟨un,hun⟩:∃x,x=d.Up.length:=⟨_,rfl⟩
 rw[<-hun] at huc ⊢
 have HUN:=Lib.hid hun;clear hun
 obtain⟨L,hL⟩:∃L:List Value,L=(p0++(p1++(p2++(p3++(p4++(p5++(p6++([t7]++([Value.slice ua un uc]++[]))))))))):=⟨_,rfl⟩
 have hLn:L.length=73:=by rw[hL];simp[l0,l1,l2,l3,l4,l5,l6]
 rw[<-hL]
 have HV:=Lib.hid (show Gu w (.agg L.toArray) d from by rw[hL,HUN.out];exact HH.out)
 obtain⟨W0,hW0⟩:∃W0,W0=w.alloc (.cells L.toArray 106):=⟨_,rfl⟩
 have E0:Ext w W0:=by rw[hW0];exact(Ext.refl _).alloc _
 have BL:Bk W0 w.heap.size 106 L:=by rw[hW0];exact Bk.new _ _ _
 have RL:W0.rangeAt w.heap.size 0 L:=Bk.range (A:=[]) (C:=[]) (Bk.cast BL (by simp)) rfl
 have BD:Bk W0 w.heap.size 106 (p0++(p1++(p2++(p3++(p4++(p5++(p6++([t7]++([Value.slice ua un uc]++[]))))))))):=Bk.cast BL hL
 have LW:=BL.lt
 have R6:W0.rangeAt w.heap.size 69 p6:=Bk.range (A:=(p0++p1++p2++p3++p4++p5)) (cs:=p6) (C:=([t7]++([Value.slice ua un uc]++[]))) (Bk.c BD) (by simp[l0,l1,l2,l3,l4,l5,l6])
 have cC:W0.cell? ⟨w.heap.size,71,none⟩=some t7:=Bk.cellAt (A:=(p0++p1++p2++p3++p4++p5++p6)) (C:=([Value.slice ua un uc]++[])) (Bk.c BD) (by simp[l0,l1,l2,l3,l4,l5,l6])
 have cU:W0.cell? ⟨w.heap.size,72,none⟩=some (.slice ua un uc):=Bk.cellAt (A:=(p0++p1++p2++p3++p4++p5++p6++[t7])) (C:=[]) (Bk.c BD) (by simp[l0,l1,l2,l3,l4,l5,l6])
 clear hL BL BD
 go_enter Tryz.func27,Tryz.ntmps27
 go_upto_region 1 with(fail)
 rw[<-hW0]
 clear hW0
 obtain⟨ta,tn,tk,rfl⟩:=(show Aj 1 w t7 d.Clocks from g7).shape
 go_wp2_with (fail)
 refine(lF _ _ d.Clocks (Aj.ext (show Aj 1 w _ d.Clocks from g7) Aa)).mono ?_
 rintro e w1⟨rfl,hx1⟩
 have X1:Ext W0 w1:=hx1;clear hx1
 cases b1:He d.Clocks
 .
  go_wp2_with (fail)
  go_ret
  exact⟨by rw[show Ch d=false from by unfold Ch;simp[b1]];try rfl,by exact Aa⟩
 have cU1:=X1.cell cU
 by_cases h6:un=6
 rotate_left
 .
  have n1:((un:Int) != 6)=true:=by simp;omega
  have n2:decide (un=6)=false:=by simpa using h6
  have n3:((un:Int) == 6)=false:=by simp;omega
  have H6:=Lib.hid h6;clear h6
  go_wp2_with (fail)
  go_ret
  exact⟨by rw[show Ch d=false from by unfold Ch;simp[show ¬ d.Up.length=6 from by rw[<-HUN.out];exact H6.out]];try rfl,by exact Aa⟩
 have n1:((un:Int) != 6)=false:=by simp;omega
 have n2:decide (un=6)=true:=by simpa using h6
 have n3:((un:Int) == 6)=true:=by simp;omega
 have H6:=Lib.hid (show d.Up.length=6 from by rw[<-HUN.out];exact h6);clear h6
 go_wp2_with (first|(refine Hp rfl 104 _ rfl w.heap.size 69 (by rfl) p6 _ (Al R6 Aa) Tryz.underlying104 rfl (by rw[l6];kernel_rfl) ?_))
 refine(tV (g6.ext Aa)).mono ?_
 rintro e w2⟨rfl,hx2⟩
 have X2:Ext W0 w2:=X1.trans hx2;clear hx2
 cases b2:Gh d.Net
 .
  go_wp2_with (fail)
  go_ret
  exact⟨by rw[show Ch d=false from by unfold Ch;simp[b2]];try rfl,by exact Aa⟩
 have B1:=Lib.hid b1;have B2:=Lib.hid b2;clear b1 b2
 go_wp2_with fail
 go_loopw [22] (fun i wr=>∃k:Nat,k<=4/\i=.int .i64 k/\Ext W0 wr/\Hid (∀j,j<k->rR d j=true)) (fun i _=>4 - (intOf i).toNat)
 case atStart=>exact⟨0,by omega,rfl,by exact Aa,Lib.hid (fun j hj=>by omega)⟩
 case round =>
  obtain⟨k,hk,rfl,he,ht⟩:=hrel
  by_cases hlt:k<4
  .
   obtain rfl|rfl|rfl|rfl:k=0\/k=1\/k=2\/k=3:=by omega
   .
    have hix:∀w,(Instr.index 172 (.agg #[.func (.func 84) #[] #[],.func (.func 85) #[] #[],.func (.func 86) #[] #[],.func (.func 87) #[] #[]]) (.int .i64 0)).run Tryz.prog w=.ok (.func (.func 84) #[] #[]) w:=fun w=>by kernel_rfl
    go_wp2_with (first|(refine wpList_load_mid rfl 106 _ rfl w.heap.size 0 (by rfl) L _ (Al RL Aa) Tryz.underlying106 rfl (by rw[hLn];kernel_rfl) ?_))
    refine(fR (HV.out.ext (E0.trans he)) H6.out).mono ?_
    rintro e v1⟨rfl,hx9⟩
    cases b3:Dh d
    .
     go_wp2_with (fail)
     go_ret
     exact⟨by rw[show Ch d=false from by unfold Ch;simp[b3]];try rfl,by exact Aa⟩
    go_wp2_with fail
    go_roundw
    case rel=>exact⟨0+1,by omega,by go_num,by exact Aa,Lib.hid (fun i hi=>by rcases Nat.lt_succ_iff_lt_or_eq.1 hi with h|rfl;exact ht.out i h;exact b3)⟩
    case measure=>simp[intOf]
   .
    have hix:∀w,(Instr.index 172 (.agg #[.func (.func 84) #[] #[],.func (.func 85) #[] #[],.func (.func 86) #[] #[],.func (.func 87) #[] #[]]) (.int .i64 1)).run Tryz.prog w=.ok (.func (.func 85) #[] #[]) w:=fun w=>by kernel_rfl
    go_wp2_with (first|(refine wpList_load_mid rfl 106 _ rfl w.heap.size 0 (by rfl) L _ (Al RL Aa) Tryz.underlying106 rfl (by rw[hLn];kernel_rfl) ?_))
    refine(jJ (HV.out.ext (E0.trans he)) H6.out).mono ?_
    rintro e v1⟨rfl,hx9⟩
    cases b3:Hg d
    .
     go_wp2_with (fail)
     go_ret
     exact⟨by rw[show Ch d=false from by unfold Ch;simp[b3]];try rfl,by exact Aa⟩
    go_wp2_with fail
    go_roundw
    case rel=>exact⟨1+1,by omega,by go_num,by exact Aa,Lib.hid (fun i hi=>by rcases Nat.lt_succ_iff_lt_or_eq.1 hi with h|rfl;exact ht.out i h;exact b3)⟩
    case measure=>simp[intOf]
   .
    have hix:∀w,(Instr.index 172 (.agg #[.func (.func 84) #[] #[],.func (.func 85) #[] #[],.func (.func 86) #[] #[],.func (.func 87) #[] #[]]) (.int .i64 2)).run Tryz.prog w=.ok (.func (.func 86) #[] #[]) w:=fun w=>by kernel_rfl
    go_wp2_with (first|(refine wpList_load_mid rfl 106 _ rfl w.heap.size 0 (by rfl) L _ (Al RL Aa) Tryz.underlying106 rfl (by rw[hLn];kernel_rfl) ?_))
    refine(oU (HV.out.ext (E0.trans he)) H6.out).mono ?_
    rintro e v1⟨rfl,hx9⟩
    cases b3:Mn d.Log (Jk d 0)
    .
     go_wp2_with (fail)
     go_ret
     exact⟨by rw[show Ch d=false from by unfold Ch;simp[b3]];try rfl,by exact Aa⟩
    go_wp2_with fail
    go_roundw
    case rel=>exact⟨2+1,by omega,by go_num,by exact Aa,Lib.hid (fun i hi=>by rcases Nat.lt_succ_iff_lt_or_eq.1 hi with h|rfl;exact ht.out i h;exact b3)⟩
    case measure=>simp[intOf]
   have hix:∀w,(Instr.index 172 (.agg #[.func (.func 84) #[] #[],.func (.func 85) #[] #[],.func (.func 86) #[] #[],.func (.func 87) #[] #[]]) (.int .i64 3)).run Tryz.prog w=.ok (.func (.func 87) #[] #[]) w:=fun w=>by kernel_rfl
   go_wp2_with (first|(refine wpList_load_mid rfl 106 _ rfl w.heap.size 0 (by rfl) L _ (Al RL Aa) Tryz.underlying106 rfl (by rw[hLn];kernel_rfl) ?_))
   refine(jI (HV.out.ext (E0.trans he)) H6.out).mono ?_
   rintro e v1⟨rfl,hx9⟩
   cases b3:Ho d.Store (Jk d 1)
   .
    go_wp2_with (fail)
    go_ret
    exact⟨by rw[show Ch d=false from by unfold Ch;simp[b3]];try rfl,by exact Aa⟩
   go_wp2_with fail
   go_roundw
   case rel=>exact⟨3+1,by omega,by go_num,by exact Aa,Lib.hid (fun i hi=>by rcases Nat.lt_succ_iff_lt_or_eq.1 hi with h|rfl;exact ht.out i h;exact b3)⟩
   case measure=>simp[intOf]
  obtain rfl:k=4:=by omega
  have q0:=ht.out 0 dC;have q1:=ht.out 1 dC;have q2:=ht.out 2 dC;have q3:=ht.out 3 dC
  simp only[rR] at q0 q1 q2 q3
  have HD:=Lib.hid (show Ch d=true from by unfold Ch;rw[B1.out,B2.out,q0,q1,q2,q3,show decide (d.Up.length=6)=true by simpa using H6.out];rfl)
  clear q0 q1 q2 q3
  go_wp2_with fail
  go_ret
  exact⟨by rw[HD.out];try rfl,by exact Aa⟩
end Go.Proofs.YtkpmbocbbgocbaaGreat
