/- NU8. -/
import Derived.Test.YtkpmbocbbgocbaaGreatQM2
set_option linter.unusedSimpArgs false
set_option linter.unusedVariables false
set_option maxHeartbeats 8000000
set_option maxRecDepth 100000
namespace Go.Proofs.YtkpmbocbbgocbaaGreat
open Go.RowKit Go.G8
theorem jK(w:World)(x0 x1 x2 x3 x4:Int)(h:Nn ⟨x0,x1,x2,x3,x4⟩=true):Calls Tryz.prog 328 #[.agg #[.int .i64 x0,.int .i64 x1,.int .i64 x2,.int .i64 x3,.int .i64 x4]] w (Ret w fun r w'=>Af w.heap.size 2 1 w' r [x0,x1,x2,x3,x4]):=by
 have H:=Lib.hid h;clear h
 obtain⟨W0,hW0⟩:∃W0,W0=w.alloc (.cells #[.int .i64 x0,.int .i64 x1,.int .i64 x2,.int .i64 x3,.int .i64 x4] 94):=⟨_,rfl⟩
 have E0:Ext w W0:=by rw[hW0];exact(Ext.refl _).alloc _
 have B0:Blk W0 w.heap.size 94 #[.int .i64 x0,.int .i64 x1,.int .i64 x2,.int .i64 x3,.int .i64 x4]:=by rw[hW0];exact Blk.new _ _ _
 go_enter Tryz.func328,Tryz.ntmps328
 go_upto_region 1 with(fail)
 rw[<-hW0];clear hW0
 have K0:=B0.cell;have L0:=B0.lt
 go_wp2_with fail
 refine(eO _ x0 x1 x2 x3 x4).mono ?_
 rintro e w1⟨rfl,hx1⟩
 rw[H.out]
 have B1:=B0.ext hx1;clear K0 L0;have K1:=B1.cell;have L1:=B1.lt;have z1:=hx1.size
 go_wp2_with fail
 go_ret
 exact⟨_,rfl,by exact Aa,(Af.lit w1 2 [x0,x1,x2,x3,x4] (by simp)).mono oM⟩
theorem oV(w:World)(x0 x1 x2 x3 y0 y1 y2 y3 y4:Int)(h:Dt ⟨x0,x1,x2,x3,⟨y0,y1,y2,y3,y4⟩⟩=true):Calls Tryz.prog 221 #[.agg #[.int .i64 x0,.int .i64 x1,.int .i64 x2,.int .i64 x3,.int .i64 y0,.int .i64 y1,.int .i64 y2,.int .i64 y3,.int .i64 y4]] w (Ret w fun r w'=>Af w.heap.size 2 1 w' r [x0,x1,x2,x3,y0,y1,y2,y3,y4]):=by
 have H:=Lib.hid h;clear h
 obtain⟨i0,hi,hz0,hz1,hz2⟩:=info_parts Ec
 obtain⟨W0,hW0⟩:∃W0,W0=w.alloc (.cells #[.int .i64 x0,.int .i64 x1,.int .i64 x2,.int .i64 x3,.int .i64 y0,.int .i64 y1,.int .i64 y2,.int .i64 y3,.int .i64 y4] 281):=⟨_,rfl⟩
 have E0:Ext w W0:=by rw[hW0];exact(Ext.refl _).alloc _
 have B0:Blk W0 w.heap.size 281 #[.int .i64 x0,.int .i64 x1,.int .i64 x2,.int .i64 x3,.int .i64 y0,.int .i64 y1,.int .i64 y2,.int .i64 y3,.int .i64 y4]:=by rw[hW0];exact Blk.new _ _ _
 go_enter Tryz.func221,Tryz.ntmps221
 go_upto_region 1 with(fail)
 rw[<-hW0];clear hW0
 have K0:=B0.cell;have L0:=B0.lt
 go_wp2_with fail
 refine(Nr _ x0 x1 x2 x3 y0 y1 y2 y3 y4).mono ?_
 rintro e w1⟨rfl,hx1⟩
 rw[H.out]
 have B1:=B0.ext hx1;clear K0 L0;have L1:=B1.lt;have E1:=E0.trans hx1
 go_upto_region 3 with(fail)
 refine wp_region_held_drew (S:=fun w'=>Ext w w'/\Blk w' w.heap.size 281 #[.int .i64 x0,.int .i64 x1,.int .i64 x2,.int .i64 x3,.int .i64 y0,.int .i64 y1,.int .i64 y2,.int .i64 y3,.int .i64 y4]) (by kernel_rfl) (by(try dsimp only);exact⟨by exact Aa,by exact Bv⟩) (fun hHeld=>?_)
 refine wt 0 ?_
 (try simp only[Ab,Act.put])
 refine wtq 1 (fun _ h=>h.2.cell) ?_
 (try simp only[Ab,Act.put])
 refine wt 2 ?_
 (try simp only[Ab,Act.put])
 refine wtq 3 (fun _ h=>h.2.cell) ?_
 (try simp only[Ab,Act.put])
 refine wt 4 ?_
 (try simp only[Ab,Act.put])
 refine wtq 5 (fun _ h=>h.2.cell) ?_
 (try simp only[Ab,Act.put])
 refine wt 6 ?_
 (try simp only[Ab,Act.put])
 refine wtq 7 (fun _ h=>h.2.cell) ?_
 (try simp only[Ab,Act.put])
 refine wt 9 ?_
 (try simp only[Ab,Act.put])
 refine wtq 10 (fun _ h=>h.2.cell) ?_
 (try simp only[Ab,Act.put])
 refine wr2 8 11 (fun Kz hKz=>?_) fun Kz hKz=>?_
 .
  (try simp only[Ab])
  go_simp
  refine hKz.out _ _ (by(try dsimp only);exact⟨by exact Aa,by exact Bv⟩) (fun hHeld=>?_)
  clear hKz Kz
  (try simp only[Ab,Act.put])
  refine wr1 11 fun Kz hKz=>?_
  (try simp only[Ab])
  go_simp
  go_at_call 328
  refine(jK _ y0 y1 y2 y3 y4 (Ki H.out).2.2.2.2.2.2.2.2).mono ?_
  rintro e w4⟨_,rfl,hx,o4⟩
  have X4:Ext w1 w4:=Ext.trans Aa hx;have z4:=X4.size
  have X4':Ext (w1.alloc (.cells #[.int .i64 x0,.int .i64 x1,.int .i64 x2,.int .i64 x3] 2)) w4:=Ext.trans Aa hx
  have B4:=B1.ext X4
  obtain⟨r0,r1,r2,rfl⟩:=o4.shape
  refine hKz.out _ _ (by(try dsimp only);exact⟨by exact Aa,by exact Bv⟩) (fun hHeld=>?_)
  clear hKz Kz
  (try simp only[Ab,Act.put])
  refine wr1 12 fun Kz hKz=>?_
  (try simp only[Ab])
  rw[if_pos (by rfl)]
  refine Gv (.tmp 15) (.tmp 18) 62 (by rfl) 2 i0 _ Tryz.underlying62 hi hz0 hz1 hz2 rfl w.heap.size _ [x0,x1,x2,x3] (by rfl) (Own.ext (w:=(w1.alloc (.cells #[.int .i64 x0,.int .i64 x1,.int .i64 x2,.int .i64 x3] 2))) (Af.mono (Af.lit w1 2 [x0,x1,x2,x3] (by simp)) oM) Aa) _ [y0,y1,y2,y3,y4] (by rfl) (Aj.ext o4.ints Aa) (by simp) (by first|omega|(simp only[Dj,World.size_alloc];omega)) ?_
  intro v5 w5 o5 g5
  have X5:Ext w w5:=g5.data Aa (fun k hk=>(Af.foot (Own.ext (w:=(w1.alloc (.cells #[.int .i64 x0,.int .i64 x1,.int .i64 x2,.int .i64 x3] 2))) (Af.mono (Af.lit w1 2 [x0,x1,x2,x3] (by simp)) oM) Aa) k hk).1)
  have B5:Blk w5 w.heap.size 281 #[.int .i64 x0,.int .i64 x1,.int .i64 x2,.int .i64 x3,.int .i64 y0,.int .i64 y1,.int .i64 y2,.int .i64 y3,.int .i64 y4]:=Blk.upd (show Blk _ w.heap.size 281 #[.int .i64 x0,.int .i64 x1,.int .i64 x2,.int .i64 x3,.int .i64 y0,.int .i64 y1,.int .i64 y2,.int .i64 y3,.int .i64 y4] from by exact Bv) g5.upd (by simp[Be,Value.ownBlock];omega)
  obtain⟨p0,p1,p2,rfl⟩:=o5.shape
  refine hKz.out _ _ (by(try dsimp only);exact⟨by exact Aa,by exact Bv⟩) (fun hHeld=>?_)
  clear hKz Kz
  (try simp only[Ab,Act.put])
  refine wt 13 ?_
  (try simp only[Ab,Act.put])
  refine wpAnyH_done (by kernel_rfl) ?_ _
  go_wp2_with fail
  go_ret
  exact⟨_,rfl,by exact Aa,o5⟩
 (try simp only[Ab])
 go_simp
 go_at_call 328
 refine(jK _ y0 y1 y2 y3 y4 (Ki H.out).2.2.2.2.2.2.2.2).mono ?_
 rintro e w4⟨_,rfl,hx,o4⟩
 have X4:Ext w1 w4:=Ext.trans Aa hx;have z4:=X4.size
 have X4':Ext w1 w4:=Ext.trans Aa hx
 have B4:=B1.ext X4
 obtain⟨r0,r1,r2,rfl⟩:=o4.shape
 refine hKz.out _ _ (by(try dsimp only);exact⟨by exact Aa,by exact Bv⟩) (fun hHeld=>?_)
 clear hKz Kz
 (try simp only[Ab,Act.put])
 refine wr1 8 fun Kz hKz=>?_
 (try simp only[Ab])
 go_simp
 refine hKz.out _ _ (by(try dsimp only);exact⟨by exact Aa,by exact Bv⟩) (fun hHeld=>?_)
 clear hKz Kz
 (try simp only[Ab,Act.put])
 refine wr1 12 fun Kz hKz=>?_
 (try simp only[Ab])
 rw[if_pos (by rfl)]
 refine Gv (.tmp 15) (.tmp 18) 62 (by rfl) 2 i0 _ Tryz.underlying62 hi hz0 hz1 hz2 rfl w.heap.size _ [x0,x1,x2,x3] (by rfl) (Own.ext (w:=w4.alloc (.cells #[.int .i64 x0,.int .i64 x1,.int .i64 x2,.int .i64 x3] 2)) (Af.mono (Af.lit w4 2 [x0,x1,x2,x3] (by simp)) oM) Aa) _ [y0,y1,y2,y3,y4] (by rfl) (Aj.ext o4.ints Aa) (by simp) (by first|omega|(simp only[Dj,World.size_alloc];omega)) ?_
 intro v5 w5 o5 g5
 have X5:Ext w w5:=g5.data Aa (fun k hk=>(Af.foot (Own.ext (w:=w4.alloc (.cells #[.int .i64 x0,.int .i64 x1,.int .i64 x2,.int .i64 x3] 2)) (Af.mono (Af.lit w4 2 [x0,x1,x2,x3] (by simp)) oM) Aa) k hk).1)
 have B5:Blk w5 w.heap.size 281 #[.int .i64 x0,.int .i64 x1,.int .i64 x2,.int .i64 x3,.int .i64 y0,.int .i64 y1,.int .i64 y2,.int .i64 y3,.int .i64 y4]:=Blk.upd (show Blk _ w.heap.size 281 #[.int .i64 x0,.int .i64 x1,.int .i64 x2,.int .i64 x3,.int .i64 y0,.int .i64 y1,.int .i64 y2,.int .i64 y3,.int .i64 y4] from by exact Bv) g5.upd (by simp[Be,Value.ownBlock];omega)
 obtain⟨p0,p1,p2,rfl⟩:=o5.shape
 refine hKz.out _ _ (by(try dsimp only);exact⟨by exact Aa,by exact Bv⟩) (fun hHeld=>?_)
 clear hKz Kz
 (try simp only[Ab,Act.put])
 refine wt 13 ?_
 (try simp only[Ab,Act.put])
 refine wpAnyH_done (by kernel_rfl) ?_ _
 go_wp2_with fail
 go_ret
 exact⟨_,rfl,by exact Aa,o5⟩
theorem rS{w:World}{u:Value}{d:Ap}(h:Lz w u d)(he:∀e,e ∈ d.Book.Entries->Dt e=true)(hl:(Mg d).length<=1000000000):Calls Tryz.prog 113 #[u] w (Ret w fun r w'=>Af w.heap.size 2 1 w' r (Mg d)):=by
 have HE:=Lib.hid he;clear he
 obtain⟨p0,p1,p2,p4,t5,t7,rfl,l0,l1,l2,l4,g0,g1,g2,g4,g5,g7⟩:=h
 obtain⟨q0,q1,e,m0,m1,gA,gB⟩:=g0;obtain rfl:=Ct e
 obtain⟨a0,a1,a2,a3,a4,a5,e⟩:=gA.shape;obtain rfl:=Ct (M:=[_,_]) e
 obtain⟨b0,b1,b2,b3,b4,b5,e⟩:=gB.shape;obtain rfl:=Ct (M:=[_,_]) e
 obtain⟨t3,e,hs⟩:=g1;obtain rfl:=Ct e;obtain⟨s0,s1,s2,rfl⟩:=hs.shape
 have g1:Mb w (.agg #[.int .i64 d.Head.Num,.int .i64 d.Head.Base,.int .i64 d.Head.Time,.slice s0 s1 s2]) d.Head:=⟨_,rfl,hs⟩
 obtain⟨t3,e,hs⟩:=g2;obtain rfl:=Ct e;obtain⟨n0,n1,n2,rfl⟩:=hs.shape
 have g2:Mb w (.agg #[.int .i64 d.Next.Num,.int .i64 d.Next.Base,.int .i64 d.Next.Time,.slice n0 n1 n2]) d.Next:=⟨_,rfl,hs⟩
 obtain⟨t2,e,he⟩:=g4;obtain rfl:=Ct e
 obtain⟨sA,cA,rfl,kA,mA,hA⟩:=Aj.recs (f:=Aq.ints) (fun _=>rfl) dC (show Aj 9 w _ (d.Book.Entries.flatMap Aq.ints) from he)
 have HA:=Lib.hid hA;clear hA;unfold maxLen at mA
 obtain⟨sB,cB,rfl,kB,mB,hB⟩:=Aj.recs (f:=Is.ints) (fun _=>rfl) dC (show Aj 4 w _ (d.Owe.flatMap Is.ints) from g7)
 have HB:=Lib.hid hB;clear hB;unfold maxLen at mB
 obtain⟨y0,y1,y2,rfl⟩:=g5.shape
 clear l0 l1 l2 l4 m0 m1
 obtain⟨i0,hi,hz0,hz1,hz2⟩:=info_parts Ec
 simp only[Mg,Bu,Cx] at hl
 show Calls _ _ #[.agg #[.slice a0 a1 a2,.slice a3 a4 a5,.slice b0 b1 b2,.slice b3 b4 b5,.int .i64 d.Head.Num,.int .i64 d.Head.Base,.int .i64 d.Head.Time,.slice s0 s1 s2,.int .i64 d.Next.Num,.int .i64 d.Next.Base,.int .i64 d.Next.Time,.slice n0 n1 n2,.bool d.More,.int .i64 d.Book.Base,.int .i64 d.Book.Time,.slice sA d.Book.Entries.length cA,.slice y0 y1 y2,.int .i64 d.Durable,.slice sB d.Owe.length cB]] _ _
 obtain⟨W0,hW0⟩:∃W0,W0=w.alloc (.cells #[.slice a0 a1 a2,.slice a3 a4 a5,.slice b0 b1 b2,.slice b3 b4 b5,.int .i64 d.Head.Num,.int .i64 d.Head.Base,.int .i64 d.Head.Time,.slice s0 s1 s2,.int .i64 d.Next.Num,.int .i64 d.Next.Base,.int .i64 d.Next.Time,.slice n0 n1 n2,.bool d.More,.int .i64 d.Book.Base,.int .i64 d.Book.Time,.slice sA d.Book.Entries.length cA,.slice y0 y1 y2,.int .i64 d.Durable,.slice sB d.Owe.length cB] 81):=⟨_,rfl⟩
 have E0:Ext w W0:=by rw[hW0];exact(Ext.refl _).alloc _
 have B0:Blk W0 w.heap.size 81 #[.slice a0 a1 a2,.slice a3 a4 a5,.slice b0 b1 b2,.slice b3 b4 b5,.int .i64 d.Head.Num,.int .i64 d.Head.Base,.int .i64 d.Head.Time,.slice s0 s1 s2,.int .i64 d.Next.Num,.int .i64 d.Next.Base,.int .i64 d.Next.Time,.slice n0 n1 n2,.bool d.More,.int .i64 d.Book.Base,.int .i64 d.Book.Time,.slice sA d.Book.Entries.length cA,.slice y0 y1 y2,.int .i64 d.Durable,.slice sB d.Owe.length cB]:=by rw[hW0];exact Blk.new _ _ _
 have z0:w.heap.size<=W0.heap.size:=E0.size
 go_enter Tryz.func113,Tryz.ntmps113
 go_upto_region 1 with(fail)
 rw[<-hW0];clear hW0
 have K0:=B0.cell;have K0l:=B0.lt
 have O:Ou W0 (W0.alloc (.cells #[] 2)) (.slice (some ⟨W0.heap.size,0,none⟩) 0 0) []:=⟨by exact Aa,Own.fresh W0 _ _⟩
 go_wp2_with fail
 refine(Xw (d:=d.Two.A) (O.ext Aa) (Gw.ext gA E0) (by(try simp only[Mg,Bu,Cx]);omega)).mono ?_
 rintro e w1⟨v1,rfl,O1,g⟩
 clear g
 clear K0 K0l
 have K0:=(B0.ext O1.1).cell;have K0l:=(B0.ext O1.1).lt
 go_wp2_with fail
 refine(Xw (d:=d.Two.B) (O1.ext Aa) (Gw.ext gB E0) (by(try simp only[Mg,Bu,Cx]);omega)).mono ?_
 rintro e w2⟨v2,rfl,O2,g⟩
 clear g
 clear K0 K0l
 have K0:=(B0.ext O2.1).cell;have K0l:=(B0.ext O2.1).lt
 go_wp2_with fail
 refine(dP (d:=d.Head) (O2.ext Aa) (Mb.ext g1 E0) (by(try simp only[Mg,Bu,Cx]);omega)).mono ?_
 rintro e w3⟨v3,rfl,O3,g⟩
 clear g
 clear K0 K0l
 have K0:=(B0.ext O3.1).cell;have K0l:=(B0.ext O3.1).lt
 go_wp2_with fail
 refine(dP (d:=d.Next) (O3.ext Aa) (Mb.ext g2 E0) (by(try simp only[Mg,Bu,Cx]);omega)).mono ?_
 rintro e w4⟨v4,rfl,O4,g⟩
 clear g
 clear K0 K0l
 have K0:=(B0.ext O4.1).cell;have K0l:=(B0.ext O4.1).lt
 go_upto_region 5 with(fail)
 have e1:=O4.1;have k1:=(B0.ext O4.1)
 refine wp_region_held_drew (S:=fun w'=>Ext W0 w'/\Blk w' w.heap.size 81 #[.slice a0 a1 a2,.slice a3 a4 a5,.slice b0 b1 b2,.slice b3 b4 b5,.int .i64 d.Head.Num,.int .i64 d.Head.Base,.int .i64 d.Head.Time,.slice s0 s1 s2,.int .i64 d.Next.Num,.int .i64 d.Next.Base,.int .i64 d.Next.Time,.slice n0 n1 n2,.bool d.More,.int .i64 d.Book.Base,.int .i64 d.Book.Time,.slice sA d.Book.Entries.length cA,.slice y0 y1 y2,.int .i64 d.Durable,.slice sB d.Owe.length cB]) (by kernel_rfl) (by(try dsimp only);exact⟨by exact Aa,by exact Bv⟩) (fun hHeld=>?_)
 refine wt 0 ?_
 (try simp only[Ab,Act.put])
 refine wt 1 ?_
 (try simp only[Ab,Act.put])
 refine wtq 2 (fun _ h=>h.2.cell) ?_
 (try simp only[Ab,Act.put])
 refine wt 4 ?_
 (try simp only[Ab,Act.put])
 refine wt 5 ?_
 (try simp only[Ab,Act.put])
 refine wtq 6 (fun _ h=>h.2.cell) ?_
 (try simp only[Ab,Act.put])
 refine wt 7 ?_
 (try simp only[Ab,Act.put])
 refine wt 8 ?_
 (try simp only[Ab,Act.put])
 refine wtq 9 (fun _ h=>h.2.cell) ?_
 (try simp only[Ab,Act.put])
 refine wt 10 ?_
 (try simp only[Ab,Act.put])
 refine wt 11 ?_
 (try simp only[Ab,Act.put])
 refine wtq 12 (fun _ h=>h.2.cell) ?_
 (try simp only[Ab,Act.put])
 refine wt 13 ?_
 (try simp only[Ab,Act.put])
 refine wr1 3 fun Kz hKz=>?_
 (try simp only[Ab])
 go_simp
 go_at_call 118
 refine(lJ _ _).mono ?_
 rintro e9 w9⟨rfl,rfl⟩
 refine hKz.out _ _ (by(try dsimp only);exact⟨by exact Aa,by exact Bv⟩) (fun hHeld=>?_)
 clear hKz Kz
 (try simp only[Ab,Act.put])
 refine wr1 14 fun Kz hKz=>?_
 (try simp only[Ab])
 go_simp
 refine hKz.out _ _ (by(try dsimp only);exact⟨by exact Aa,by exact Bv⟩) (fun hHeld=>?_)
 clear hKz Kz
 (try simp only[Ab,Act.put])
 refine wr1 15 fun Kz hKz=>?_
 (try simp only[Ab])
 rw[if_pos (by rfl)]
 refine Gv (.tmp 24) (.tmp 38) 62 (by rfl) 2 i0 _ Tryz.underlying62 hi hz0 hz1 hz2 rfl W0.heap.size _ _ (by rfl) (Ou.ext O4 Aa).2 _ [Ow d.More,d.Book.Base,d.Book.Time,(d.Book.Entries.length:Int)] (by rfl) (Aj.ext (w:=w4.alloc (.cells #[.int .i64 (Ow d.More),.int .i64 (d.Book.Base),.int .i64 (d.Book.Time),.int .i64 ((d.Book.Entries.length:Int))] 2)) (Ib _ 2 [Ow d.More,d.Book.Base,d.Book.Time,(d.Book.Entries.length:Int)] (by simp) _ rfl) Aa) (by(try simp only[Mg,Bu,Cx]);omega) (Ou.ext O4 Aa).1.size ?_
 intro v5 w5 o g
 have O5:=Ou.go (O4.ext Aa) o g
 clear o g
 have e9:=O5.1;have k9:=(B0.ext O5.1)
 refine hKz.out _ _ (by(try dsimp only);exact⟨by exact Aa,by exact Bv⟩) (fun hHeld=>?_)
 clear hKz Kz
 (try simp only[Ab,Act.put])
 refine wt 16 ?_
 (try simp only[Ab,Act.put])
 refine wpAnyH_done (by kernel_rfl) ?_ _
 clear e1 e9 k1 k9
 clear K0 K0l
 have K0:=(B0.ext O5.1).cell;have K0l:=(B0.ext O5.1).lt
 go_wp2_with fail
 go_loopw [3,4] (fun t i wr=>∃k:Nat,k<=d.Book.Entries.length/\i=.int .i64 k/\Ou W0 wr t (((((([]++Hr d.Two.A)++Hr d.Two.B)++Lr d.Head)++Lr d.Next)++[Ow d.More,d.Book.Base,d.Book.Time,(d.Book.Entries.length:Int)])++(d.Book.Entries.take k).flatMap Aq.ints)) (fun _ i _=>d.Book.Entries.length - (intOf i).toNat)
 case atStart=>exact⟨0,Nat.zero_le _,rfl,O5.cast (by simp)⟩
 case round =>
  obtain⟨k,hk,rfl,Or_⟩:=hrel
  obtain⟨r0,r1,r2,rfl⟩:=Or_.shape
  clear K0 K0l
  have K0:=(B0.ext Or_.1).cell;have K0l:=(B0.ext Or_.1).lt
  by_cases hlt:k<d.Book.Entries.length
  .
   obtain⟨d9,bb1,q1,hd,rfl,hb1,c⟩:=HA.out k hlt
   have c0:=E0.cell (c 0 _ dC rfl);have d0:=Or_.1.cell c0
   have c1:=E0.cell (c 1 _ dC rfl);have d1:=Or_.1.cell c1
   have c2:=E0.cell (c 2 _ dC rfl);have d2:=Or_.1.cell c2
   have c3:=E0.cell (c 3 _ dC rfl);have d3:=Or_.1.cell c3
   have c4:=E0.cell (c 4 _ dC rfl);have d4:=Or_.1.cell c4
   have c5:=E0.cell (c 5 _ dC rfl);have d5:=Or_.1.cell c5
   have c6:=E0.cell (c 6 _ dC rfl);have d6:=Or_.1.cell c6
   have c7:=E0.cell (c 7 _ dC rfl);have d7:=Or_.1.cell c7
   have c8:=E0.cell (c 8 _ dC rfl);have d8:=Or_.1.cell c8
   (try simp only[Nat.add_zero] at c0 d0)
   clear c
   have hfm:=Jm Aq.ints hd;have HD:=Lib.hid hd;clear hd
   simp only[Aq.ints,Cx] at hfm
   go_wp2_with fail
   refine(oV _ d9.Index d9.Time d9.Client d9.Seq d9.Op.Kind d9.Op.A d9.Op.B d9.Op.C d9.Op.D (HE.out d9 (List.mem_of_getElem? HD.out))).mono ?_
   rintro e w7⟨_,rfl,hx,o⟩
   have hx:Ext wr w7:=Ext.trans Aa hx;have O7:=Or_.ext hx
   clear K0 K0l
   have K0:=(B0.ext O7.1).cell;have K0l:=(B0.ext O7.1).lt
   obtain⟨p0,p1,p2,rfl⟩:=o.shape;have o9:=o.ints;clear o
   go_wp2_with (first|(at_builtin;refine Ci rfl (.tmp 48) (.tmp 55) 62 rfl 2 i0 _ Tryz.underlying62 hi hz0 hz1 hz2 rfl W0.heap.size _ _ rfl (Ou.ext O7 Aa).2 _ ([d9.Index,d9.Time,d9.Client,d9.Seq,d9.Op.Kind,d9.Op.A,d9.Op.B,d9.Op.C,d9.Op.D]) rfl (Aj.ext o9 Aa) (by(try simp only[Mg,Bu,Cx]);omega) (Ou.ext O7 Aa).1.size ?_;rotate_right;intro v8 w8 o g;have O8:=Ou.go (O7.ext Aa) o g;clear o g;clear K0 K0l;have K0:=(B0.ext O8.1).cell;have K0l:=(B0.ext O8.1).lt))
   go_roundw
   case rel=>exact⟨k+1,by omega,by go_num,O8.cast (by rw[Hf _ HD.out];simp only[Aq.ints,List.append_assoc,List.cons_append,List.nil_append,List.append_nil])⟩
   case measure=>simp[intOf];omega
  obtain rfl:k=d.Book.Entries.length:=by omega
  rw[List.take_length] at Or_
  clear hk hlt
  obtain⟨w6,hV⟩:∃V,V=wr:=⟨_,rfl⟩
  subst hV
  have O6:=Or_;clear Or_
  go_wp2_with fail
  refine(dO (l:=d.Seen) (O6.ext Aa) (Ni.ext g5 E0) (by(try simp only[Mg,Bu,Cx]);omega)).mono ?_
  rintro e w9⟨v9,rfl,O9,g⟩
  clear g
  clear K0 K0l
  have K0:=(B0.ext O9.1).cell;have K0l:=(B0.ext O9.1).lt
  go_wp2_with (first|(at_builtin;refine Ci rfl (.tmp 61) (.tmp 67) 62 rfl 2 i0 _ Tryz.underlying62 hi hz0 hz1 hz2 rfl W0.heap.size _ _ rfl (Ou.ext O9 Aa).2 _ [d.Durable,(d.Owe.length:Int)] rfl (Ib _ 2 [d.Durable,(d.Owe.length:Int)] (by simp) _ rfl) (by(try simp only[Mg,Bu,Cx]);omega) (Ou.ext O9 Aa).1.size ?_;rotate_right;intro v10 w10 o g;have O10:=Ou.go (O9.ext Aa) o g;clear o g;clear K0 K0l;have K0:=(B0.ext O10.1).cell;have K0l:=(B0.ext O10.1).lt))
  go_loopw [3,5] (fun t i wr=>∃k:Nat,k<=d.Owe.length/\i=.int .i64 k/\Ou W0 wr t ((((((((([]++Hr d.Two.A)++Hr d.Two.B)++Lr d.Head)++Lr d.Next)++[Ow d.More,d.Book.Base,d.Book.Time,(d.Book.Entries.length:Int)])++d.Book.Entries.flatMap Aq.ints)++Ox d.Seen)++[d.Durable,(d.Owe.length:Int)])++(d.Owe.take k).flatMap Is.ints)) (fun _ i _=>d.Owe.length - (intOf i).toNat)
  case atStart=>exact⟨0,Nat.zero_le _,rfl,O10.cast (by simp)⟩
  case round =>
   obtain⟨k,hk,rfl,Or_⟩:=hrel
   obtain⟨r0,r1,r2,rfl⟩:=Or_.shape
   clear K0 K0l
   have K0:=(B0.ext Or_.1).cell;have K0l:=(B0.ext Or_.1).lt
   by_cases hlt:k<d.Owe.length
   .
    obtain⟨d9,bb1,q1,hd,rfl,hb1,c⟩:=HB.out k hlt
    have c0:=E0.cell (c 0 _ dC rfl);have d0:=Or_.1.cell c0
    have c1:=E0.cell (c 1 _ dC rfl);have d1:=Or_.1.cell c1
    have c2:=E0.cell (c 2 _ dC rfl);have d2:=Or_.1.cell c2
    have c3:=E0.cell (c 3 _ dC rfl);have d3:=Or_.1.cell c3
    (try simp only[Nat.add_zero] at c0 d0)
    clear c
    have hfm:=Jm Is.ints hd;have HD:=Lib.hid hd;clear hd
    simp only[Is.ints,Cx] at hfm
    go_upto_region 15 with(fail)
    have e1:=Or_.1;have k1:=(B0.ext Or_.1)
    refine wp_region_held_drew (S:=fun w'=>Ext W0 w'/\Blk w' w.heap.size 81 #[.slice a0 a1 a2,.slice a3 a4 a5,.slice b0 b1 b2,.slice b3 b4 b5,.int .i64 d.Head.Num,.int .i64 d.Head.Base,.int .i64 d.Head.Time,.slice s0 s1 s2,.int .i64 d.Next.Num,.int .i64 d.Next.Base,.int .i64 d.Next.Time,.slice n0 n1 n2,.bool d.More,.int .i64 d.Book.Base,.int .i64 d.Book.Time,.slice sA d.Book.Entries.length cA,.slice y0 y1 y2,.int .i64 d.Durable,.slice (some ⟨bb1,q1,none⟩) d.Owe.length cB]) (by kernel_rfl) (by(try dsimp only);exact⟨by exact Aa,by exact Bv⟩) (fun hHeld=>?_)
    refine wt 0 ?_
    (try simp only[Ab,Act.put])
    refine wt 1 ?_
    (try simp only[Ab,Act.put])
    refine wtq 2 (fun _ h=>h.2.cell) ?_
    (try simp only[Ab,Act.put])
    refine wt 3 ?_
    (try simp only[Ab,Act.put])
    refine wt 4 ?_
    (try simp only[Ab,Act.put])
    refine wt 5 ?_
    (try simp only[Ab,Act.put])
    refine wpAnyH_take (i:=6) (v:=?_) rfl (by kernel_rfl) (by kernel_rfl) (by kernel_rfl) (fun _ _ _ h=>h) (Or.inl ⟨by rfl,?_⟩) (by assumption) ?_
    rotate_left
    focus(intro w hSw;(try dsimp only at hSw);have hq:=hSw.1.cell c0;go_simp <;> with_reducible rfl)
    (try simp only[Ab,Act.put])
    refine wt 7 ?_
    (try simp only[Ab,Act.put])
    refine wtq 8 (fun _ h=>h.2.cell) ?_
    (try simp only[Ab,Act.put])
    refine wt 9 ?_
    (try simp only[Ab,Act.put])
    refine wt 10 ?_
    (try simp only[Ab,Act.put])
    refine wt 11 ?_
    (try simp only[Ab,Act.put])
    refine wpAnyH_take (i:=12) (v:=?_) rfl (by kernel_rfl) (by kernel_rfl) (by kernel_rfl) (fun _ _ _ h=>h) (Or.inl ⟨by rfl,?_⟩) (by assumption) ?_
    rotate_left
    focus(intro w hSw;(try dsimp only at hSw);have hq:=hSw.1.cell c1;go_simp <;> with_reducible rfl)
    (try simp only[Ab,Act.put])
    refine wt 13 ?_
    (try simp only[Ab,Act.put])
    refine wtq 14 (fun _ h=>h.2.cell) ?_
    (try simp only[Ab,Act.put])
    refine wt 15 ?_
    (try simp only[Ab,Act.put])
    refine wt 16 ?_
    (try simp only[Ab,Act.put])
    refine wt 17 ?_
    (try simp only[Ab,Act.put])
    refine wpAnyH_take (i:=18) (v:=?_) rfl (by kernel_rfl) (by kernel_rfl) (by kernel_rfl) (fun _ _ _ h=>h) (Or.inl ⟨by rfl,?_⟩) (by assumption) ?_
    rotate_left
    focus(intro w hSw;(try dsimp only at hSw);have hq:=hSw.1.cell c2;go_simp <;> with_reducible rfl)
    (try simp only[Ab,Act.put])
    refine wt 19 ?_
    (try simp only[Ab,Act.put])
    refine wtq 20 (fun _ h=>h.2.cell) ?_
    (try simp only[Ab,Act.put])
    refine wt 21 ?_
    (try simp only[Ab,Act.put])
    refine wt 22 ?_
    (try simp only[Ab,Act.put])
    refine wt 23 ?_
    (try simp only[Ab,Act.put])
    refine wpAnyH_take (i:=24) (v:=?_) rfl (by kernel_rfl) (by kernel_rfl) (by kernel_rfl) (fun _ _ _ h=>h) (Or.inl ⟨by rfl,?_⟩) (by assumption) ?_
    rotate_left
    focus(intro w hSw;(try dsimp only at hSw);have hq:=hSw.1.cell c3;go_simp <;> with_reducible rfl)
    (try simp only[Ab,Act.put])
    refine wr1 25 fun Kz hKz=>?_
    (try simp only[Ab])
    go_simp
    refine hKz.out _ _ (by(try dsimp only);exact⟨by exact Aa,by exact Bv⟩) (fun hHeld=>?_)
    clear hKz Kz
    (try simp only[Ab,Act.put])
    refine wr1 26 fun Kz hKz=>?_
    (try simp only[Ab])
    rw[if_pos (by rfl)]
    refine Gv (.tmp 76) (.tmp 101) 62 (by rfl) 2 i0 _ Tryz.underlying62 hi hz0 hz1 hz2 rfl W0.heap.size _ _ (by rfl) (Ou.ext Or_ Aa).2 _ [d9.Client,d9.Seq,d9.Index,d9.Last] (by rfl) (Aj.ext (w:=wr.alloc (.cells #[.int .i64 (d9.Client),.int .i64 (d9.Seq),.int .i64 (d9.Index),.int .i64 (d9.Last)] 2)) (Ib _ 2 [d9.Client,d9.Seq,d9.Index,d9.Last] (by simp) _ rfl) Aa) (by(try simp only[Mg,Bu,Cx]);omega) (Ou.ext Or_ Aa).1.size ?_
    intro v12 w12 o g
    have O12:=Ou.go (Or_.ext Aa) o g
    clear o g
    have e9:=O12.1;have k9:=(B0.ext O12.1)
    refine hKz.out _ _ (by(try dsimp only);exact⟨by exact Aa,by exact Bv⟩) (fun hHeld=>?_)
    clear hKz Kz
    (try simp only[Ab,Act.put])
    refine wt 27 ?_
    (try simp only[Ab,Act.put])
    refine wpAnyH_done (by kernel_rfl) ?_ _
    clear e1 e9 k1 k9
    clear K0 K0l
    have K0:=(B0.ext O12.1).cell;have K0l:=(B0.ext O12.1).lt
    go_wp2_with fail
    go_roundw
    case rel=>exact⟨k+1,by omega,by go_num,O12.cast (by rw[Hf _ HD.out];simp only[Is.ints,List.append_assoc,List.cons_append,List.nil_append,List.append_nil])⟩
    case measure=>simp[intOf];omega
   obtain rfl:k=d.Owe.length:=by omega
   rw[List.take_length] at Or_
   clear hk hlt
   obtain⟨w11,hV⟩:∃V,V=wr:=⟨_,rfl⟩
   subst hV
   have O11:=Or_;clear Or_
   go_wp2_with fail
   go_ret
   exact⟨_,rfl,by exact Ext.trans E0 O11.1,Af.mono (O11.cast (by simp only[Mg,Bu,List.append_assoc,List.cons_append,List.nil_append,List.append_nil])).2 E0.size⟩
end Go.Proofs.YtkpmbocbbgocbaaGreat
