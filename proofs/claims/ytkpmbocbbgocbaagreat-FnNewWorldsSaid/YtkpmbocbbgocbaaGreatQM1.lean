/- NU4. -/
import Derived.Test.YtkpmbocbbgocbaaGreatQNJ
import Derived.Test.YtkpmbocbbgocbaaGreatQM0
set_option linter.unusedSimpArgs false
set_option linter.unusedVariables false
set_option maxHeartbeats 8000000
set_option maxRecDepth 100000
namespace Go.Proofs.YtkpmbocbbgocbaaGreat
open Go.RowKit Go.G8
theorem oQ(w:World)(x0 x1 x2 x3:Int):Calls Tryz.prog 241 #[.agg #[.int .i64 x0,.int .i64 x1,.int .i64 x2,.int .i64 x3]] w (Ret w fun r w'=>Af w.heap.size 2 1 w' r [x0,x1,x2,x3]):=by
 go_enter Tryz.func241,Tryz.ntmps241
 go_wp2_with fail
 go_ret
 have h9:=Af.lit (w.alloc (.cells #[.int .i64 x0,.int .i64 x1,.int .i64 x2,.int .i64 x3] 284)) 2 [x0,x1,x2,x3] (by simp)
 simp only[World.size_alloc] at h9
 exact⟨_,rfl,by exact Aa,h9.mono oM⟩
theorem oR(w:World)(x0 x1 x2 x3 y0 y1 y2 y3 y4:Int):Calls Tryz.prog 239 #[.agg #[.int .i64 x0,.int .i64 x1,.int .i64 x2,.int .i64 x3,.int .i64 y0,.int .i64 y1,.int .i64 y2,.int .i64 y3,.int .i64 y4]] w (Ret w fun r w'=>Af w.heap.size 2 1 w' r [x0,x1,x2,x3,y0,y1,y2,y3,y4]):=by
 obtain⟨i0,hi,hz0,hz1,hz2⟩:=info_parts Ec
 go_enter Tryz.func239,Tryz.ntmps239
 go_upto_region 2 with(fail)
 obtain⟨W1,hW1⟩:∃W1,W1=((w.alloc (.cells #[.int .i64 x0,.int .i64 x1,.int .i64 x2,.int .i64 x3,.int .i64 y0,.int .i64 y1,.int .i64 y2,.int .i64 y3,.int .i64 y4] 281)).alloc (.cells #[.int .i64 x0,.int .i64 x1,.int .i64 x2,.int .i64 x3] 2)).alloc (.cells #[.int .i64 y0,.int .i64 y1,.int .i64 y2,.int .i64 y3,.int .i64 y4,.slice (some ⟨w.heap.size+1,0,none⟩) 4 4] 371):=⟨_,rfl⟩
 rw[<-hW1]
 have E1:Ext w W1:=by rw[hW1];exact(((Ext.refl _).alloc _).alloc _).alloc _
 have K1:Blk W1 (w.heap.size+2) 371 #[.int .i64 y0,.int .i64 y1,.int .i64 y2,.int .i64 y3,.int .i64 y4,.slice (some ⟨w.heap.size+1,0,none⟩) 4 4]:=by rw[hW1];exact Blk.new3 _ _ _ _ _
 have O1:Af (w.heap.size+1) 2 1 W1 (.slice (some ⟨w.heap.size+1,0,none⟩) 4 4) [x0,x1,x2,x3]:=by
  rw[hW1]
  have:=Af.lit (w.alloc (.cells #[.int .i64 x0,.int .i64 x1,.int .i64 x2,.int .i64 x3,.int .i64 y0,.int .i64 y1,.int .i64 y2,.int .i64 y3,.int .i64 y4] 281)) 2 [x0,x1,x2,x3] (by simp)
  simp only[World.size_alloc] at this
  exact Own.ext this ((Ext.refl _).alloc _)
 have z1:w.heap.size+3<=W1.heap.size:=by rw[hW1];simp
 clear hW1
 refine wp_region_held_drew (S:=fun w'=>Ext w w'/\Blk w' (w.heap.size+2) 371 #[.int .i64 y0,.int .i64 y1,.int .i64 y2,.int .i64 y3,.int .i64 y4,.slice (some ⟨w.heap.size+1,0,none⟩) 4 4]) (by kernel_rfl) (by(try dsimp only);exact⟨by exact Aa,by exact Bv⟩) (fun hHeld=>?_)
 refine wt 0 ?_
 (try simp only[Ab,Act.put])
 refine wtq 1 (fun _ h=>h.2.cell) ?_
 (try simp only[Ab,Act.put])
 refine wt 2 ?_
 (try simp only[Ab,Act.put])
 refine wtq 3 (fun _ h=>h.2.cell) ?_
 (try simp only[Ab,Act.put])
 refine wr1 4 fun Kz hKz=>?_
 (try simp only[Ab])
 go_simp
 go_at_call 245
 refine(bA _ y0 y1 y2 y3 y4).mono ?_
 rintro e w3⟨_,rfl,hx,o3⟩
 have X3:Ext W1 w3:=Ext.trans Aa hx;have z9:=X3.size
 have B3:=K1.ext X3
 obtain⟨r0,r1,r2,rfl⟩:=o3.shape
 refine hKz.out _ _ (by(try dsimp only);exact⟨by exact Aa,by exact Bv⟩) (fun hHeld=>?_)
 clear hKz Kz
 (try simp only[Ab,Act.put])
 refine wr1 5 fun Kz hKz=>?_
 (try simp only[Ab])
 rw[if_pos (by rfl)]
 refine Gv (.tmp 17) (.tmp 20) 62 (by rfl) 2 i0 _ Tryz.underlying62 hi hz0 hz1 hz2 rfl (w.heap.size+1) _ [x0,x1,x2,x3] (by rfl) (Own.ext O1 Aa) _ [y0,y1,y2,y3,y4] (by rfl) (Aj.ext o3.ints Aa) (by simp) (by first|omega|(simp only[Dj];omega)) ?_
 intro v4 w4 o4 g4
 have X4:Ext w w4:=g4.data Aa (fun k hk=>by have:=Af.foot (Own.ext O1 Aa:Af (w.heap.size+1) 2 1 w3 _ _) k hk;omega)
 have B4:Blk w4 (w.heap.size+2) 371 #[.int .i64 y0,.int .i64 y1,.int .i64 y2,.int .i64 y3,.int .i64 y4,.slice (some ⟨w.heap.size+1,0,none⟩) 4 4]:=Blk.upd (show Blk _ (w.heap.size+2) 371 #[.int .i64 y0,.int .i64 y1,.int .i64 y2,.int .i64 y3,.int .i64 y4,.slice (some ⟨w.heap.size+1,0,none⟩) 4 4] from by exact Bv) g4.upd (by simp[Be,Value.ownBlock])
 obtain⟨p0,p1,p2,rfl⟩:=o4.shape
 refine hKz.out _ _ (by(try dsimp only);exact⟨by exact Aa,by exact Bv⟩) (fun hHeld=>?_)
 clear hKz Kz
 (try simp only[Ab,Act.put])
 refine wt 6 ?_
 (try simp only[Ab,Act.put])
 refine wpAnyH_done (by kernel_rfl) ?_ _
 go_wp2_with fail
 go_ret
 exact⟨_,rfl,by exact Aa,Af.mono o4 oM⟩
theorem rO{a w:World}{X:Nat}{F:List Nat}{xs:List Int}{d:Ap}{u:Value}(C:Cu a X w F xs)(h:Lz a u d)(hl:xs.length+(Mg d).length<=1000000000):Calls Tryz.prog 131 #[.pointer (some ⟨X,0,none⟩),u] w (CuR a X w F (xs++Mg d)):=by
 obtain⟨p0,p1,p2,p4,t5,t7,rfl,l0,l1,l2,l4,g0,g1,g2,g4,g5,g7⟩:=h
 obtain⟨q0,q1,e,m0,m1,gA,gB⟩:=g0;obtain rfl:=Ct e
 obtain⟨a0,a1,a2,a3,a4,a5,e⟩:=gA.shape;obtain rfl:=Ct (M:=[_,_]) e
 obtain⟨b0,b1,b2,b3,b4,b5,e⟩:=gB.shape;obtain rfl:=Ct (M:=[_,_]) e
 obtain⟨t3,e,hs⟩:=g1;obtain rfl:=Ct e;obtain⟨s0,s1,s2,rfl⟩:=hs.shape
 have g1:Mb a (.agg #[.int .i64 d.Head.Num,.int .i64 d.Head.Base,.int .i64 d.Head.Time,.slice s0 s1 s2]) d.Head:=⟨_,rfl,hs⟩
 obtain⟨t3,e,hs⟩:=g2;obtain rfl:=Ct e;obtain⟨n0,n1,n2,rfl⟩:=hs.shape
 have g2:Mb a (.agg #[.int .i64 d.Next.Num,.int .i64 d.Next.Base,.int .i64 d.Next.Time,.slice n0 n1 n2]) d.Next:=⟨_,rfl,hs⟩
 obtain⟨t2,e,he⟩:=g4;obtain rfl:=Ct e
 obtain⟨sA,cA,rfl,kA,mA,hA⟩:=Aj.recs (f:=Aq.ints) (fun _=>rfl) dC (show Aj 9 a _ (d.Book.Entries.flatMap Aq.ints) from he)
 have HA:=Lib.hid hA;clear hA;unfold maxLen at mA
 obtain⟨sB,cB,rfl,kB,mB,hB⟩:=Aj.recs (f:=Is.ints) (fun _=>rfl) dC (show Aj 4 a _ (d.Owe.flatMap Is.ints) from g7)
 have HB:=Lib.hid hB;clear hB;unfold maxLen at mB
 obtain⟨v0,v1,v2,rfl⟩:=g5.shape
 clear l0 l1 l2 l4 m0 m1
 simp only[Mg,Bu,Cx] at hl
 show Calls _ _ #[_,.agg #[.slice a0 a1 a2,.slice a3 a4 a5,.slice b0 b1 b2,.slice b3 b4 b5,.int .i64 d.Head.Num,.int .i64 d.Head.Base,.int .i64 d.Head.Time,.slice s0 s1 s2,.int .i64 d.Next.Num,.int .i64 d.Next.Base,.int .i64 d.Next.Time,.slice n0 n1 n2,.bool d.More,.int .i64 d.Book.Base,.int .i64 d.Book.Time,.slice sA d.Book.Entries.length cA,.slice v0 v1 v2,.int .i64 d.Durable,.slice sB d.Owe.length cB]] _ _
 obtain⟨W0,hW0⟩:∃W0,W0=w.alloc (.cells #[.slice a0 a1 a2,.slice a3 a4 a5,.slice b0 b1 b2,.slice b3 b4 b5,.int .i64 d.Head.Num,.int .i64 d.Head.Base,.int .i64 d.Head.Time,.slice s0 s1 s2,.int .i64 d.Next.Num,.int .i64 d.Next.Base,.int .i64 d.Next.Time,.slice n0 n1 n2,.bool d.More,.int .i64 d.Book.Base,.int .i64 d.Book.Time,.slice sA d.Book.Entries.length cA,.slice v0 v1 v2,.int .i64 d.Durable,.slice sB d.Owe.length cB] 81):=⟨_,rfl⟩
 have E0:Ext w W0:=by rw[hW0];exact(Ext.refl _).alloc _
 have B0:Bx [X] W0 F w.heap.size 81 #[.slice a0 a1 a2,.slice a3 a4 a5,.slice b0 b1 b2,.slice b3 b4 b5,.int .i64 d.Head.Num,.int .i64 d.Head.Base,.int .i64 d.Head.Time,.slice s0 s1 s2,.int .i64 d.Next.Num,.int .i64 d.Next.Base,.int .i64 d.Next.Time,.slice n0 n1 n2,.bool d.More,.int .i64 d.Book.Base,.int .i64 d.Book.Time,.slice sA d.Book.Entries.length cA,.slice v0 v1 v2,.int .i64 d.Durable,.slice sB d.Owe.length cB]:=by rw[hW0];exact C.box _ _
 go_enter Tryz.func131,Tryz.ntmps131
 go_upto_region 1 with(fail)
 rw[<-hW0];clear hW0
 have C:=C.ext E0
 have G:Stp [X] W0 W0 F F:=Stp.refl _ _ _
 have K0:=B0.1.cell;have K0l:=B0.1.lt
 have hix0:∀W:World,(Instr.index 306 (.agg #[.slice a0 a1 a2,.slice a3 a4 a5,.slice b0 b1 b2,.slice b3 b4 b5]) (.int .i64 0)).run Tryz.prog W=.ok (.agg #[.slice a0 a1 a2,.slice a3 a4 a5]) W:=fun _=>rfl
 have hix1:∀W:World,(Instr.index 306 (.agg #[.slice a0 a1 a2,.slice a3 a4 a5,.slice b0 b1 b2,.slice b3 b4 b5]) (.int .i64 1)).run Tryz.prog W=.ok (.agg #[.slice b0 b1 b2,.slice b3 b4 b5]) W:=fun _=>rfl
 go_wp2_with fail
 refine(fG _ _ _ _ _ _ _ _ _ _ _ _ _).mono ?_
 rintro e V0⟨rfl,hx⟩
 have B0:=B0.ext hx;clear K0 K0l;have C:=C.ext hx;have K0:=B0.1.cell;have K0l:=B0.1.lt;have E0:=E0.trans hx;clear hx
 have G:Stp [X] V0 V0 F F:=Stp.refl _ _ _
 go_wp2_with fail
 go_loopw [13] (fun i wr=>(i=.int .i64 0/\∃Fr,Cu a X wr Fr xs/\Stp [X] V0 wr F Fr)\/(i=.int .i64 1/\∃Fr,Cu a X wr Fr (xs++Hr d.Two.A)/\Stp [X] V0 wr F Fr)\/(i=.int .i64 2/\∃Fr,Cu a X wr Fr (xs++Hr d.Two.A++Hr d.Two.B)/\Stp [X] V0 wr F Fr)) (fun i _=>2 - (intOf i).toNat)
 case atStart=>exact .inl ⟨rfl,_,C,G⟩
 case round =>
  rcases hrel with⟨rfl,Fr,Cr,Gr⟩|⟨rfl,Fr,Cr,Gr⟩|⟨rfl,Fr,Cr,Gr⟩
  .
   clear K0 K0l
   go_wp2_with fail
   refine(Xu (Cr.ext Aa) gA (by(try simp only[Mg,Bu,Cx]);omega)).mono ?_
   rintro e w1⟨_,rfl,F1,C1,g⟩
   have g:=Stp.pre (a:=wr) Aa g
   go_wp2_with fail
   go_roundw
   case rel=>exact .inr (.inl ⟨by go_num,_,C1,Gr.trans g⟩)
   case measure=>simp[intOf]
  .
   clear K0 K0l
   go_wp2_with fail
   refine(Xu (Cr.ext Aa) gB (by(try simp only[Mg,Bu,Cx]);omega)).mono ?_
   rintro e w1⟨_,rfl,F1,C1,g⟩
   have g:=Stp.pre (a:=wr) Aa g
   go_wp2_with fail
   go_roundw
   case rel=>exact .inr (.inr ⟨by go_num,_,C1,Gr.trans g⟩)
   case measure=>simp[intOf]
  have B0:=B0.go Gr;clear K0 K0l
  obtain⟨w1,hV⟩:∃V,V=wr:=⟨_,rfl⟩
  subst hV
  have C1:=Cr;clear Cr;have G:=Gr;clear Gr
  obtain⟨F1,hV⟩:∃V,V=Fr:=⟨_,rfl⟩
  subst hV
  have K0:=B0.1.cell;have K0l:=B0.1.lt
  go_wp2_with fail
  refine(dM (d:=d.Head) (C1.ext Aa) g1 (by(try simp only[Mg,Bu,Cx]);omega)).mono ?_
  rintro e w2⟨_,rfl,F2,C2,g⟩
  have g:=Stp.pre (a:=w1) Aa g
  have G:=G.trans g
  have B0:=B0.go g;clear K0 K0l
  clear g
  have K0:=B0.1.cell;have K0l:=B0.1.lt
  go_wp2_with fail
  refine(dM (d:=d.Next) (C2.ext Aa) g2 (by(try simp only[Mg,Bu,Cx]);omega)).mono ?_
  rintro e w3⟨_,rfl,F3,C3,g⟩
  have g:=Stp.pre (a:=w2) Aa g
  have G:=G.trans g
  have B0:=B0.go g;clear K0 K0l
  clear g
  have K0:=B0.1.cell;have K0l:=B0.1.lt
  go_upto_region 8 with(fail)
  have e1:=C3.e;have kB:=B0.1
  refine wp_region_held_drew (S:=fun w'=>Ext a w'/\Blk w' w.heap.size 81 #[.slice a0 a1 a2,.slice a3 a4 a5,.slice b0 b1 b2,.slice b3 b4 b5,.int .i64 d.Head.Num,.int .i64 d.Head.Base,.int .i64 d.Head.Time,.slice s0 s1 s2,.int .i64 d.Next.Num,.int .i64 d.Next.Base,.int .i64 d.Next.Time,.slice n0 n1 n2,.bool d.More,.int .i64 d.Book.Base,.int .i64 d.Book.Time,.slice sA d.Book.Entries.length cA,.slice v0 v1 v2,.int .i64 d.Durable,.slice sB d.Owe.length cB]) (by kernel_rfl) (by(try dsimp only);exact⟨by exact Aa,by exact Bv⟩) (fun hHeld=>?_)
  refine wt 0 ?_
  (try simp only[Ab,Act.put])
  refine wt 1 ?_
  (try simp only[Ab,Act.put])
  refine wtq 2 (fun _ h=>h.2.cell) ?_
  (try simp only[Ab,Act.put])
  refine wt 4 ?_
  (try simp only[Ab,Act.put])
  refine wt 5 ?_
  (try simp only[Ab,Act.put])
  refine wtq 6 (fun _ h=>h.2.cell) ?_
  (try simp only[Ab,Act.put])
  refine wt 7 ?_
  (try simp only[Ab,Act.put])
  refine wt 8 ?_
  (try simp only[Ab,Act.put])
  refine wtq 9 (fun _ h=>h.2.cell) ?_
  (try simp only[Ab,Act.put])
  refine wt 10 ?_
  (try simp only[Ab,Act.put])
  refine wt 11 ?_
  (try simp only[Ab,Act.put])
  refine wtq 12 (fun _ h=>h.2.cell) ?_
  (try simp only[Ab,Act.put])
  refine wt 13 ?_
  (try simp only[Ab,Act.put])
  refine wr1 3 fun Kz hKz=>?_
  (try simp only[Ab])
  go_simp
  go_at_call 139
  refine(rH _ _).mono ?_
  rintro e9 w9⟨rfl,rfl⟩
  refine hKz.out _ _ (by(try dsimp only);exact⟨by exact Aa,by exact Bv⟩) (fun hHeld=>?_)
  clear hKz Kz
  (try simp only[Ab,Act.put])
  refine wr1 14 fun Kz hKz=>?_
  (try simp only[Ab])
  go_simp
  refine hKz.out _ _ (by(try dsimp only);exact⟨by exact Aa,by exact Bv⟩) (fun hHeld=>?_)
  clear hKz Kz
  (try simp only[Ab,Act.put])
  refine wr1 15 fun Kz hKz=>?_
  (try simp only[Ab])
  go_simp
  go_at_call 135
  refine(Jh (C3.ext Aa) (Aj.ext (w:=w3.alloc (.cells #[.int .i64 (Ow d.More),.int .i64 d.Book.Base,.int .i64 d.Book.Time,.int .i64 (d.Book.Entries.length:Int)] 2)) (Ib w3 2 [(Ow d.More),d.Book.Base,d.Book.Time,(d.Book.Entries.length:Int)] (by simp) _ rfl) Aa) (by(try simp only[Mg,Bu,Cx]);omega)).mono ?_
  rintro e w4⟨_,rfl,F4,C4,g⟩
  have g:=Stp.pre (a:=w3) Aa g
  have e4:=C4.e;have B4:=B0.go g;have k4:=B4.1
  refine hKz.out _ _ (by(try dsimp only);exact⟨by exact Aa,by exact Bv⟩) (fun hHeld=>?_)
  clear hKz Kz
  (try simp only[Ab,Act.put])
  refine wpAnyH_done (by kernel_rfl) ?_ _
  clear K0 K0l;have B0:=B4;clear B4 k4 kB
  have G:=G.trans g;clear g e1 e4
  have K0:=B0.1.cell;have K0l:=B0.1.lt
  go_wp2_with fail
  go_loopw [48] (fun i wr=>∃k:Nat,k<=d.Book.Entries.length/\i=.int .i64 k/\∃Fr,Cu a X wr Fr (((((xs++Hr d.Two.A++Hr d.Two.B)++Lr d.Head)++Lr d.Next)++[(Ow d.More),d.Book.Base,d.Book.Time,(d.Book.Entries.length:Int)])++(d.Book.Entries.take k).flatMap Aq.ints)/\Stp [X] w4 wr F4 Fr) (fun i _=>d.Book.Entries.length - (intOf i).toNat)
  case atStart=>exact⟨0,Nat.zero_le _,rfl,_,C4.cast (by simp),Stp.refl _ _ _⟩
  case round =>
   obtain⟨k,hk,rfl,Fr,Cr,Gr⟩:=hrel
   have B0:=B0.go Gr;clear K0 K0l
   have K0:=B0.1.cell;have K0l:=B0.1.lt
   by_cases hlt:k<d.Book.Entries.length
   .
    obtain⟨d9,bb1,q1,hd,rfl,hb1,c⟩:=HA.out k hlt
    have d0:=Cr.e.cell (c 0 _ dC rfl)
    have d1:=Cr.e.cell (c 1 _ dC rfl)
    have d2:=Cr.e.cell (c 2 _ dC rfl)
    have d3:=Cr.e.cell (c 3 _ dC rfl)
    have d4:=Cr.e.cell (c 4 _ dC rfl)
    have d5:=Cr.e.cell (c 5 _ dC rfl)
    have d6:=Cr.e.cell (c 6 _ dC rfl)
    have d7:=Cr.e.cell (c 7 _ dC rfl)
    have d8:=Cr.e.cell (c 8 _ dC rfl)
    (try simp only[Nat.add_zero] at d0)
    clear c
    have hfm:=Jm Aq.ints hd;have HD:=Lib.hid hd;clear hd
    simp only[Aq.ints,Cx] at hfm
    go_wp2_with fail
    refine(oR _ d9.Index d9.Time d9.Client d9.Seq d9.Op.Kind d9.Op.A d9.Op.B d9.Op.C d9.Op.D).mono ?_
    rintro e v6⟨_,rfl,hx,o⟩
    have hx:Ext wr v6:=Ext.trans Aa hx
    obtain⟨p0,p1,p2,rfl⟩:=o.shape
    have B0:=B0.ext hx;clear K0 K0l;have K0:=B0.1.cell;have K0l:=B0.1.lt
    go_wp2_with fail
    refine(Jh (Cr.ext hx) (ys:=[d9.Index,d9.Time,d9.Client,d9.Seq,d9.Op.Kind,d9.Op.A,d9.Op.B,d9.Op.C,d9.Op.D]) o.ints (by(try simp only[Mg,Bu,Cx]);omega)).mono ?_
    rintro e w6⟨_,rfl,F6,C6,g⟩
    have B0:=B0.go g;clear K0 K0l
    have g:=Stp.pre hx g
    have G:=(Stp.refl [X] wr Fr).trans g
    clear g
    have K0:=B0.1.cell;have K0l:=B0.1.lt
    go_wp2_with fail
    go_roundw
    case rel=>exact⟨k+1,by omega,by go_num,_,C6.cast (by rw[Hf _ HD.out];simp only[Aq.ints,List.append_assoc,List.cons_append,List.nil_append,List.append_nil]),Gr.trans G⟩
    case measure=>simp[intOf];omega
   obtain rfl:k=d.Book.Entries.length:=by omega
   rw[List.take_length] at Cr
   clear hk hlt
   obtain⟨w5,hV⟩:∃V,V=wr:=⟨_,rfl⟩
   subst hV
   have C5:=Cr;clear Cr;have G:=G.trans Gr;clear Gr
   obtain⟨F5,hV⟩:∃V,V=Fr:=⟨_,rfl⟩
   subst hV
   go_wp2_with fail
   refine(dL (l:=d.Seen) (C5.ext Aa) g5 (by(try simp only[Mg,Bu,Cx]);omega)).mono ?_
   rintro e w7⟨_,rfl,F7,C7,g⟩
   have g:=Stp.pre (a:=w5) Aa g
   have G:=G.trans g
   have B0:=B0.go g;clear K0 K0l
   clear g
   have K0:=B0.1.cell;have K0l:=B0.1.lt
   go_wp2_with fail
   refine(Jh (C7.ext Aa) (Ib _ 2 [d.Durable,(d.Owe.length:Int)] (by simp) _ rfl) (by(try simp only[Mg,Bu,Cx]);omega)).mono ?_
   rintro e w8⟨_,rfl,F8,C8,g⟩
   have g:=Stp.pre (a:=w7) Aa g
   have G:=G.trans g
   have B0:=B0.go g;clear K0 K0l
   clear g
   have K0:=B0.1.cell;have K0l:=B0.1.lt
   go_wp2_with fail
   go_loopw [72] (fun i wr=>∃k:Nat,k<=d.Owe.length/\i=.int .i64 k/\∃Fr,Cu a X wr Fr ((((((((xs++Hr d.Two.A++Hr d.Two.B)++Lr d.Head)++Lr d.Next)++[(Ow d.More),d.Book.Base,d.Book.Time,(d.Book.Entries.length:Int)])++d.Book.Entries.flatMap Aq.ints)++Ox d.Seen)++[d.Durable,(d.Owe.length:Int)])++(d.Owe.take k).flatMap Is.ints)/\Stp [X] w8 wr F8 Fr) (fun i _=>d.Owe.length - (intOf i).toNat)
   case atStart=>exact⟨0,Nat.zero_le _,rfl,_,C8.cast (by simp),Stp.refl _ _ _⟩
   case round =>
    obtain⟨k,hk,rfl,Fr,Cr,Gr⟩:=hrel
    have B0:=B0.go Gr;clear K0 K0l
    have K0:=B0.1.cell;have K0l:=B0.1.lt
    by_cases hlt:k<d.Owe.length
    .
     obtain⟨d9,bb1,q1,hd,rfl,hb1,c⟩:=HB.out k hlt
     have d0:=Cr.e.cell (c 0 _ dC rfl)
     have d1:=Cr.e.cell (c 1 _ dC rfl)
     have d2:=Cr.e.cell (c 2 _ dC rfl)
     have d3:=Cr.e.cell (c 3 _ dC rfl)
     (try simp only[Nat.add_zero] at d0)
     clear c
     have hfm:=Jm Is.ints hd;have HD:=Lib.hid hd;clear hd
     simp only[Is.ints,Cx] at hfm
     go_wp2_with fail
     refine(oQ _ d9.Client d9.Seq d9.Index d9.Last).mono ?_
     rintro e v10⟨_,rfl,hx,o⟩
     have hx:Ext wr v10:=Ext.trans Aa hx
     obtain⟨p0,p1,p2,rfl⟩:=o.shape
     have B0:=B0.ext hx;clear K0 K0l;have K0:=B0.1.cell;have K0l:=B0.1.lt
     go_wp2_with fail
     refine(Jh (Cr.ext hx) (ys:=[d9.Client,d9.Seq,d9.Index,d9.Last]) o.ints (by(try simp only[Mg,Bu,Cx]);omega)).mono ?_
     rintro e w10⟨_,rfl,F10,C10,g⟩
     have B0:=B0.go g;clear K0 K0l
     have g:=Stp.pre hx g
     have G:=(Stp.refl [X] wr Fr).trans g
     clear g
     have K0:=B0.1.cell;have K0l:=B0.1.lt
     go_wp2_with fail
     go_roundw
     case rel=>exact⟨k+1,by omega,by go_num,_,C10.cast (by rw[Hf _ HD.out];simp only[Is.ints,List.append_assoc,List.cons_append,List.nil_append,List.append_nil]),Gr.trans G⟩
     case measure=>simp[intOf];omega
    obtain rfl:k=d.Owe.length:=by omega
    rw[List.take_length] at Cr
    clear hk hlt
    obtain⟨w9,hV⟩:∃V,V=wr:=⟨_,rfl⟩
    subst hV
    have C9:=Cr;clear Cr;have G:=G.trans Gr;clear Gr
    obtain⟨F9,hV⟩:∃V,V=Fr:=⟨_,rfl⟩
    subst hV
    go_wp2_with fail
    refine bodyPost_end (by simp[results,Tryz.results131,go_sem];try rfl) rfl ?_
    exact⟨_,rfl,_,C9.cast (by simp only[Mg,Bu,List.append_assoc,List.cons_append,List.nil_append,List.append_nil]),Stp.pre E0 G⟩
end Go.Proofs.YtkpmbocbbgocbaaGreat
