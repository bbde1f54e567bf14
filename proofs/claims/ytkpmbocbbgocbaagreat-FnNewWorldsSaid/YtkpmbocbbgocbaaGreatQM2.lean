/- NU2 NU6 NU7. -/
import Derived.Test.YtkpmbocbbgocbaaGreatQM0
set_option linter.unusedSimpArgs false
set_option linter.unusedVariables false
set_option maxHeartbeats 8000000
set_option maxRecDepth 100000
namespace Go.Proofs.YtkpmbocbbgocbaaGreat
open Go.RowKit Go.G8
theorem oP{a w:World}{v u:Value}{xs:List Int}{l:List (List Int)}(O:Ou a w v xs)(h:Ck 0 a u (Ac l))(hl:xs.length+(((l.length:Int)::l.flatMap Bu)).length<=1000000000):Calls Tryz.prog 326 #[v,u] w (OuR a w v (xs++((l.length:Int)::l.flatMap Bu))):=by
 obtain⟨sA,cA,rfl,kA,mA,hA⟩:=Ck.rows h
 have HA:=Lib.hid hA;clear hA;unfold maxLen at mA
 obtain⟨i0,hi,hz0,hz1,hz2⟩:=info_parts Ec
 simp only[Bu,Cx] at hl
 go_enter Tryz.func326,Tryz.ntmps326
 have E0:Ext w w:=Ext.refl _
 have G:Stp [] w w (Be [v]) (Be [v]):=Stp.refl _ _ _
 go_wp2_with (first|(at_builtin;refine Ci rfl (.tmp 6) (.tmp 9) 62 rfl 2 i0 _ Tryz.underlying62 hi hz0 hz1 hz2 rfl a.heap.size _ _ rfl (Ou.ext O Aa).2 _ [(l.length:Int)] rfl (Ib _ 2 [(l.length:Int)] (by simp) _ rfl) (by(try simp only[Bu,Cx]);omega) (Ou.ext O Aa).1.size ?_;rotate_right;intro v1 w1 o g;have O1:=Ou.go (O.ext Aa) o g;have g:=Stp.pre (a:=w) Aa g;have G:=G.trans g;clear o g))
 go_loopw [0,5] (fun t i wr=>∃k:Nat,k<=l.length/\i=.int .i64 k/\Ou a wr t ((xs++[(l.length:Int)])++(l.take k).flatMap Bu)/\Stp [] w1 wr (Be [v1]) (Be [t])) (fun _ i _=>l.length - (intOf i).toNat)
 case atStart=>exact⟨0,Nat.zero_le _,rfl,O1.cast (by simp),Stp.refl _ _ _⟩
 case round =>
  obtain⟨k,hk,rfl,Or_,Gr⟩:=hrel
  obtain⟨r0,r1,r2,rfl⟩:=Or_.shape
  have Gs:=G;have G:Stp [] wr wr (Be [.slice r0 r1 r2]) (Be [.slice r0 r1 r2]):=Stp.refl _ _ _
  by_cases hlt:k<l.length
  .
   obtain⟨r,b1,q1,sa,sn,sc,hd,rfl,hb1,c0,hin⟩:=HA.out k hlt
   have d0:=Or_.1.cell c0
   obtain⟨sa,sc,e,-,hsm,-⟩:=hin.one;cases e;unfold maxLen at hsm
   have hfm:=Jm Bu hd;have HD:=Lib.hid hd;clear hd
   simp only[Bu,Cx] at hfm
   go_wp2_with (first|(at_builtin;refine Ci rfl (.tmp 17) (.tmp 23) 62 rfl 2 i0 _ Tryz.underlying62 hi hz0 hz1 hz2 rfl a.heap.size _ _ rfl (Ou.ext Or_ Aa).2 _ [(r.length:Int)] rfl (Ib _ 2 [(r.length:Int)] (by simp) _ rfl) (by(try simp only[Bu,Cx]);omega) (Ou.ext Or_ Aa).1.size ?_;rotate_right;intro v3 w3 o g;have O3:=Ou.go (Or_.ext Aa) o g;have g:=Stp.pre (a:=wr) Aa g;have G:=G.trans g;clear o g;have d1:=O3.1.cell c0)|(at_builtin;refine Ci rfl (.tmp 25) (.tmp 29) 62 rfl 2 i0 _ Tryz.underlying62 hi hz0 hz1 hz2 rfl a.heap.size _ _ rfl (Ou.ext O3 Aa).2 _ (r) rfl (Aj.ext hin (O3.1.trans Aa)) (by(try simp only[Bu,Cx]);omega) (Ou.ext O3 Aa).1.size ?_;rotate_right;intro v4 w4 o g;have O4:=Ou.go (O3.ext Aa) o g;have g:=Stp.pre (a:=w3) Aa g;have G:=G.trans g;clear o g))
   go_roundw
   case rel=>exact⟨k+1,by omega,by go_num,O4.cast (by rw[Hf _ HD.out];simp only[Bu,List.append_assoc,List.cons_append,List.nil_append,List.append_nil]),Gr.trans G⟩
   case measure=>simp[intOf];omega
  obtain rfl:k=l.length:=by omega
  rw[List.take_length] at Or_
  clear hk hlt
  obtain⟨w2,hV⟩:∃V,V=wr:=⟨_,rfl⟩
  subst hV
  have O2:=Or_;clear Or_
  have G:=Gs.trans Gr;clear Gr Gs
  go_wp2_with fail
  go_ret
  exact⟨_,rfl,O2.cast (by simp only[Bu,List.append_assoc,List.cons_append,List.nil_append,List.append_nil]),Stp.pre E0 G⟩
theorem dO{a w:World}{v u:Value}{xs:List Int}{l:List Ar}(O:Ou a w v xs)(h:Ni a u l)(hl:xs.length+(Ox l).length<=1000000000):Calls Tryz.prog 222 #[v,u] w (OuR a w v (xs++Ox l)):=by
 obtain⟨sA,cA,rfl,kA,mA,hA⟩:=Aj.recs (f:=Ar.ints) (fun _=>rfl) dC (show Aj 3 a _ (l.flatMap Ar.ints) from h)
 have HA:=Lib.hid hA;clear hA;unfold maxLen at mA
 obtain⟨i0,hi,hz0,hz1,hz2⟩:=info_parts Ec
 simp only[Ox,Cx] at hl
 go_enter Tryz.func222,Tryz.ntmps222
 have E0:Ext w w:=Ext.refl _
 have G:Stp [] w w (Be [v]) (Be [v]):=Stp.refl _ _ _
 go_wp2_with (first|(at_builtin;refine Ci rfl (.tmp 6) (.tmp 9) 62 rfl 2 i0 _ Tryz.underlying62 hi hz0 hz1 hz2 rfl a.heap.size _ _ rfl (Ou.ext O Aa).2 _ [(l.length:Int)] rfl (Ib _ 2 [(l.length:Int)] (by simp) _ rfl) (by(try simp only[Ox,Cx]);omega) (Ou.ext O Aa).1.size ?_;rotate_right;intro v1 w1 o g;have O1:=Ou.go (O.ext Aa) o g;have g:=Stp.pre (a:=w) Aa g;have G:=G.trans g;clear o g))
 go_loopw [0,5] (fun t i wr=>∃k:Nat,k<=l.length/\i=.int .i64 k/\Ou a wr t ((xs++[(l.length:Int)])++(l.take k).flatMap Ar.ints)/\Stp [] w1 wr (Be [v1]) (Be [t])) (fun _ i _=>l.length - (intOf i).toNat)
 case atStart=>exact⟨0,Nat.zero_le _,rfl,O1.cast (by simp),Stp.refl _ _ _⟩
 case round =>
  obtain⟨k,hk,rfl,Or_,Gr⟩:=hrel
  obtain⟨r0,r1,r2,rfl⟩:=Or_.shape
  have Gs:=G;have G:Stp [] wr wr (Be [.slice r0 r1 r2]) (Be [.slice r0 r1 r2]):=Stp.refl _ _ _
  by_cases hlt:k<l.length
  .
   obtain⟨d9,bb1,q1,hd,rfl,hb1,c⟩:=HA.out k hlt
   have c0:=c 0 _ dC rfl;have d0:=Or_.1.cell c0
   have c1:=c 1 _ dC rfl;have d1:=Or_.1.cell c1
   have c2:=c 2 _ dC rfl;have d2:=Or_.1.cell c2
   (try simp only[Nat.add_zero] at c0 d0)
   clear c
   have hfm:=Jm Ar.ints hd;have HD:=Lib.hid hd;clear hd
   simp only[Ar.ints,Cx] at hfm
   go_upto_region 5 with(fail)
   have e1:=Or_.1
   refine wp_region_held_drew (S:=fun w'=>Ext a w') (by kernel_rfl) (by(try dsimp only);exact Aa) (fun hHeld=>?_)
   refine wt 0 ?_
   (try simp only[Ab,Act.put])
   refine wt 1 ?_
   (try simp only[Ab,Act.put])
   refine wt 2 ?_
   (try simp only[Ab,Act.put])
   refine wt 3 ?_
   (try simp only[Ab,Act.put])
   refine wt 4 ?_
   (try simp only[Ab,Act.put])
   refine wpAnyH_take (i:=5) (v:=?_) rfl (by kernel_rfl) (by kernel_rfl) (by kernel_rfl) (fun _ _ _ h=>h) (Or.inl ⟨by rfl,?_⟩) (by assumption) ?_
   rotate_left
   focus(intro w hSw;(try dsimp only at hSw);have hq:=hSw.cell c0;go_simp <;> with_reducible rfl)
   (try simp only[Ab,Act.put])
   refine wt 6 ?_
   (try simp only[Ab,Act.put])
   refine wt 7 ?_
   (try simp only[Ab,Act.put])
   refine wt 8 ?_
   (try simp only[Ab,Act.put])
   refine wt 9 ?_
   (try simp only[Ab,Act.put])
   refine wpAnyH_take (i:=10) (v:=?_) rfl (by kernel_rfl) (by kernel_rfl) (by kernel_rfl) (fun _ _ _ h=>h) (Or.inl ⟨by rfl,?_⟩) (by assumption) ?_
   rotate_left
   focus(intro w hSw;(try dsimp only at hSw);have hq:=hSw.cell c1;go_simp <;> with_reducible rfl)
   (try simp only[Ab,Act.put])
   refine wt 11 ?_
   (try simp only[Ab,Act.put])
   refine wt 12 ?_
   (try simp only[Ab,Act.put])
   refine wt 13 ?_
   (try simp only[Ab,Act.put])
   refine wt 14 ?_
   (try simp only[Ab,Act.put])
   refine wpAnyH_take (i:=15) (v:=?_) rfl (by kernel_rfl) (by kernel_rfl) (by kernel_rfl) (fun _ _ _ h=>h) (Or.inl ⟨by rfl,?_⟩) (by assumption) ?_
   rotate_left
   focus(intro w hSw;(try dsimp only at hSw);have hq:=hSw.cell c2;go_simp <;> with_reducible rfl)
   (try simp only[Ab,Act.put])
   refine wr1 16 fun Kz hKz=>?_
   (try simp only[Ab])
   go_simp
   refine hKz.out _ _ (by(try dsimp only);exact Aa) (fun hHeld=>?_)
   clear hKz Kz
   (try simp only[Ab,Act.put])
   refine wr1 17 fun Kz hKz=>?_
   (try simp only[Ab])
   rw[if_pos (by rfl)]
   refine Gv (.tmp 17) (.tmp 33) 62 (by rfl) 2 i0 _ Tryz.underlying62 hi hz0 hz1 hz2 rfl a.heap.size _ _ (by rfl) (Ou.ext Or_ Aa).2 _ [d9.Client,d9.Seq,d9.Index] (by rfl) (Aj.ext (w:=wr.alloc (.cells #[.int .i64 (d9.Client),.int .i64 (d9.Seq),.int .i64 (d9.Index)] 2)) (Ib _ 2 [d9.Client,d9.Seq,d9.Index] (by simp) _ rfl) Aa) (by(try simp only[Ox,Cx]);omega) (Ou.ext Or_ Aa).1.size ?_
   intro v3 w3 o g
   have O3:=Ou.go (Or_.ext Aa) o g
   have g:=Stp.pre (a:=wr) Aa g
   have G:=G.trans g
   clear o g
   have e9:=O3.1
   refine hKz.out _ _ (by(try dsimp only);exact Aa) (fun hHeld=>?_)
   clear hKz Kz
   (try simp only[Ab,Act.put])
   refine wt 18 ?_
   (try simp only[Ab,Act.put])
   refine wpAnyH_done (by kernel_rfl) ?_ _
   clear e1 e9
   go_wp2_with fail
   go_roundw
   case rel=>exact⟨k+1,by omega,by go_num,O3.cast (by rw[Hf _ HD.out];simp only[Ar.ints,List.append_assoc,List.cons_append,List.nil_append,List.append_nil]),Gr.trans G⟩
   case measure=>simp[intOf];omega
  obtain rfl:k=l.length:=by omega
  rw[List.take_length] at Or_
  clear hk hlt
  obtain⟨w2,hV⟩:∃V,V=wr:=⟨_,rfl⟩
  subst hV
  have O2:=Or_;clear Or_
  have G:=Gs.trans Gr;clear Gr Gs
  go_wp2_with fail
  go_ret
  exact⟨_,rfl,O2.cast (by simp only[Ox,List.append_assoc,List.cons_append,List.nil_append,List.append_nil]),Stp.pre E0 G⟩
theorem dP{a w:World}{v u:Value}{xs:List Int}{d:Di}(O:Ou a w v xs)(h:Mb a u d)(hl:xs.length+(Lr d).length<=1000000000):Calls Tryz.prog 220 #[v,u] w (OuR a w v (xs++Lr d)):=by
 obtain⟨t3,rfl,h3⟩:=h
 obtain⟨s0,s1,s2,rfl⟩:=h3.shape
 obtain⟨i0,hi,hz0,hz1,hz2⟩:=info_parts Ec
 simp only[Lr,Cx] at hl
 show Calls _ _ #[_,.agg #[.int .i64 d.Num,.int .i64 d.Base,.int .i64 d.Time,.slice s0 s1 s2]] _ _
 obtain⟨W0,hW0⟩:∃W0,W0=w.alloc (.cells #[.int .i64 d.Num,.int .i64 d.Base,.int .i64 d.Time,.slice s0 s1 s2] 75):=⟨_,rfl⟩
 have E0:Ext w W0:=by rw[hW0];exact(Ext.refl _).alloc _
 have B0:Bx [] W0 (Be [v]) w.heap.size 75 #[.int .i64 d.Num,.int .i64 d.Base,.int .i64 d.Time,.slice s0 s1 s2]:=by rw[hW0];exact O.box _ _
 go_enter Tryz.func220,Tryz.ntmps220
 go_upto_region 1 with(fail)
 rw[<-hW0];clear hW0
 have O:=O.ext E0
 have G:Stp [] W0 W0 (Be [v]) (Be [v]):=Stp.refl _ _ _
 have K0:=B0.1.cell;have K0l:=B0.1.lt
 go_wp2_with (first|(at_builtin;refine Ci rfl (.tmp 5) (.tmp 12) 62 rfl 2 i0 _ Tryz.underlying62 hi hz0 hz1 hz2 rfl a.heap.size _ _ rfl (Ou.ext O Aa).2 _ [d.Num,d.Base,d.Time] rfl (Ib _ 2 [d.Num,d.Base,d.Time] (by simp) _ rfl) (by(try simp only[Lr,Cx]);omega) (Ou.ext O Aa).1.size ?_;rotate_right;intro v1 w1 o g;have O1:=Ou.go (O.ext Aa) o g;have g:=Stp.pre (a:=W0) Aa g;have G:=G.trans g;have B0:=B0.go g;clear o g;clear K0 K0l;have K0:=B0.1.cell;have K0l:=B0.1.lt))
 refine(dO (l:=d.Seen) (O1.ext Aa) h3 (by(try simp only[Lr,Cx]);omega)).mono ?_
 rintro e w2⟨v2,rfl,O2,g⟩
 have g:=Stp.pre (a:=w1) Aa g;have G:=G.trans g
 have B0:=B0.go g
 clear g
 clear K0 K0l
 have K0:=B0.1.cell;have K0l:=B0.1.lt
 go_wp2_with fail
 go_ret
 exact⟨_,rfl,O2.cast (by simp only[Lr,List.append_assoc,List.cons_append,List.nil_append,List.append_nil]),Stp.pre E0 G⟩
theorem nA{a w:World}{v u:Value}{xs:List Int}{x0 x1 x2 x3 x4:Int}(O:Ou a w v xs)(hu:u=.agg #[.int .i64 x0,.int .i64 x1,.int .i64 x2,.int .i64 x3,.int .i64 x4])(hl:xs.length+([x0,x1,x2,x3,x4]).length<=1000000000):Calls Tryz.prog 224 #[v,u] w (OuR a w v (xs++[x0,x1,x2,x3,x4])):=by
 subst hu
 obtain⟨i0,hi,hz0,hz1,hz2⟩:=info_parts Ec
 simp only[Cx] at hl
 show Calls _ _ #[_,.agg #[.int .i64 x0,.int .i64 x1,.int .i64 x2,.int .i64 x3,.int .i64 x4]] _ _
 obtain⟨W0,hW0⟩:∃W0,W0=w.alloc (.cells #[.int .i64 x0,.int .i64 x1,.int .i64 x2,.int .i64 x3,.int .i64 x4] 94):=⟨_,rfl⟩
 have E0:Ext w W0:=by rw[hW0];exact(Ext.refl _).alloc _
 have B0:Bx [] W0 (Be [v]) w.heap.size 94 #[.int .i64 x0,.int .i64 x1,.int .i64 x2,.int .i64 x3,.int .i64 x4]:=by rw[hW0];exact O.box _ _
 go_enter Tryz.func224,Tryz.ntmps224
 go_upto_region 1 with(fail)
 rw[<-hW0];clear hW0
 have O:=O.ext E0
 have G:Stp [] W0 W0 (Be [v]) (Be [v]):=Stp.refl _ _ _
 have K0:=B0.1.cell;have K0l:=B0.1.lt
 go_wp2_with (first|(at_builtin;refine Ci rfl (.tmp 5) (.tmp 16) 62 rfl 2 i0 _ Tryz.underlying62 hi hz0 hz1 hz2 rfl a.heap.size _ _ rfl (Ou.ext O Aa).2 _ [x0,x1,x2,x3,x4] rfl (Ib _ 2 [x0,x1,x2,x3,x4] (by simp) _ rfl) (by(try simp only[Cx]);omega) (Ou.ext O Aa).1.size ?_;rotate_right;intro v1 w1 o g;have O1:=Ou.go (O.ext Aa) o g;have g:=Stp.pre (a:=W0) Aa g;have G:=G.trans g;have B0:=B0.go g;clear o g;clear K0 K0l;have K0:=B0.1.cell;have K0l:=B0.1.lt))
 go_ret
 exact⟨_,rfl,O1.cast (by simp only[List.append_assoc,List.cons_append,List.nil_append,List.append_nil]),Stp.pre E0 G⟩
theorem Xw{a w:World}{v u:Value}{xs:List Int}{d:Ez}(O:Ou a w v xs)(h:Gw a u d)(hl:xs.length+(Hr d).length<=1000000000):Calls Tryz.prog 219 #[v,u] w (OuR a w v (xs++Hr d)):=by
 obtain⟨t0,t1,rfl,h0,h1⟩:=h
 have H0:=h0;obtain⟨a0,n0,k0,rfl⟩:=h0.shape
 obtain⟨sB,cB,rfl,kB,mB,hB⟩:=Ck.writes h1
 have HB:=Lib.hid hB;clear hB;unfold maxLen at mB
 obtain⟨i0,hi,hz0,hz1,hz2⟩:=info_parts Ec
 simp only[Hr,Bu,Cx] at hl
 show Calls _ _ #[_,.agg #[.slice a0 n0 k0,.slice sB d.Wait.length cB]] _ _
 obtain⟨W0,hW0⟩:∃W0,W0=w.alloc (.cells #[.slice a0 n0 k0,.slice sB d.Wait.length cB] 70):=⟨_,rfl⟩
 have E0:Ext w W0:=by rw[hW0];exact(Ext.refl _).alloc _
 have B0:Bx [] W0 (Be [v]) w.heap.size 70 #[.slice a0 n0 k0,.slice sB d.Wait.length cB]:=by rw[hW0];exact O.box _ _
 go_enter Tryz.func219,Tryz.ntmps219
 go_upto_region 1 with(fail)
 rw[<-hW0];clear hW0
 have O:=O.ext E0
 have G:Stp [] W0 W0 (Be [v]) (Be [v]):=Stp.refl _ _ _
 have K0:=B0.1.cell;have K0l:=B0.1.lt
 go_wp2_with fail
 refine(oP (l:=d.Kept) (O.ext Aa) H0 (by(try simp only[Hr,Bu,Cx]);omega)).mono ?_
 rintro e w1⟨v1,rfl,O1,g⟩
 have g:=Stp.pre (a:=W0) Aa g;have G:=G.trans g
 have B0:=B0.go g
 clear g
 clear K0 K0l
 have K0:=B0.1.cell;have K0l:=B0.1.lt
 go_wp2_with (first|(at_builtin;refine Ci rfl (.tmp 10) (.tmp 14) 62 rfl 2 i0 _ Tryz.underlying62 hi hz0 hz1 hz2 rfl a.heap.size _ _ rfl (Ou.ext O1 Aa).2 _ [(d.Wait.length:Int)] rfl (Ib _ 2 [(d.Wait.length:Int)] (by simp) _ rfl) (by(try simp only[Hr,Bu,Cx]);omega) (Ou.ext O1 Aa).1.size ?_;rotate_right;intro v2 w2 o g;have O2:=Ou.go (O1.ext Aa) o g;have g:=Stp.pre (a:=w1) Aa g;have G:=G.trans g;have B0:=B0.go g;clear o g;clear K0 K0l;have K0:=B0.1.cell;have K0l:=B0.1.lt))
 go_loopw [0,5] (fun t i wr=>∃k:Nat,k<=d.Wait.length/\i=.int .i64 k/\Ou a wr t (((xs++((d.Kept.length:Int)::d.Kept.flatMap Bu))++[(d.Wait.length:Int)])++(d.Wait.take k).flatMap wrN)/\Stp [] w2 wr (Be [v2]) (Be [t])) (fun _ i _=>d.Wait.length - (intOf i).toNat)
 case atStart=>exact⟨0,Nat.zero_le _,rfl,O2.cast (by simp),Stp.refl _ _ _⟩
 case round =>
  obtain⟨k,hk,rfl,Or_,Gr⟩:=hrel
  obtain⟨r0,r1,r2,rfl⟩:=Or_.shape
  have B0:=B0.go Gr
  clear K0 K0l
  have K0:=B0.1.cell;have K0l:=B0.1.lt
  have Gs:=G;have G:Stp [] wr wr (Be [.slice r0 r1 r2]) (Be [.slice r0 r1 r2]):=Stp.refl _ _ _
  by_cases hlt:k<d.Wait.length
  .
   obtain⟨x,b1,q1,sa,sn,sc,hd,rfl,hb1,c0,c1,hin⟩:=HB.out k hlt
   have d0:=Or_.1.cell c0;have d1:=Or_.1.cell c1
   obtain⟨sa,sc,e,-,hsm,-⟩:=hin.one;cases e;unfold maxLen at hsm
   have hfm:=Jm wrN hd;have HD:=Lib.hid hd;clear hd
   simp only[wrN,Bu,Cx] at hfm
   go_upto_region 6 with(fail)
   have e1:=Or_.1;have k1:=B0.1
   refine wp_region_held_drew (S:=fun w'=>Ext a w'/\Blk w' w.heap.size 70 #[.slice a0 n0 k0,.slice (some ⟨b1,q1,none⟩) d.Wait.length cB]) (by kernel_rfl) (by(try dsimp only);exact⟨by exact Aa,by exact Bv⟩) (fun hHeld=>?_)
   refine wt 0 ?_
   (try simp only[Ab,Act.put])
   refine wt 1 ?_
   (try simp only[Ab,Act.put])
   refine wtq 2 (fun _ h=>h.2.cell) ?_
   (try simp only[Ab,Act.put])
   refine wt 3 ?_
   (try simp only[Ab,Act.put])
   refine wt 4 ?_
   (try simp only[Ab,Act.put])
   refine wt 5 ?_
   (try simp only[Ab,Act.put])
   refine wpAnyH_take (i:=6) (v:=?_) rfl (by kernel_rfl) (by kernel_rfl) (by kernel_rfl) (fun _ _ _ h=>h) (Or.inl ⟨by rfl,?_⟩) (by assumption) ?_
   rotate_left
   focus(intro w hSw;(try dsimp only at hSw);have hq:=hSw.1.cell c0;go_simp <;> with_reducible rfl)
   (try simp only[Ab,Act.put])
   refine wt 7 ?_
   (try simp only[Ab,Act.put])
   refine wtq 8 (fun _ h=>h.2.cell) ?_
   (try simp only[Ab,Act.put])
   refine wt 9 ?_
   (try simp only[Ab,Act.put])
   refine wt 10 ?_
   (try simp only[Ab,Act.put])
   refine wt 11 ?_
   (try simp only[Ab,Act.put])
   refine wpAnyH_take (i:=12) (v:=?_) rfl (by kernel_rfl) (by kernel_rfl) (by kernel_rfl) (fun _ _ _ h=>h) (Or.inl ⟨by rfl,?_⟩) (by assumption) ?_
   rotate_left
   focus(intro w hSw;(try dsimp only at hSw);have hq:=hSw.1.cell c1;go_simp <;> with_reducible rfl)
   (try simp only[Ab,Act.put])
   refine wt 13 ?_
   (try simp only[Ab,Act.put])
   refine wr1 14 fun Kz hKz=>?_
   (try simp only[Ab])
   go_simp
   refine hKz.out _ _ (by(try dsimp only);exact⟨by exact Aa,by exact Bv⟩) (fun hHeld=>?_)
   clear hKz Kz
   (try simp only[Ab,Act.put])
   refine wr1 15 fun Kz hKz=>?_
   (try simp only[Ab])
   rw[if_pos (by rfl)]
   refine Gv (.tmp 23) (.tmp 37) 62 (by rfl) 2 i0 _ Tryz.underlying62 hi hz0 hz1 hz2 rfl a.heap.size _ _ (by rfl) (Ou.ext Or_ Aa).2 _ [x.At,(x.Row.length:Int)] (by rfl) (Aj.ext (w:=wr.alloc (.cells #[.int .i64 (x.At),.int .i64 ((x.Row.length:Int))] 2)) (Ib _ 2 [x.At,(x.Row.length:Int)] (by simp) _ rfl) Aa) (by(try simp only[Hr,Bu,Cx]);omega) (Ou.ext Or_ Aa).1.size ?_
   intro v4 w4 o g
   have O4:=Ou.go (Or_.ext Aa) o g
   have g:=Stp.pre (a:=wr) Aa g
   have G:=G.trans g
   have B0:=B0.go g
   clear o g
   have e9:=O4.1;have k9:=B0.1
   refine hKz.out _ _ (by(try dsimp only);exact⟨by exact Aa,by exact Bv⟩) (fun hHeld=>?_)
   clear hKz Kz
   (try simp only[Ab,Act.put])
   refine wt 16 ?_
   (try simp only[Ab,Act.put])
   refine wpAnyH_done (by kernel_rfl) ?_ _
   clear e1 e9 k1 k9
   clear K0 K0l
   have K0:=B0.1.cell;have K0l:=B0.1.lt
   have d2:=O4.1.cell c1
   go_wp2_with (first|(at_builtin;refine Ci rfl (.tmp 39) (.tmp 45) 62 rfl 2 i0 _ Tryz.underlying62 hi hz0 hz1 hz2 rfl a.heap.size _ _ rfl (Ou.ext O4 Aa).2 _ (x.Row) rfl (Aj.ext hin (O4.1.trans Aa)) (by(try simp only[Hr,Bu,Cx]);omega) (Ou.ext O4 Aa).1.size ?_;rotate_right;intro v5 w5 o g;have O5:=Ou.go (O4.ext Aa) o g;have g:=Stp.pre (a:=w4) Aa g;have G:=G.trans g;have B0:=B0.go g;clear o g;clear K0 K0l;have K0:=B0.1.cell;have K0l:=B0.1.lt))
   go_roundw
   case rel=>exact⟨k+1,by omega,by go_num,O5.cast (by rw[Hf _ HD.out];simp only[wrN,Bu,List.append_assoc,List.cons_append,List.nil_append,List.append_nil]),Gr.trans G⟩
   case measure=>simp[intOf];omega
  obtain rfl:k=d.Wait.length:=by omega
  rw[List.take_length] at Or_
  clear hk hlt
  obtain⟨w3,hV⟩:∃V,V=wr:=⟨_,rfl⟩
  subst hV
  have O3:=Or_;clear Or_
  have G:=Gs.trans Gr;clear Gr Gs
  go_wp2_with fail
  go_ret
  exact⟨_,rfl,O3.cast (by simp only[Hr,Bu,List.append_assoc,List.cons_append,List.nil_append,List.append_nil]),Stp.pre E0 G⟩
theorem rN{w:World}{u:Value}{d:Lu}(h:Rq w u d)(hl:(Qo d).length<=1000000000):Calls Tryz.prog 117 #[u] w (Ret w fun r w'=>Af w.heap.size 2 1 w' r (Qo d)):=by
 obtain⟨t0,t1,rfl,h0,h1⟩:=h
 obtain⟨sA,cA,rfl,kA,mA,hA⟩:=Ck.letters (show Ck 2 w t0 (Ji d.Flight) from h0)
 have HA:=Lib.hid hA;clear hA;unfold maxLen at mA
 obtain⟨sB,cB,rfl,kB,mB,hB⟩:=Aj.recs (f:=Gf.ints) (fun _=>rfl) dC (show Aj 2 w _ (d.Cuts.flatMap Gf.ints) from h1)
 have HB:=Lib.hid hB;clear hB;unfold maxLen at mB
 obtain⟨i0,hi,hz0,hz1,hz2⟩:=info_parts Ec
 simp only[Qo,Bu,Cx] at hl
 show Calls _ _ #[.agg #[.slice sA d.Flight.length cA,.slice sB d.Cuts.length cB]] _ _
 obtain⟨W0,hW0⟩:∃W0,W0=w.alloc (.cells #[.slice sA d.Flight.length cA,.slice sB d.Cuts.length cB] 104):=⟨_,rfl⟩
 have E0:Ext w W0:=by rw[hW0];exact(Ext.refl _).alloc _
 have B0:Blk W0 w.heap.size 104 #[.slice sA d.Flight.length cA,.slice sB d.Cuts.length cB]:=by rw[hW0];exact Blk.new _ _ _
 have z0:w.heap.size<=W0.heap.size:=E0.size
 go_enter Tryz.func117,Tryz.ntmps117
 go_upto_region 1 with(fail)
 rw[<-hW0];clear hW0
 have K0:=B0.cell;have K0l:=B0.lt
 have O:Ou W0 (W0.alloc (.cells #[.int .i64 (d.Flight.length:Int)] 2)) (.slice (some ⟨W0.heap.size,0,none⟩) 1 1) [(d.Flight.length:Int)]:=⟨by exact Aa,Af.lit W0 2 [(d.Flight.length:Int)] (by simp)⟩
 go_wp2_with fail
 go_loopw [3,4] (fun t i wr=>∃k:Nat,k<=d.Flight.length/\i=.int .i64 k/\Ou W0 wr t ([(d.Flight.length:Int)]++(d.Flight.take k).flatMap Xt)) (fun _ i _=>d.Flight.length - (intOf i).toNat)
 case atStart=>exact⟨0,Nat.zero_le _,rfl,O.cast (by simp)⟩
 case round =>
  obtain⟨k,hk,rfl,Or_⟩:=hrel
  obtain⟨r0,r1,r2,rfl⟩:=Or_.shape
  clear K0 K0l
  have K0:=(B0.ext Or_.1).cell;have K0l:=(B0.ext Or_.1).lt
  by_cases hlt:k<d.Flight.length
  .
   obtain⟨x,b1,q1,sa,sn,sc,hd,rfl,hb1,c0,c1,c2,hin⟩:=HA.out k hlt
   have c0:=E0.cell c0;have d0:=Or_.1.cell c0
   have c1:=E0.cell c1;have d1:=Or_.1.cell c1
   have c2:=E0.cell c2;have d2:=Or_.1.cell c2
   have hin:=Aj.ext hin E0;obtain⟨sa,sc,e,-,hsm,-⟩:=hin.one;cases e;unfold maxLen at hsm
   have hfm:=Jm Xt hd;have HD:=Lib.hid hd;clear hd
   simp only[Xt,Bu,Cx] at hfm
   go_upto_region 5 with(fail)
   have e1:=Or_.1;have k1:=(B0.ext Or_.1)
   refine wp_region_held_drew (S:=fun w'=>Ext W0 w'/\Blk w' w.heap.size 104 #[.slice (some ⟨b1,q1,none⟩) d.Flight.length cA,.slice sB d.Cuts.length cB]) (by kernel_rfl) (by(try dsimp only);exact⟨by exact Aa,by exact Bv⟩) (fun hHeld=>?_)
   refine wt 0 ?_
   (try simp only[Ab,Act.put])
   refine wt 1 ?_
   (try simp only[Ab,Act.put])
   refine wtq 2 (fun _ h=>h.2.cell) ?_
   (try simp only[Ab,Act.put])
   refine wt 3 ?_
   (try simp only[Ab,Act.put])
   refine wt 4 ?_
   (try simp only[Ab,Act.put])
   refine wt 5 ?_
   (try simp only[Ab,Act.put])
   refine wpAnyH_take (i:=6) (v:=?_) rfl (by kernel_rfl) (by kernel_rfl) (by kernel_rfl) (fun _ _ _ h=>h) (Or.inl ⟨by rfl,?_⟩) (by assumption) ?_
   rotate_left
   focus(intro w hSw;(try dsimp only at hSw);have hq:=hSw.1.cell c0;go_simp <;> with_reducible rfl)
   (try simp only[Ab,Act.put])
   refine wt 7 ?_
   (try simp only[Ab,Act.put])
   refine wtq 8 (fun _ h=>h.2.cell) ?_
   (try simp only[Ab,Act.put])
   refine wt 9 ?_
   (try simp only[Ab,Act.put])
   refine wt 10 ?_
   (try simp only[Ab,Act.put])
   refine wt 11 ?_
   (try simp only[Ab,Act.put])
   refine wpAnyH_take (i:=12) (v:=?_) rfl (by kernel_rfl) (by kernel_rfl) (by kernel_rfl) (fun _ _ _ h=>h) (Or.inl ⟨by rfl,?_⟩) (by assumption) ?_
   rotate_left
   focus(intro w hSw;(try dsimp only at hSw);have hq:=hSw.1.cell c1;go_simp <;> with_reducible rfl)
   (try simp only[Ab,Act.put])
   refine wt 13 ?_
   (try simp only[Ab,Act.put])
   refine wtq 14 (fun _ h=>h.2.cell) ?_
   (try simp only[Ab,Act.put])
   refine wt 15 ?_
   (try simp only[Ab,Act.put])
   refine wt 16 ?_
   (try simp only[Ab,Act.put])
   refine wt 17 ?_
   (try simp only[Ab,Act.put])
   refine wpAnyH_take (i:=18) (v:=?_) rfl (by kernel_rfl) (by kernel_rfl) (by kernel_rfl) (fun _ _ _ h=>h) (Or.inl ⟨by rfl,?_⟩) (by assumption) ?_
   rotate_left
   focus(intro w hSw;(try dsimp only at hSw);have hq:=hSw.1.cell c2;go_simp <;> with_reducible rfl)
   (try simp only[Ab,Act.put])
   refine wt 19 ?_
   (try simp only[Ab,Act.put])
   refine wr1 20 fun Kz hKz=>?_
   (try simp only[Ab])
   go_simp
   refine hKz.out _ _ (by(try dsimp only);exact⟨by exact Aa,by exact Bv⟩) (fun hHeld=>?_)
   clear hKz Kz
   (try simp only[Ab,Act.put])
   refine wr1 21 fun Kz hKz=>?_
   (try simp only[Ab])
   rw[if_pos (by rfl)]
   refine Gv (.tmp 17) (.tmp 37) 62 (by rfl) 2 i0 _ Tryz.underlying62 hi hz0 hz1 hz2 rfl W0.heap.size _ _ (by rfl) (Ou.ext Or_ Aa).2 _ [x.From,x.To,(x.Row.length:Int)] (by rfl) (Aj.ext (w:=wr.alloc (.cells #[.int .i64 (x.From),.int .i64 (x.To),.int .i64 ((x.Row.length:Int))] 2)) (Ib _ 2 [x.From,x.To,(x.Row.length:Int)] (by simp) _ rfl) Aa) (by(try simp only[Qo,Bu,Cx]);omega) (Ou.ext Or_ Aa).1.size ?_
   intro v2 w2 o g
   have O2:=Ou.go (Or_.ext Aa) o g
   clear o g
   have e9:=O2.1;have k9:=(B0.ext O2.1)
   refine hKz.out _ _ (by(try dsimp only);exact⟨by exact Aa,by exact Bv⟩) (fun hHeld=>?_)
   clear hKz Kz
   (try simp only[Ab,Act.put])
   refine wt 22 ?_
   (try simp only[Ab,Act.put])
   refine wpAnyH_done (by kernel_rfl) ?_ _
   clear e1 e9 k1 k9
   clear K0 K0l
   have K0:=(B0.ext O2.1).cell;have K0l:=(B0.ext O2.1).lt
   have d3:=O2.1.cell c2
   go_wp2_with (first|(at_builtin;refine Ci rfl (.tmp 39) (.tmp 45) 62 rfl 2 i0 _ Tryz.underlying62 hi hz0 hz1 hz2 rfl W0.heap.size _ _ rfl (Ou.ext O2 Aa).2 _ (x.Row) rfl (Aj.ext hin (O2.1.trans Aa)) (by(try simp only[Qo,Bu,Cx]);omega) (Ou.ext O2 Aa).1.size ?_;rotate_right;intro v3 w3 o g;have O3:=Ou.go (O2.ext Aa) o g;clear o g;clear K0 K0l;have K0:=(B0.ext O3.1).cell;have K0l:=(B0.ext O3.1).lt))
   go_roundw
   case rel=>exact⟨k+1,by omega,by go_num,O3.cast (by rw[Hf _ HD.out];simp only[Xt,Bu,List.append_assoc,List.cons_append,List.nil_append,List.append_nil])⟩
   case measure=>simp[intOf];omega
  obtain rfl:k=d.Flight.length:=by omega
  rw[List.take_length] at Or_
  clear hk hlt
  obtain⟨w1,hV⟩:∃V,V=wr:=⟨_,rfl⟩
  subst hV
  have O1:=Or_;clear Or_
  go_wp2_with (first|(at_builtin;refine Ci rfl (.tmp 47) (.tmp 51) 62 rfl 2 i0 _ Tryz.underlying62 hi hz0 hz1 hz2 rfl W0.heap.size _ _ rfl (Ou.ext O1 Aa).2 _ [(d.Cuts.length:Int)] rfl (Ib _ 2 [(d.Cuts.length:Int)] (by simp) _ rfl) (by(try simp only[Qo,Bu,Cx]);omega) (Ou.ext O1 Aa).1.size ?_;rotate_right;intro v4 w4 o g;have O4:=Ou.go (O1.ext Aa) o g;clear o g;clear K0 K0l;have K0:=(B0.ext O4.1).cell;have K0l:=(B0.ext O4.1).lt))
  go_loopw [3,5] (fun t i wr=>∃k:Nat,k<=d.Cuts.length/\i=.int .i64 k/\Ou W0 wr t ((([(d.Flight.length:Int)]++d.Flight.flatMap Xt)++[(d.Cuts.length:Int)])++(d.Cuts.take k).flatMap Gf.ints)) (fun _ i _=>d.Cuts.length - (intOf i).toNat)
  case atStart=>exact⟨0,Nat.zero_le _,rfl,O4.cast (by simp)⟩
  case round =>
   obtain⟨k,hk,rfl,Or_⟩:=hrel
   obtain⟨r0,r1,r2,rfl⟩:=Or_.shape
   clear K0 K0l
   have K0:=(B0.ext Or_.1).cell;have K0l:=(B0.ext Or_.1).lt
   by_cases hlt:k<d.Cuts.length
   .
    obtain⟨d9,bb1,q1,hd,rfl,hb1,c⟩:=HB.out k hlt
    have c0:=E0.cell (c 0 _ dC rfl);have d0:=Or_.1.cell c0
    have c1:=E0.cell (c 1 _ dC rfl);have d1:=Or_.1.cell c1
    (try simp only[Nat.add_zero] at c0 d0)
    clear c
    have hfm:=Jm Gf.ints hd;have HD:=Lib.hid hd;clear hd
    simp only[Gf.ints,Cx] at hfm
    go_upto_region 11 with(fail)
    have e1:=Or_.1;have k1:=(B0.ext Or_.1)
    refine wp_region_held_drew (S:=fun w'=>Ext W0 w'/\Blk w' w.heap.size 104 #[.slice sA d.Flight.length cA,.slice (some ⟨bb1,q1,none⟩) d.Cuts.length cB]) (by kernel_rfl) (by(try dsimp only);exact⟨by exact Aa,by exact Bv⟩) (fun hHeld=>?_)
    refine wt 0 ?_
    (try simp only[Ab,Act.put])
    refine wt 1 ?_
    (try simp only[Ab,Act.put])
    refine wtq 2 (fun _ h=>h.2.cell) ?_
    (try simp only[Ab,Act.put])
    refine wt 3 ?_
    (try simp only[Ab,Act.put])
    refine wt 4 ?_
    (try simp only[Ab,Act.put])
    refine wt 5 ?_
    (try simp only[Ab,Act.put])
    refine wpAnyH_take (i:=6) (v:=?_) rfl (by kernel_rfl) (by kernel_rfl) (by kernel_rfl) (fun _ _ _ h=>h) (Or.inl ⟨by rfl,?_⟩) (by assumption) ?_
    rotate_left
    focus(intro w hSw;(try dsimp only at hSw);have hq:=hSw.1.cell c0;go_simp <;> with_reducible rfl)
    (try simp only[Ab,Act.put])
    refine wt 7 ?_
    (try simp only[Ab,Act.put])
    refine wtq 8 (fun _ h=>h.2.cell) ?_
    (try simp only[Ab,Act.put])
    refine wt 9 ?_
    (try simp only[Ab,Act.put])
    refine wt 10 ?_
    (try simp only[Ab,Act.put])
    refine wt 11 ?_
    (try simp only[Ab,Act.put])
    refine wpAnyH_take (i:=12) (v:=?_) rfl (by kernel_rfl) (by kernel_rfl) (by kernel_rfl) (fun _ _ _ h=>h) (Or.inl ⟨by rfl,?_⟩) (by assumption) ?_
    rotate_left
    focus(intro w hSw;(try dsimp only at hSw);have hq:=hSw.1.cell c1;go_simp <;> with_reducible rfl)
    (try simp only[Ab,Act.put])
    refine wr1 13 fun Kz hKz=>?_
    (try simp only[Ab])
    go_simp
    refine hKz.out _ _ (by(try dsimp only);exact⟨by exact Aa,by exact Bv⟩) (fun hHeld=>?_)
    clear hKz Kz
    (try simp only[Ab,Act.put])
    refine wr1 14 fun Kz hKz=>?_
    (try simp only[Ab])
    rw[if_pos (by rfl)]
    refine Gv (.tmp 60) (.tmp 73) 62 (by rfl) 2 i0 _ Tryz.underlying62 hi hz0 hz1 hz2 rfl W0.heap.size _ _ (by rfl) (Ou.ext Or_ Aa).2 _ [d9.A,d9.B] (by rfl) (Aj.ext (w:=wr.alloc (.cells #[.int .i64 (d9.A),.int .i64 (d9.B)] 2)) (Ib _ 2 [d9.A,d9.B] (by simp) _ rfl) Aa) (by(try simp only[Qo,Bu,Cx]);omega) (Ou.ext Or_ Aa).1.size ?_
    intro v6 w6 o g
    have O6:=Ou.go (Or_.ext Aa) o g
    clear o g
    have e9:=O6.1;have k9:=(B0.ext O6.1)
    refine hKz.out _ _ (by(try dsimp only);exact⟨by exact Aa,by exact Bv⟩) (fun hHeld=>?_)
    clear hKz Kz
    (try simp only[Ab,Act.put])
    refine wt 15 ?_
    (try simp only[Ab,Act.put])
    refine wpAnyH_done (by kernel_rfl) ?_ _
    clear e1 e9 k1 k9
    clear K0 K0l
    have K0:=(B0.ext O6.1).cell;have K0l:=(B0.ext O6.1).lt
    go_wp2_with fail
    go_roundw
    case rel=>exact⟨k+1,by omega,by go_num,O6.cast (by rw[Hf _ HD.out];simp only[Gf.ints,List.append_assoc,List.cons_append,List.nil_append,List.append_nil])⟩
    case measure=>simp[intOf];omega
   obtain rfl:k=d.Cuts.length:=by omega
   rw[List.take_length] at Or_
   clear hk hlt
   obtain⟨w5,hV⟩:∃V,V=wr:=⟨_,rfl⟩
   subst hV
   have O5:=Or_;clear Or_
   go_wp2_with fail
   go_ret
   exact⟨_,rfl,by exact Ext.trans E0 O5.1,Af.mono (O5.cast (by simp only[Qo,Bu,List.append_assoc,List.cons_append,List.nil_append,List.append_nil])).2 E0.size⟩
theorem Yq{w:World}{u:Value}{d:El}(h:Gk w u d)(hl:(Fa d).length<=1000000000):Calls Tryz.prog 116 #[u] w (Ret w fun r w'=>Af w.heap.size 2 1 w' r (Fa d)):=by
 obtain⟨t1,t2,rfl,h1,h2⟩:=h
 obtain⟨sA,cA,rfl,kA,mA,hA⟩:=Aj.recs (f:=Da.ints) (fun _=>rfl) dC (show Aj 7 w _ (d.Todo.flatMap Da.ints) from h1)
 have HA:=Lib.hid hA;clear hA;unfold maxLen at mA
 obtain⟨sB,cB,rfl,kB,mB,hB⟩:=Aj.recs (f:=Jd.ints) (fun _=>rfl) dC (show Aj 4 w _ (d.Gots.flatMap Jd.ints) from h2)
 have HB:=Lib.hid hB;clear hB;unfold maxLen at mB
 obtain⟨i0,hi,hz0,hz1,hz2⟩:=info_parts Ec
 simp only[Fa,Cx] at hl
 show Calls _ _ #[.agg #[.int .i64 d.Id,.slice sA d.Todo.length cA,.slice sB d.Gots.length cB,.int .i64 d.Last]] _ _
 obtain⟨W0,hW0⟩:∃W0,W0=w.alloc (.cells #[.int .i64 d.Id,.slice sA d.Todo.length cA,.slice sB d.Gots.length cB,.int .i64 d.Last] 100):=⟨_,rfl⟩
 have E0:Ext w W0:=by rw[hW0];exact(Ext.refl _).alloc _
 have B0:Blk W0 w.heap.size 100 #[.int .i64 d.Id,.slice sA d.Todo.length cA,.slice sB d.Gots.length cB,.int .i64 d.Last]:=by rw[hW0];exact Blk.new _ _ _
 have z0:w.heap.size<=W0.heap.size:=E0.size
 go_enter Tryz.func116,Tryz.ntmps116
 go_upto_region 1 with(fail)
 rw[<-hW0];clear hW0
 have K0:=B0.cell;have K0l:=B0.lt
 have O:Ou W0 (W0.alloc (.cells #[.int .i64 d.Id,.int .i64 (d.Todo.length:Int)] 2)) (.slice (some ⟨W0.heap.size,0,none⟩) 2 2) [d.Id,(d.Todo.length:Int)]:=⟨by exact Aa,Af.lit W0 2 [d.Id,(d.Todo.length:Int)] (by simp)⟩
 go_wp2_with fail
 go_loopw [3,4] (fun t i wr=>∃k:Nat,k<=d.Todo.length/\i=.int .i64 k/\Ou W0 wr t ([d.Id,(d.Todo.length:Int)]++(d.Todo.take k).flatMap Da.ints)) (fun _ i _=>d.Todo.length - (intOf i).toNat)
 case atStart=>exact⟨0,Nat.zero_le _,rfl,O.cast (by simp)⟩
 case round =>
  obtain⟨k,hk,rfl,Or_⟩:=hrel
  obtain⟨r0,r1,r2,rfl⟩:=Or_.shape
  clear K0 K0l
  have K0:=(B0.ext Or_.1).cell;have K0l:=(B0.ext Or_.1).lt
  by_cases hlt:k<d.Todo.length
  .
   obtain⟨d9,bb1,q1,hd,rfl,hb1,c⟩:=HA.out k hlt
   have c0:=E0.cell (c 0 _ dC rfl);have d0:=Or_.1.cell c0
   have c1:=E0.cell (c 1 _ dC rfl);have d1:=Or_.1.cell c1
   have c2:=E0.cell (c 2 _ dC rfl);have d2:=Or_.1.cell c2
   have c3:=E0.cell (c 3 _ dC rfl);have d3:=Or_.1.cell c3
   have c4:=E0.cell (c 4 _ dC rfl);have d4:=Or_.1.cell c4
   have c5:=E0.cell (c 5 _ dC rfl);have d5:=Or_.1.cell c5
   have c6:=E0.cell (c 6 _ dC rfl);have d6:=Or_.1.cell c6
   (try simp only[Nat.add_zero] at c0 d0)
   clear c
   have hfm:=Jm Da.ints hd;have HD:=Lib.hid hd;clear hd
   simp only[Da.ints,Cx] at hfm
   go_wp2_with (first|(at_builtin;refine Ci rfl (.tmp 19) (.tmp 26) 62 rfl 2 i0 _ Tryz.underlying62 hi hz0 hz1 hz2 rfl W0.heap.size _ _ rfl (Ou.ext Or_ Aa).2 _ [d9.Kind] rfl (Ib _ 2 [d9.Kind] (by simp) _ rfl) (by(try simp only[Fa,Cx]);omega) (Ou.ext Or_ Aa).1.size ?_;rotate_right;intro v2 w2 o g;have O2:=Ou.go (Or_.ext Aa) o g;clear o g;clear K0 K0l;have K0:=(B0.ext O2.1).cell;have K0l:=(B0.ext O2.1).lt;have d0:=O2.1.cell c0;have d1:=O2.1.cell c1;have d2:=O2.1.cell c2;have d3:=O2.1.cell c3;have d4:=O2.1.cell c4;have d5:=O2.1.cell c5;have d6:=O2.1.cell c6))
   refine(nA (x0:=d9.Op.Kind) (x1:=d9.Op.A) (x2:=d9.Op.B) (x3:=d9.Op.C) (x4:=d9.Op.D) (O2.ext Aa) rfl (by(try simp only[Fa,Cx]);omega)).mono ?_
   rintro e w3⟨v3,rfl,O3,g⟩
   clear g
   clear K0 K0l
   have K0:=(B0.ext O3.1).cell;have K0l:=(B0.ext O3.1).lt
   have d6:=O3.1.cell c6
   go_wp2_with (first|(at_builtin;refine Ci rfl (.tmp 36) (.tmp 43) 62 rfl 2 i0 _ Tryz.underlying62 hi hz0 hz1 hz2 rfl W0.heap.size _ _ rfl (Ou.ext O3 Aa).2 _ [d9.Key] rfl (Ib _ 2 [d9.Key] (by simp) _ rfl) (by(try simp only[Fa,Cx]);omega) (Ou.ext O3 Aa).1.size ?_;rotate_right;intro v4 w4 o g;have O4:=Ou.go (O3.ext Aa) o g;clear o g;clear K0 K0l;have K0:=(B0.ext O4.1).cell;have K0l:=(B0.ext O4.1).lt))
   go_roundw
   case rel=>exact⟨k+1,by omega,by go_num,O4.cast (by rw[Hf _ HD.out];simp only[Da.ints,List.append_assoc,List.cons_append,List.nil_append,List.append_nil])⟩
   case measure=>simp[intOf];omega
  obtain rfl:k=d.Todo.length:=by omega
  rw[List.take_length] at Or_
  clear hk hlt
  obtain⟨w1,hV⟩:∃V,V=wr:=⟨_,rfl⟩
  subst hV
  have O1:=Or_;clear Or_
  go_wp2_with (first|(at_builtin;refine Ci rfl (.tmp 45) (.tmp 49) 62 rfl 2 i0 _ Tryz.underlying62 hi hz0 hz1 hz2 rfl W0.heap.size _ _ rfl (Ou.ext O1 Aa).2 _ [(d.Gots.length:Int)] rfl (Ib _ 2 [(d.Gots.length:Int)] (by simp) _ rfl) (by(try simp only[Fa,Cx]);omega) (Ou.ext O1 Aa).1.size ?_;rotate_right;intro v5 w5 o g;have O5:=Ou.go (O1.ext Aa) o g;clear o g;clear K0 K0l;have K0:=(B0.ext O5.1).cell;have K0l:=(B0.ext O5.1).lt))
  go_loopw [3,5] (fun t i wr=>∃k:Nat,k<=d.Gots.length/\i=.int .i64 k/\Ou W0 wr t ((([d.Id,(d.Todo.length:Int)]++d.Todo.flatMap Da.ints)++[(d.Gots.length:Int)])++(d.Gots.take k).flatMap Jd.ints)) (fun _ i _=>d.Gots.length - (intOf i).toNat)
  case atStart=>exact⟨0,Nat.zero_le _,rfl,O5.cast (by simp)⟩
  case round =>
   obtain⟨k,hk,rfl,Or_⟩:=hrel
   obtain⟨r0,r1,r2,rfl⟩:=Or_.shape
   clear K0 K0l
   have K0:=(B0.ext Or_.1).cell;have K0l:=(B0.ext Or_.1).lt
   by_cases hlt:k<d.Gots.length
   .
    obtain⟨d9,bb1,q1,hd,rfl,hb1,c⟩:=HB.out k hlt
    have c0:=E0.cell (c 0 _ dC rfl);have d0:=Or_.1.cell c0
    have c1:=E0.cell (c 1 _ dC rfl);have d1:=Or_.1.cell c1
    have c2:=E0.cell (c 2 _ dC rfl);have d2:=Or_.1.cell c2
    have c3:=E0.cell (c 3 _ dC rfl);have d3:=Or_.1.cell c3
    (try simp only[Nat.add_zero] at c0 d0)
    clear c
    have hfm:=Jm Jd.ints hd;have HD:=Lib.hid hd;clear hd
    simp only[Jd.ints,Cx] at hfm
    go_upto_region 12 with(fail)
    have e1:=Or_.1;have k1:=(B0.ext Or_.1)
    refine wp_region_held_drew (S:=fun w'=>Ext W0 w'/\Blk w' w.heap.size 100 #[.int .i64 d.Id,.slice sA d.Todo.length cA,.slice (some ⟨bb1,q1,none⟩) d.Gots.length cB,.int .i64 d.Last]) (by kernel_rfl) (by(try dsimp only);exact⟨by exact Aa,by exact Bv⟩) (fun hHeld=>?_)
    refine wt 0 ?_
    (try simp only[Ab,Act.put])
    refine wt 1 ?_
    (try simp only[Ab,Act.put])
    refine wtq 2 (fun _ h=>h.2.cell) ?_
    (try simp only[Ab,Act.put])
    refine wt 3 ?_
    (try simp only[Ab,Act.put])
    refine wt 4 ?_
    (try simp only[Ab,Act.put])
    refine wt 5 ?_
    (try simp only[Ab,Act.put])
    refine wpAnyH_take (i:=6) (v:=?_) rfl (by kernel_rfl) (by kernel_rfl) (by kernel_rfl) (fun _ _ _ h=>h) (Or.inl ⟨by rfl,?_⟩) (by assumption) ?_
    rotate_left
    focus(intro w hSw;(try dsimp only at hSw);have hq:=hSw.1.cell c0;go_simp <;> with_reducible rfl)
    (try simp only[Ab,Act.put])
    refine wt 7 ?_
    (try simp only[Ab,Act.put])
    refine wtq 8 (fun _ h=>h.2.cell) ?_
    (try simp only[Ab,Act.put])
    refine wt 9 ?_
    (try simp only[Ab,Act.put])
    refine wt 10 ?_
    (try simp only[Ab,Act.put])
    refine wt 11 ?_
    (try simp only[Ab,Act.put])
    refine wpAnyH_take (i:=12) (v:=?_) rfl (by kernel_rfl) (by kernel_rfl) (by kernel_rfl) (fun _ _ _ h=>h) (Or.inl ⟨by rfl,?_⟩) (by assumption) ?_
    rotate_left
    focus(intro w hSw;(try dsimp only at hSw);have hq:=hSw.1.cell c1;go_simp <;> with_reducible rfl)
    (try simp only[Ab,Act.put])
    refine wt 13 ?_
    (try simp only[Ab,Act.put])
    refine wtq 14 (fun _ h=>h.2.cell) ?_
    (try simp only[Ab,Act.put])
    refine wt 15 ?_
    (try simp only[Ab,Act.put])
    refine wt 16 ?_
    (try simp only[Ab,Act.put])
    refine wt 17 ?_
    (try simp only[Ab,Act.put])
    refine wpAnyH_take (i:=18) (v:=?_) rfl (by kernel_rfl) (by kernel_rfl) (by kernel_rfl) (fun _ _ _ h=>h) (Or.inl ⟨by rfl,?_⟩) (by assumption) ?_
    rotate_left
    focus(intro w hSw;(try dsimp only at hSw);have hq:=hSw.1.cell c2;go_simp <;> with_reducible rfl)
    (try simp only[Ab,Act.put])
    refine wt 19 ?_
    (try simp only[Ab,Act.put])
    refine wtq 20 (fun _ h=>h.2.cell) ?_
    (try simp only[Ab,Act.put])
    refine wt 21 ?_
    (try simp only[Ab,Act.put])
    refine wt 22 ?_
    (try simp only[Ab,Act.put])
    refine wt 23 ?_
    (try simp only[Ab,Act.put])
    refine wpAnyH_take (i:=24) (v:=?_) rfl (by kernel_rfl) (by kernel_rfl) (by kernel_rfl) (fun _ _ _ h=>h) (Or.inl ⟨by rfl,?_⟩) (by assumption) ?_
    rotate_left
    focus(intro w hSw;(try dsimp only at hSw);have hq:=hSw.1.cell c3;go_simp <;> with_reducible rfl)
    (try simp only[Ab,Act.put])
    refine wr1 25 fun Kz hKz=>?_
    (try simp only[Ab])
    go_simp
    refine hKz.out _ _ (by(try dsimp only);exact⟨by exact Aa,by exact Bv⟩) (fun hHeld=>?_)
    clear hKz Kz
    (try simp only[Ab,Act.put])
    refine wr1 26 fun Kz hKz=>?_
    (try simp only[Ab])
    rw[if_pos (by rfl)]
    refine Gv (.tmp 58) (.tmp 83) 62 (by rfl) 2 i0 _ Tryz.underlying62 hi hz0 hz1 hz2 rfl W0.heap.size _ _ (by rfl) (Ou.ext Or_ Aa).2 _ [d9.Seq,d9.Index,d9.Has,d9.Value] (by rfl) (Aj.ext (w:=wr.alloc (.cells #[.int .i64 (d9.Seq),.int .i64 (d9.Index),.int .i64 (d9.Has),.int .i64 (d9.Value)] 2)) (Ib _ 2 [d9.Seq,d9.Index,d9.Has,d9.Value] (by simp) _ rfl) Aa) (by(try simp only[Fa,Cx]);omega) (Ou.ext Or_ Aa).1.size ?_
    intro v7 w7 o g
    have O7:=Ou.go (Or_.ext Aa) o g
    clear o g
    have e9:=O7.1;have k9:=(B0.ext O7.1)
    refine hKz.out _ _ (by(try dsimp only);exact⟨by exact Aa,by exact Bv⟩) (fun hHeld=>?_)
    clear hKz Kz
    (try simp only[Ab,Act.put])
    refine wt 27 ?_
    (try simp only[Ab,Act.put])
    refine wpAnyH_done (by kernel_rfl) ?_ _
    clear e1 e9 k1 k9
    clear K0 K0l
    have K0:=(B0.ext O7.1).cell;have K0l:=(B0.ext O7.1).lt
    go_wp2_with fail
    go_roundw
    case rel=>exact⟨k+1,by omega,by go_num,O7.cast (by rw[Hf _ HD.out];simp only[Jd.ints,List.append_assoc,List.cons_append,List.nil_append,List.append_nil])⟩
    case measure=>simp[intOf];omega
   obtain rfl:k=d.Gots.length:=by omega
   rw[List.take_length] at Or_
   clear hk hlt
   obtain⟨w6,hV⟩:∃V,V=wr:=⟨_,rfl⟩
   subst hV
   have O6:=Or_;clear Or_
   go_wp2_with (first|(at_builtin;refine Ci rfl (.tmp 85) (.tmp 88) 62 rfl 2 i0 _ Tryz.underlying62 hi hz0 hz1 hz2 rfl W0.heap.size _ _ rfl (Ou.ext O6 Aa).2 _ [d.Last] rfl (Ib _ 2 [d.Last] (by simp) _ rfl) (by(try simp only[Fa,Cx]);omega) (Ou.ext O6 Aa).1.size ?_;rotate_right;intro v8 w8 o g;have O8:=Ou.go (O6.ext Aa) o g;clear o g;clear K0 K0l;have K0:=(B0.ext O8.1).cell;have K0l:=(B0.ext O8.1).lt))
   go_ret
   exact⟨_,rfl,by exact Ext.trans E0 O8.1,Af.mono (O8.cast (by simp only[Fa,List.append_assoc,List.cons_append,List.nil_append,List.append_nil])).2 E0.size⟩
theorem bE{w:World}{u:Value}{d:De}(h:Hz w u d)(hl:(Hk d).length<=1000000000):Calls Tryz.prog 115 #[u] w (Ret w fun r w'=>Af w.heap.size 2 1 w' r (Hk d)):=by
 obtain⟨t7,rfl,h7⟩:=h
 obtain⟨sA,cA,rfl,kA,mA,hA⟩:=Aj.recs (f:=Hu.ints) (fun _=>rfl) dC (show Aj 2 w _ (d.View.Jobs.Open.flatMap Hu.ints) from h7)
 have HA:=Lib.hid hA;clear hA;unfold maxLen at mA
 obtain⟨i0,hi,hz0,hz1,hz2⟩:=info_parts Ec
 simp only[Hk,opN,Cx] at hl
 show Calls _ _ #[.agg #[.int .i64 d.Id,.int .i64 d.Seq,.int .i64 d.View.Jobs.Index,.int .i64 d.View.Jobs.Time,.int .i64 d.View.Jobs.Holder,.int .i64 d.View.Jobs.Epoch,.int .i64 d.View.Jobs.Until,.slice sA d.View.Jobs.Open.length cA,.bool d.Busy,.int .i64 d.Op.Kind,.int .i64 d.Op.A,.int .i64 d.Op.B,.int .i64 d.Op.C,.int .i64 d.Op.D,.int .i64 d.Index]] _ _
 go_enter Tryz.func115,Tryz.ntmps115
 go_upto_region 2 with(fail)
 obtain⟨W0,hW0⟩:∃W0,W0=(w.alloc (.cells #[.int .i64 d.Id,.int .i64 d.Seq,.int .i64 d.View.Jobs.Index,.int .i64 d.View.Jobs.Time,.int .i64 d.View.Jobs.Holder,.int .i64 d.View.Jobs.Epoch,.int .i64 d.View.Jobs.Until,.slice sA d.View.Jobs.Open.length cA,.bool d.Busy,.int .i64 d.Op.Kind,.int .i64 d.Op.A,.int .i64 d.Op.B,.int .i64 d.Op.C,.int .i64 d.Op.D,.int .i64 d.Index] 96)).alloc (.cells #[.int .i64 d.View.Jobs.Index,.int .i64 d.View.Jobs.Time,.int .i64 d.View.Jobs.Holder,.int .i64 d.View.Jobs.Epoch,.int .i64 d.View.Jobs.Until,.slice sA d.View.Jobs.Open.length cA] 91):=⟨_,rfl⟩
 rw[<-hW0]
 have E0:Ext w W0:=by rw[hW0];exact((Ext.refl _).alloc _).alloc _
 have S0:Blk W0 w.heap.size 96 #[.int .i64 d.Id,.int .i64 d.Seq,.int .i64 d.View.Jobs.Index,.int .i64 d.View.Jobs.Time,.int .i64 d.View.Jobs.Holder,.int .i64 d.View.Jobs.Epoch,.int .i64 d.View.Jobs.Until,.slice sA d.View.Jobs.Open.length cA,.bool d.Busy,.int .i64 d.Op.Kind,.int .i64 d.Op.A,.int .i64 d.Op.B,.int .i64 d.Op.C,.int .i64 d.Op.D,.int .i64 d.Index]:=by rw[hW0];exact(Blk.new _ _ _).alloc _
 have B0:Blk W0 (w.heap.size+1) 91 #[.int .i64 d.View.Jobs.Index,.int .i64 d.View.Jobs.Time,.int .i64 d.View.Jobs.Holder,.int .i64 d.View.Jobs.Epoch,.int .i64 d.View.Jobs.Until,.slice sA d.View.Jobs.Open.length cA]:=by rw[hW0];exact Blk.new2 _ _ _ _
 clear hW0;have z0:w.heap.size<=W0.heap.size:=E0.size
 have K0:=B0.cell;have K0l:=B0.lt;have J0:=S0.cell;have J0l:=S0.lt
 have O:Ou W0 (W0.alloc (.cells #[.int .i64 d.Id,.int .i64 d.Seq,.int .i64 d.View.Jobs.Index,.int .i64 d.View.Jobs.Time,.int .i64 d.View.Jobs.Holder,.int .i64 d.View.Jobs.Epoch,.int .i64 d.View.Jobs.Until,.int .i64 (d.View.Jobs.Open.length:Int)] 2)) (.slice (some ⟨W0.heap.size,0,none⟩) 8 8) [d.Id,d.Seq,d.View.Jobs.Index,d.View.Jobs.Time,d.View.Jobs.Holder,d.View.Jobs.Epoch,d.View.Jobs.Until,(d.View.Jobs.Open.length:Int)]:=⟨by exact Aa,Af.lit W0 2 [d.Id,d.Seq,d.View.Jobs.Index,d.View.Jobs.Time,d.View.Jobs.Holder,d.View.Jobs.Epoch,d.View.Jobs.Until,(d.View.Jobs.Open.length:Int)] (by simp)⟩
 go_wp2_with fail
 go_loopw [4,5] (fun t i wr=>∃k:Nat,k<=d.View.Jobs.Open.length/\i=.int .i64 k/\Ou W0 wr t ([d.Id,d.Seq,d.View.Jobs.Index,d.View.Jobs.Time,d.View.Jobs.Holder,d.View.Jobs.Epoch,d.View.Jobs.Until,(d.View.Jobs.Open.length:Int)]++(d.View.Jobs.Open.take k).flatMap Hu.ints)) (fun _ i _=>d.View.Jobs.Open.length - (intOf i).toNat)
 case atStart=>exact⟨0,Nat.zero_le _,rfl,O.cast (by simp)⟩
 case round =>
  obtain⟨k,hk,rfl,Or_⟩:=hrel
  obtain⟨r0,r1,r2,rfl⟩:=Or_.shape
  clear K0 K0l
  have K0:=(B0.ext Or_.1).cell;have K0l:=(B0.ext Or_.1).lt
  by_cases hlt:k<d.View.Jobs.Open.length
  .
   obtain⟨d9,bb1,q1,hd,rfl,hb1,c⟩:=HA.out k hlt
   have c0:=E0.cell (c 0 _ dC rfl);have d0:=Or_.1.cell c0
   have c1:=E0.cell (c 1 _ dC rfl);have d1:=Or_.1.cell c1
   (try simp only[Nat.add_zero] at c0 d0)
   clear c
   have hfm:=Jm Hu.ints hd;have HD:=Lib.hid hd;clear hd
   simp only[Hu.ints,Cx] at hfm
   go_upto_region 6 with(fail)
   have e1:=Or_.1;have k1:=(B0.ext Or_.1)
   refine wp_region_held_drew (S:=fun w'=>Ext W0 w'/\Blk w' (w.heap.size+1) 91 #[.int .i64 d.View.Jobs.Index,.int .i64 d.View.Jobs.Time,.int .i64 d.View.Jobs.Holder,.int .i64 d.View.Jobs.Epoch,.int .i64 d.View.Jobs.Until,.slice (some ⟨bb1,q1,none⟩) d.View.Jobs.Open.length cA]) (by kernel_rfl) (by(try dsimp only);exact⟨by exact Aa,by exact Bv⟩) (fun hHeld=>?_)
   refine wt 0 ?_
   (try simp only[Ab,Act.put])
   refine wt 1 ?_
   (try simp only[Ab,Act.put])
   refine wtq 2 (fun _ h=>h.2.cell) ?_
   (try simp only[Ab,Act.put])
   refine wt 3 ?_
   (try simp only[Ab,Act.put])
   refine wt 4 ?_
   (try simp only[Ab,Act.put])
   refine wt 5 ?_
   (try simp only[Ab,Act.put])
   refine wpAnyH_take (i:=6) (v:=?_) rfl (by kernel_rfl) (by kernel_rfl) (by kernel_rfl) (fun _ _ _ h=>h) (Or.inl ⟨by rfl,?_⟩) (by assumption) ?_
   rotate_left
   focus(intro w hSw;(try dsimp only at hSw);have hq:=hSw.1.cell c0;go_simp <;> with_reducible rfl)
   (try simp only[Ab,Act.put])
   refine wt 7 ?_
   (try simp only[Ab,Act.put])
   refine wtq 8 (fun _ h=>h.2.cell) ?_
   (try simp only[Ab,Act.put])
   refine wt 9 ?_
   (try simp only[Ab,Act.put])
   refine wt 10 ?_
   (try simp only[Ab,Act.put])
   refine wt 11 ?_
   (try simp only[Ab,Act.put])
   refine wpAnyH_take (i:=12) (v:=?_) rfl (by kernel_rfl) (by kernel_rfl) (by kernel_rfl) (fun _ _ _ h=>h) (Or.inl ⟨by rfl,?_⟩) (by assumption) ?_
   rotate_left
   focus(intro w hSw;(try dsimp only at hSw);have hq:=hSw.1.cell c1;go_simp <;> with_reducible rfl)
   (try simp only[Ab,Act.put])
   refine wr1 13 fun Kz hKz=>?_
   (try simp only[Ab])
   go_simp
   refine hKz.out _ _ (by(try dsimp only);exact⟨by exact Aa,by exact Bv⟩) (fun hHeld=>?_)
   clear hKz Kz
   (try simp only[Ab,Act.put])
   refine wr1 14 fun Kz hKz=>?_
   (try simp only[Ab])
   rw[if_pos (by rfl)]
   refine Gv (.tmp 34) (.tmp 47) 62 (by rfl) 2 i0 _ Tryz.underlying62 hi hz0 hz1 hz2 rfl W0.heap.size _ _ (by rfl) (Ou.ext Or_ Aa).2 _ [d9.Id,d9.Due] (by rfl) (Aj.ext (w:=wr.alloc (.cells #[.int .i64 (d9.Id),.int .i64 (d9.Due)] 2)) (Ib _ 2 [d9.Id,d9.Due] (by simp) _ rfl) Aa) (by(try simp only[Hk,opN,Cx]);omega) (Ou.ext Or_ Aa).1.size ?_
   intro v2 w2 o g
   have O2:=Ou.go (Or_.ext Aa) o g
   clear o g
   have e9:=O2.1;have k9:=(B0.ext O2.1)
   refine hKz.out _ _ (by(try dsimp only);exact⟨by exact Aa,by exact Bv⟩) (fun hHeld=>?_)
   clear hKz Kz
   (try simp only[Ab,Act.put])
   refine wt 15 ?_
   (try simp only[Ab,Act.put])
   refine wpAnyH_done (by kernel_rfl) ?_ _
   clear e1 e9 k1 k9
   clear K0 K0l
   have K0:=(B0.ext O2.1).cell;have K0l:=(B0.ext O2.1).lt
   go_wp2_with fail
   go_roundw
   case rel=>exact⟨k+1,by omega,by go_num,O2.cast (by rw[Hf _ HD.out];simp only[Hu.ints,List.append_assoc,List.cons_append,List.nil_append,List.append_nil])⟩
   case measure=>simp[intOf];omega
  obtain rfl:k=d.View.Jobs.Open.length:=by omega
  rw[List.take_length] at Or_
  clear hk hlt
  obtain⟨w1,hV⟩:∃V,V=wr:=⟨_,rfl⟩
  subst hV
  have O1:=Or_;clear Or_
  clear J0 J0l;have J0:=(S0.ext O1.1).cell;have J0l:=(S0.ext O1.1).lt
  go_wp2_with (first|(at_builtin;refine Ci rfl (.tmp 49) (.tmp 53) 62 rfl 2 i0 _ Tryz.underlying62 hi hz0 hz1 hz2 rfl W0.heap.size _ _ rfl (Ou.ext O1 Aa).2 _ [Ow d.Busy] rfl (Ib _ 2 [Ow d.Busy] (by simp) _ rfl) (by(try simp only[Hk,opN,Cx]);omega) (Ou.ext O1 Aa).1.size ?_;rotate_right;intro v3 w3 o g;have O3:=Ou.go (O1.ext Aa) o g;clear o g;clear K0 K0l;have K0:=(B0.ext O3.1).cell;have K0l:=(B0.ext O3.1).lt;clear J0 J0l;have J0:=(S0.ext O3.1).cell;have J0l:=(S0.ext O3.1).lt)|(go_at_call 118;refine(lJ _ _).mono ?_;rintro e9 w9 ⟨rfl,rfl⟩))
  refine(nA (x0:=d.Op.Kind) (x1:=d.Op.A) (x2:=d.Op.B) (x3:=d.Op.C) (x4:=d.Op.D) (O3.ext Aa) rfl (by(try simp only[Hk,opN,Cx]);omega)).mono ?_
  rintro e w4⟨v4,rfl,O4,g⟩
  clear g
  clear K0 K0l
  have K0:=(B0.ext O4.1).cell;have K0l:=(B0.ext O4.1).lt
  clear J0 J0l;have J0:=(S0.ext O4.1).cell;have J0l:=(S0.ext O4.1).lt
  go_wp2_with (first|(at_builtin;refine Ci rfl (.tmp 59) (.tmp 62) 62 rfl 2 i0 _ Tryz.underlying62 hi hz0 hz1 hz2 rfl W0.heap.size _ _ rfl (Ou.ext O4 Aa).2 _ [d.Index] rfl (Ib _ 2 [d.Index] (by simp) _ rfl) (by(try simp only[Hk,opN,Cx]);omega) (Ou.ext O4 Aa).1.size ?_;rotate_right;intro v5 w5 o g;have O5:=Ou.go (O4.ext Aa) o g;clear o g;clear K0 K0l;have K0:=(B0.ext O5.1).cell;have K0l:=(B0.ext O5.1).lt))
  go_ret
  exact⟨_,rfl,by exact Ext.trans E0 O5.1,Af.mono (O5.cast (by simp only[Hk,opN,List.append_assoc,List.cons_append,List.nil_append,List.append_nil])).2 E0.size⟩
end Go.Proofs.YtkpmbocbbgocbaaGreat
