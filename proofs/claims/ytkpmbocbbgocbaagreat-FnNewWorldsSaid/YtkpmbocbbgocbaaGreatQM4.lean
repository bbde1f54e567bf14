/- NU9. -/
import Derived.Test.YtkpmbocbbgocbaaGreatQM1
import Derived.Test.YtkpmbocbbgocbaaGreatQM3
set_option linter.unusedSimpArgs false
set_option linter.unusedVariables false
set_option maxHeartbeats 8000000
set_option maxRecDepth 100000
namespace Go.Proofs.YtkpmbocbbgocbaaGreat
open Go.RowKit Go.G8
theorem lO{w:World}{u:Value}{d:It}(h:Ix w u d)(hl:(Hq d).length<=1000000000):Calls Tryz.prog 114 #[u] w (Ret w fun r w'=>Af w.heap.size 2 1 w' r (Hq d)):=by
 obtain⟨t0,t1,t4,t5,rfl,hA,hB,hP,hJ⟩:=h
 have gd:Gw w (.agg #[t0,t1]) d.Disk:=⟨t0,t1,rfl,hA,hB⟩
 obtain⟨a0,n0,k0,rfl⟩:=hA.shape
 obtain⟨a1,n1,k1,rfl⟩:=hB.shape
 obtain⟨a4,n4,k4,rfl⟩:=hP.shape
 obtain⟨a5,n5,k5,rfl⟩:=hJ.shape
 obtain⟨i0,hi,hz0,hz1,hz2⟩:=info_parts Ec
 simp only[Hq,Bu,Cx] at hl
 show Calls _ _ #[.agg #[.slice a0 n0 k0,.slice a1 n1 k1,.int .i64 d.State.Index,.int .i64 d.State.Time,.slice a4 n4 k4,.slice a5 n5 k5,.int .i64 d.State.Lease.Holder,.int .i64 d.State.Lease.Epoch,.int .i64 d.State.Lease.Until,.int .i64 d.Num,.int .i64 d.Last,.int .i64 d.Busy]] _ _
 obtain⟨W0,hW0⟩:∃W0,W0=w.alloc (.cells #[.slice a0 n0 k0,.slice a1 n1 k1,.int .i64 d.State.Index,.int .i64 d.State.Time,.slice a4 n4 k4,.slice a5 n5 k5,.int .i64 d.State.Lease.Holder,.int .i64 d.State.Lease.Epoch,.int .i64 d.State.Lease.Until,.int .i64 d.Num,.int .i64 d.Last,.int .i64 d.Busy] 88):=⟨_,rfl⟩
 have E0:Ext w W0:=by rw[hW0];exact(Ext.refl _).alloc _
 have B0:Blk W0 w.heap.size 88 #[.slice a0 n0 k0,.slice a1 n1 k1,.int .i64 d.State.Index,.int .i64 d.State.Time,.slice a4 n4 k4,.slice a5 n5 k5,.int .i64 d.State.Lease.Holder,.int .i64 d.State.Lease.Epoch,.int .i64 d.State.Lease.Until,.int .i64 d.Num,.int .i64 d.Last,.int .i64 d.Busy]:=by rw[hW0];exact Blk.new _ _ _
 have z0:w.heap.size<=W0.heap.size:=E0.size
 go_enter Tryz.func114,Tryz.ntmps114
 go_upto_region 1 with(fail)
 rw[<-hW0];clear hW0
 have K0:=B0.cell;have K0l:=B0.lt
 have O:Ou W0 (W0.alloc (.cells #[] 2)) (.slice (some ⟨W0.heap.size,0,none⟩) 0 0) []:=⟨by exact Aa,Own.fresh W0 _ _⟩
 go_wp2_with fail
 refine(Xw (d:=d.Disk) (O.ext Aa) (Gw.ext gd E0) (by(try simp only[Hq,Bu,Cx]);omega)).mono ?_
 rintro e w1⟨v1,rfl,O1,g⟩
 clear g
 clear K0 K0l
 have K0:=(B0.ext O1.1).cell;have K0l:=(B0.ext O1.1).lt
 go_wp2_with fail
 refine(Yt _ d.State _ _ (Aj.ext hP (E0.trans (O1.ext Aa).1)) (Aj.ext hJ (E0.trans (O1.ext Aa).1))).mono ?_
 rintro e w2⟨_,rfl,hx,o⟩
 have hx:Ext w1 w2:=Ext.trans Aa hx;have O2:=O1.ext hx
 clear K0 K0l
 have K0:=(B0.ext O2.1).cell;have K0l:=(B0.ext O2.1).lt
 have D:=Dx.own (Xs:=[]) (F:=Be [v1]) o (fun k hk=>(O1.low k hk).2)
 have on:=o.ints.one;obtain⟨ra,rc,rfl,hrc,hrm,-⟩:=on;unfold maxLen at hrm;clear o
 go_wp2_with (first|(at_builtin;refine Ci rfl (.tmp 12) (.tmp 15) 62 rfl 2 i0 _ Tryz.underlying62 hi hz0 hz1 hz2 rfl W0.heap.size _ _ rfl (Ou.ext O2 Aa).2 _ [((Eg d.State).length:Int)] rfl (Ib _ 2 [((Eg d.State).length:Int)] (by simp) _ rfl) (by(try simp only[Hq,Bu,Cx]);omega) (Ou.ext O2 Aa).1.size ?_;rotate_right;intro v3 w3 o g;have O3:=Ou.go (O2.ext Aa) o g;have D:=Dx.go (Dx.pre D Aa) g;clear o g;clear K0 K0l;have K0:=(B0.ext O3.1).cell;have K0l:=(B0.ext O3.1).lt)|(at_builtin;refine Ci rfl (.tmp 17) (.tmp 18) 62 rfl 2 i0 _ Tryz.underlying62 hi hz0 hz1 hz2 rfl W0.heap.size _ _ rfl (Ou.ext O3 Aa).2 _ (Eg d.State) rfl D.now (by(try simp only[Hq,Bu,Cx]);omega) (Ou.ext O3 Aa).1.size ?_;rotate_right;intro v4 w4 o g;have O4:=Ou.go (O3.ext Aa) o g;clear o g;clear K0 K0l;have K0:=(B0.ext O4.1).cell;have K0l:=(B0.ext O4.1).lt)|(at_builtin;refine Ci rfl (.tmp 20) (.tmp 27) 62 rfl 2 i0 _ Tryz.underlying62 hi hz0 hz1 hz2 rfl W0.heap.size _ _ rfl (Ou.ext O4 Aa).2 _ [d.Num,d.Last,d.Busy] rfl (Ib _ 2 [d.Num,d.Last,d.Busy] (by simp) _ rfl) (by(try simp only[Hq,Bu,Cx]);omega) (Ou.ext O4 Aa).1.size ?_;rotate_right;intro v5 w5 o g;have O5:=Ou.go (O4.ext Aa) o g;clear o g;clear K0 K0l;have K0:=(B0.ext O5.1).cell;have K0l:=(B0.ext O5.1).lt))
 go_ret
 exact⟨_,rfl,by exact Ext.trans E0 O5.1,Af.mono (O5.cast (by simp only[Hq,Bu,List.append_assoc,List.cons_append,List.nil_append,List.append_nil])).2 E0.size⟩
theorem Wv{w:World}{u:Value}{d:Fb}(h:Gu w u d)(he:∀e,e ∈ d.Log.Book.Entries->Dt e=true)(hl:(Du d).length<=1000000000):Calls Tryz.prog 42 #[u] w (Ret w fun r w'=>Af w.heap.size 2 1 w' r (Du d)):=by
 obtain⟨i0,hi,hz0,hz1,hz2⟩:=info_parts Ec
 simp only[Du,Bu,Cx] at hl
 obtain⟨p0,p1,p2,p3,p4,p5,p6,t7,t8,rfl,l0,l1,l2,l3,l4,l5,l6,g0,g1,g2,g3,g4,g5,g6,g7,g8⟩:=h
 obtain⟨ta,tc,rfl,htc,htm,-⟩:=(show Aj 1 w t7 d.Clocks from g7).one;unfold maxLen at htm
 obtain⟨ua,uc,rfl,huc,hum,hup⟩:=Sl.bools g8;unfold maxLen at hum;have HU:=Lib.hid hup;clear hup
 obtain⟨L,hL⟩:∃L:List Value,L=p0++(p1++(p2++(p3++(p4++(p5++(p6++([.slice ta d.Clocks.length tc]++([.slice ua d.Up.length uc]++[])))))))):=⟨_,rfl⟩
 rw[<-hL]
 obtain⟨W0,hW0⟩:∃W0,W0=w.alloc (.cells L.toArray 106):=⟨_,rfl⟩
 have E0:Ext w W0:=by rw[hW0];exact(Ext.refl _).alloc _
 have r:W0.rangeAt w.heap.size 0 L:=by rw[hW0];exact(Bk.new _ _ _).ra
 have z0:W0.heap.size=w.heap.size+1:=by rw[hW0];simp
 rw[hL] at r;clear hL
 obtain⟨R0,r⟩:=Fx (m:=19) r l0 rfl
 obtain⟨R1,r⟩:=Fx (m:=31) r l1 rfl
 obtain⟨R2,r⟩:=Fx (m:=46) r l2 rfl
 obtain⟨R3,r⟩:=Fx (m:=61) r l3 rfl
 obtain⟨R4,r⟩:=Fx (m:=65) r l4 rfl
 obtain⟨R5,r⟩:=Fx (m:=69) r l5 rfl
 obtain⟨R6,r⟩:=Fx (m:=71) r l6 rfl
 obtain⟨R7,r⟩:=Fx (m:=72) r rfl rfl;obtain⟨R8,r⟩:=Fx (m:=73) r rfl rfl;clear r
 have R7:=Uk R7;have R8:=Uk R8
 go_enter Tryz.func42,Tryz.ntmps42
 go_upto_region 1 with(fail)
 rw[<-hW0];clear hW0
 go_wp2_with (first|(refine wpList_load_mid rfl 81 _ rfl w.heap.size 0 (by rfl) p0 _ (Al R0 Aa) Tryz.underlying81 rfl (by rw[l0];kernel_rfl) ?_))
 refine(rS (d:=d.Log) (Lz.ext g0 (E0.trans Aa)) he oM).mono ?_
 rintro e w1⟨v1,rfl,hx,o⟩
 have O1:Ou W0 w1 v1 (Mg d.Log):=⟨by exact hx,o.mono (Nat.le_refl _)⟩;clear hx o
 have e1:=O1.1
 go_wp2_with (first|(refine wpList_load_mid rfl 88 _ rfl w.heap.size 19 (by rfl) p1 _ (Al R1 Aa) Tryz.underlying88 rfl (by rw[l1];kernel_rfl) ?_))
 refine(lO (d:=d.Store) (Ix.ext g1 (E0.trans Aa)) oM).mono ?_
 rintro e w2⟨s2,rfl,hx,o⟩
 have hx:Ext w1 w2:=Ext.trans Aa hx;have O2:=O1.ext hx;clear hx;have e2:=O2.1
 have s2:=o.ints;clear o
 go_wp2_with (first|(at_builtin;refine Ci rfl (.tmp 8) (.tmp 11) 62 rfl 2 i0 _ Tryz.underlying62 hi hz0 hz1 hz2 rfl W0.heap.size _ _ rfl (Ou.ext O2 Aa).2 _ (Hq d.Store) rfl s2 (by(try simp only[Du,Bu,Cx]);omega) (Ou.ext O2 Aa).1.size ?_;rotate_right;intro v3 w3 o g;have O3:=Ou.go (O2.ext Aa) o g;clear o g;have e3:=O3.1)|(refine wpList_load_mid rfl 96 _ rfl w.heap.size 31 (by rfl) p2 _ (Al R2 Aa) Tryz.underlying96 rfl (by rw[l2];kernel_rfl) ?_))
 refine(bE (d:=d.Left) (Hz.ext g2 (E0.trans Aa)) oM).mono ?_
 rintro e w4⟨s4,rfl,hx,o⟩
 have hx:Ext w3 w4:=Ext.trans Aa hx;have O4:=O3.ext hx;clear hx;have e4:=O4.1
 have s4:=o.ints;clear o
 go_wp2_with (first|(at_builtin;refine Ci rfl (.tmp 13) (.tmp 16) 62 rfl 2 i0 _ Tryz.underlying62 hi hz0 hz1 hz2 rfl W0.heap.size _ _ rfl (Ou.ext O4 Aa).2 _ (Hk d.Left) rfl s4 (by(try simp only[Du,Bu,Cx]);omega) (Ou.ext O4 Aa).1.size ?_;rotate_right;intro v5 w5 o g;have O5:=Ou.go (O4.ext Aa) o g;clear o g;have e5:=O5.1)|(refine wpList_load_mid rfl 96 _ rfl w.heap.size 46 (by rfl) p3 _ (Al R3 Aa) Tryz.underlying96 rfl (by rw[l3];kernel_rfl) ?_))
 refine(bE (d:=d.Right) (Hz.ext g3 (E0.trans Aa)) oM).mono ?_
 rintro e w6⟨s6,rfl,hx,o⟩
 have hx:Ext w5 w6:=Ext.trans Aa hx;have O6:=O5.ext hx;clear hx;have e6:=O6.1
 have s6:=o.ints;clear o
 go_wp2_with (first|(at_builtin;refine Ci rfl (.tmp 18) (.tmp 21) 62 rfl 2 i0 _ Tryz.underlying62 hi hz0 hz1 hz2 rfl W0.heap.size _ _ rfl (Ou.ext O6 Aa).2 _ (Hk d.Right) rfl s6 (by(try simp only[Du,Bu,Cx]);omega) (Ou.ext O6 Aa).1.size ?_;rotate_right;intro v7 w7 o g;have O7:=Ou.go (O6.ext Aa) o g;clear o g;have e7:=O7.1)|(refine wpList_load_mid rfl 100 _ rfl w.heap.size 61 (by rfl) p4 _ (Al R4 Aa) Tryz.underlying100 rfl (by rw[l4];kernel_rfl) ?_))
 refine(Yq (d:=d.Ann) (Gk.ext g4 (E0.trans Aa)) oM).mono ?_
 rintro e w8⟨s8,rfl,hx,o⟩
 have hx:Ext w7 w8:=Ext.trans Aa hx;have O8:=O7.ext hx;clear hx;have e8:=O8.1
 have s8:=o.ints;clear o
 go_wp2_with (first|(at_builtin;refine Ci rfl (.tmp 23) (.tmp 26) 62 rfl 2 i0 _ Tryz.underlying62 hi hz0 hz1 hz2 rfl W0.heap.size _ _ rfl (Ou.ext O8 Aa).2 _ (Fa d.Ann) rfl s8 (by(try simp only[Du,Bu,Cx]);omega) (Ou.ext O8 Aa).1.size ?_;rotate_right;intro v9 w9 o g;have O9:=Ou.go (O8.ext Aa) o g;clear o g;have e9:=O9.1)|(refine wpList_load_mid rfl 100 _ rfl w.heap.size 65 (by rfl) p5 _ (Al R5 Aa) Tryz.underlying100 rfl (by rw[l5];kernel_rfl) ?_))
 refine(Yq (d:=d.Bob) (Gk.ext g5 (E0.trans Aa)) oM).mono ?_
 rintro e w10⟨s10,rfl,hx,o⟩
 have hx:Ext w9 w10:=Ext.trans Aa hx;have O10:=O9.ext hx;clear hx;have e10:=O10.1
 have s10:=o.ints;clear o
 go_wp2_with (first|(at_builtin;refine Ci rfl (.tmp 28) (.tmp 31) 62 rfl 2 i0 _ Tryz.underlying62 hi hz0 hz1 hz2 rfl W0.heap.size _ _ rfl (Ou.ext O10 Aa).2 _ (Fa d.Bob) rfl s10 (by(try simp only[Du,Bu,Cx]);omega) (Ou.ext O10 Aa).1.size ?_;rotate_right;intro v11 w11 o g;have O11:=Ou.go (O10.ext Aa) o g;clear o g;have e11:=O11.1)|(refine wpList_load_mid rfl 104 _ rfl w.heap.size 69 (by rfl) p6 _ (Al R6 Aa) Tryz.underlying104 rfl (by rw[l6];kernel_rfl) ?_))
 refine(rN (d:=d.Net) (Rq.ext g6 (E0.trans Aa)) oM).mono ?_
 rintro e w12⟨s12,rfl,hx,o⟩
 have hx:Ext w11 w12:=Ext.trans Aa hx;have O12:=O11.ext hx;clear hx;have e12:=O12.1
 have s12:=o.ints;clear o
 go_wp2_with (first|(at_builtin;refine Ci rfl (.tmp 33) (.tmp 36) 62 rfl 2 i0 _ Tryz.underlying62 hi hz0 hz1 hz2 rfl W0.heap.size _ _ rfl (Ou.ext O12 Aa).2 _ (Qo d.Net) rfl s12 (by(try simp only[Du,Bu,Cx]);omega) (Ou.ext O12 Aa).1.size ?_;rotate_right;intro v13 w13 o g;have O13:=Ou.go (O12.ext Aa) o g;clear o g;have e13:=O13.1;have c7:=O13.1.cell R7;have c8:=O13.1.cell R8)|(at_builtin;refine Ci rfl (.tmp 38) (.tmp 42) 62 rfl 2 i0 _ Tryz.underlying62 hi hz0 hz1 hz2 rfl W0.heap.size _ _ rfl (Ou.ext O13 Aa).2 _ [(d.Clocks.length:Int)] rfl (Ib _ 2 [(d.Clocks.length:Int)] (by simp) _ rfl) (by(try simp only[Du,Bu,Cx]);omega) (Ou.ext O13 Aa).1.size ?_;rotate_right;intro v14 w14 o g;have O14:=Ou.go (O13.ext Aa) o g;clear o g;clear c7 c8;have c7:=O14.1.cell R7;have c8:=O14.1.cell R8;have e14:=O14.1)|(at_builtin;refine Ci rfl (.tmp 44) (.tmp 46) 62 rfl 2 i0 _ Tryz.underlying62 hi hz0 hz1 hz2 rfl W0.heap.size _ _ rfl (Ou.ext O14 Aa).2 _ (d.Clocks) rfl (Aj.ext (show Aj 1 w _ d.Clocks from g7) (E0.trans Aa)) (by(try simp only[Du,Bu,Cx]);omega) (Ou.ext O14 Aa).1.size ?_;rotate_right;intro v15 w15 o g;have O15:=Ou.go (O14.ext Aa) o g;clear o g;clear c7 c8;have c7:=O15.1.cell R7;have c8:=O15.1.cell R8)|(at_builtin;refine Ci rfl (.tmp 48) (.tmp 52) 62 rfl 2 i0 _ Tryz.underlying62 hi hz0 hz1 hz2 rfl W0.heap.size _ _ rfl (Ou.ext O15 Aa).2 _ [(d.Up.length:Int)] rfl (Ib _ 2 [(d.Up.length:Int)] (by simp) _ rfl) (by(try simp only[Du,Bu,Cx]);omega) (Ou.ext O15 Aa).1.size ?_;rotate_right;intro v16 w16 o g;have O16:=Ou.go (O15.ext Aa) o g;clear o g;clear c7 c8;have c7:=O16.1.cell R7;have c8:=O16.1.cell R8))
 go_loopw [3,4] (fun t i wr=>∃k:Nat,k<=d.Up.length/\i=.int .i64 k/\Ou W0 wr t ((((((((((Mg d.Log++(Hq d.Store))++(Hk d.Left))++(Hk d.Right))++(Fa d.Ann))++(Fa d.Bob))++(Qo d.Net))++[(d.Clocks.length:Int)])++(d.Clocks))++[(d.Up.length:Int)])++(d.Up.take k).flatMap (fun b=>[Ow b]))) (fun _ i _=>d.Up.length - (intOf i).toNat)
 case atStart=>exact⟨0,Nat.zero_le _,rfl,O16.cast (by simp)⟩
 case round =>
  clear c7 c8
  obtain⟨k,hk,rfl,Or_⟩:=hrel
  have c8:=Or_.1.cell R8
  obtain⟨r0,r1,r2,rfl⟩:=Or_.shape
  by_cases hlt:k<d.Up.length
  .
   obtain⟨x,bb1,q1,hd,rfl,hb1,cx⟩:=HU.out k hlt
   have dx:=Or_.1.cell (E0.cell cx);have c8:=Or_.1.cell R8
   have hfm:=Jm (fun b=>[Ow b]) hd;have HD:=Lib.hid hd;clear hd
   simp only[Cx] at hfm
   go_wp2_with (first|(at_builtin;refine Ci rfl (.tmp 61) (.tmp 68) 62 rfl 2 i0 _ Tryz.underlying62 hi hz0 hz1 hz2 rfl W0.heap.size _ _ rfl (Ou.ext Or_ Aa).2 _ [Ow x] rfl (Ib _ 2 [Ow x] (by simp) _ rfl) (by(try simp only[Du,Bu,Cx]);omega) (Ou.ext Or_ Aa).1.size ?_;rotate_right;intro v18 w18 o g;have O18:=Ou.go (Or_.ext Aa) o g;clear o g)|(go_at_call 118;refine(lJ _ _).mono ?_;rintro e9 w9 ⟨rfl,rfl⟩))
   go_roundw
   case rel=>exact⟨k+1,by omega,by go_num,O18.cast (by rw[Hf _ HD.out];simp only[List.append_assoc,List.cons_append,List.nil_append,List.append_nil])⟩
   case measure=>simp[intOf];omega
  obtain rfl:k=d.Up.length:=by omega
  rw[List.take_length] at Or_
  clear hk hlt
  obtain⟨w17,hV⟩:∃V,V=wr:=⟨_,rfl⟩
  subst hV
  have O17:=Or_;clear Or_
  go_wp2_with fail
  go_ret
  exact⟨_,rfl,by exact Ext.trans E0 O17.1,Af.mono (O17.cast (by simp only[Du,Bu,List.append_assoc,List.cons_append,List.nil_append,List.append_nil])).2 E0.size⟩
theorem Rh{w:World}{u:Value}{d:Fb}(h:Gu w u d)(hl:(Du d).length<=1000000000):Calls Tryz.prog 51 #[u] w (Ret w fun r w'=>Af w.heap.size 2 1 w' r (Du d)):=by
 simp only[Du,Hq,Bu,Cx] at hl
 obtain⟨p0,p1,p2,p3,p4,p5,p6,t7,t8,rfl,l0,l1,l2,l3,l4,l5,l6,g0,g1,g2,g3,g4,g5,g6,g7,g8⟩:=h
 obtain⟨x0,x1,x4,x5,e,hA,hB,hP,hJ⟩:=g1
 have gd:Gw w (.agg #[x0,x1]) d.Store.Disk:=⟨x0,x1,rfl,hA,hB⟩
 obtain⟨a0,n0,k0,rfl⟩:=hA.shape
 obtain⟨a1,n1,k1,rfl⟩:=hB.shape
 obtain⟨a4,n4,k4,rfl⟩:=hP.shape
 obtain⟨a5,n5,k5,rfl⟩:=hJ.shape
 obtain⟨ta,tc,rfl,htc,htm,-⟩:=(show Aj 1 w t7 d.Clocks from g7).one;unfold maxLen at htm
 obtain⟨ua,uc,rfl,huc,hum,hup⟩:=Sl.bools g8;unfold maxLen at hum;have HU:=Lib.hid hup;clear hup
 obtain⟨L,hL⟩:∃L:List Value,L=p0++(p1++(p2++(p3++(p4++(p5++(p6++([.slice ta d.Clocks.length tc]++([.slice ua d.Up.length uc]++[])))))))):=⟨_,rfl⟩
 rw[<-hL]
 obtain⟨W0,hW0⟩:∃W0,W0=w.alloc (.cells L.toArray 106):=⟨_,rfl⟩
 have E0:Ext w W0:=by rw[hW0];exact(Ext.refl _).alloc _
 have r:W0.rangeAt w.heap.size 0 L:=by rw[hW0];exact(Bk.new _ _ _).ra
 have z0:W0.heap.size=w.heap.size+1:=by rw[hW0];simp
 rw[hL] at r;clear hL
 obtain⟨R0,r⟩:=Fx (m:=19) r l0 rfl
 obtain⟨R1,r⟩:=Fx (m:=31) r l1 rfl
 obtain⟨R2,r⟩:=Fx (m:=46) r l2 rfl
 obtain⟨R3,r⟩:=Fx (m:=61) r l3 rfl
 obtain⟨R4,r⟩:=Fx (m:=65) r l4 rfl
 obtain⟨R5,r⟩:=Fx (m:=69) r l5 rfl
 obtain⟨R6,r⟩:=Fx (m:=71) r l6 rfl
 obtain⟨R7,r⟩:=Fx (m:=72) r rfl rfl;obtain⟨R8,r⟩:=Fx (m:=73) r rfl rfl;clear r
 have R7:=Uk R7;have R8:=Uk R8
 rw[Ct e] at R1
 obtain⟨RD,R1⟩:=Fx (p:=[.slice a0 n0 k0,.slice a1 n1 k1]) (m:=21) R1 rfl rfl
 obtain⟨RS,R1⟩:=Fx (p:=[.int .i64 d.Store.State.Index,.int .i64 d.Store.State.Time,.slice a4 n4 k4,.slice a5 n5 k5,.int .i64 d.Store.State.Lease.Holder,.int .i64 d.Store.State.Lease.Epoch,.int .i64 d.Store.State.Lease.Until]) (m:=28) R1 rfl rfl
 have m0:=R1 0 _ rfl;have m1:=R1 1 _ rfl;have m2:=R1 2 _ rfl;simp only[Nat.add_zero,Nat.reduceAdd] at m0 m1 m2;clear R1 e l1
 go_enter Tryz.func51,Tryz.ntmps51
 go_upto_region 1 with(fail)
 rw[<-hW0];clear hW0
 obtain⟨X,hX⟩:∃X,X=w.heap.size+1:=⟨_,rfl⟩
 obtain⟨V1,hV1⟩:∃V1,V1=W0.alloc (.cells #[.slice none 0 0,.int .i64 0] 212):=⟨_,rfl⟩
 have C:Cu W0 X V1 [] []:=by rw[hV1,hX,<-z0];exact⟨by exact Aa,Nat.le_refl _,_,Blk.new _ _ _,Af.nil _ _ _ _,rfl⟩
 go_upto_region 2 with(fail)
 rw[<-hV1,<-hX]
 have z1:w.heap.size<=X:=by omega
 have HX:=Lib.hid hX;clear hV1 hX z0
 skip
 have e9:=C.e
 go_wp2_with (first|(refine wpList_load_mid rfl 81 _ rfl w.heap.size 0 (by rfl) p0 _ (Al R0 Aa) Tryz.underlying81 rfl (by rw[l0];kernel_rfl) ?_))
 refine(rO (d:=d.Log) (C.ext Aa) (Lz.ext g0 E0) (by(try simp only[Du,Hq,Bu,Cx]);omega)).mono ?_
 rintro e w1⟨_,rfl,F1,C1,g⟩
 have g:=Stp.pre (a:=V1) Aa g
 have G:=(Stp.refl [X] V1 []).trans g
 clear g
 clear e9
 skip
 have e9:=C1.e
 go_wp2_with (first|(refine wpList_load_mid rfl 70 _ rfl w.heap.size 19 (by rfl) [.slice a0 n0 k0,.slice a1 n1 k1] _ (Al RD Aa) Tryz.underlying70 rfl (by kernel_rfl) ?_))
 refine(Xu (d:=d.Store.Disk) (C1.ext Aa) (Gw.ext gd E0) (by(try simp only[Du,Hq,Bu,Cx]);omega)).mono ?_
 rintro e w2⟨_,rfl,F2,C2,g⟩
 have g:=Stp.pre (a:=w1) Aa g
 have G:=G.trans g
 clear g
 clear e9
 have e9:=C2.e
 go_wp2_with (first|(refine wpList_load_mid rfl 86 _ rfl w.heap.size 21 (by rfl) [.int .i64 d.Store.State.Index,.int .i64 d.Store.State.Time,.slice a4 n4 k4,.slice a5 n5 k5,.int .i64 d.Store.State.Lease.Holder,.int .i64 d.Store.State.Lease.Epoch,.int .i64 d.Store.State.Lease.Until] _ (Al RS Aa) Tryz.underlying86 rfl (by kernel_rfl) ?_))
 refine(Zu _ d.Store.State _ _ (Aj.ext hP (E0.trans e9)) (Aj.ext hJ (E0.trans e9))).mono ?_
 rintro e w3⟨r3,rfl,hx,o⟩
 have C3:=C2.ext hx;have D:=Dx.own (Xs:=[X]) (F:=F2) o (fun k hk=>(C2.low k hk).2);clear o e9
 have G:=G.ext hx;clear hx
 go_wp2_with fail
 refine(Ru (l:=Eg d.Store.State) (C3.ext Aa) D (by(try simp only[Du,Hq,Bu,Cx]);omega)).mono ?_
 rintro e w4⟨_,rfl,F4,C4,g⟩
 have g:=Stp.pre (a:=w3) Aa g
 have G:=G.trans g
 clear g
 have m0:=C4.e.cell m0;have m1:=C4.e.cell m1;have m2:=C4.e.cell m2
 go_wp2_with fail
 refine(Jh (C4.ext Aa) (Ib _ 2 [d.Store.Num,d.Store.Last,d.Store.Busy] (by simp) _ rfl) (by(try simp only[Du,Hq,Bu,Cx]);omega)).mono ?_
 rintro e w5⟨_,rfl,F5,C5,g⟩
 have g:=Stp.pre (a:=w4) Aa g
 have G:=G.trans g
 clear g
 skip
 have e9:=C5.e
 go_wp2_with (first|(refine wpList_load_mid rfl 96 _ rfl w.heap.size 31 (by rfl) p2 _ (Al R2 Aa) Tryz.underlying96 rfl (by rw[l2];kernel_rfl) ?_))
 refine(bB (d:=d.Left) (C5.ext Aa) (Hz.ext g2 E0) (by(try simp only[Du,Hq,Bu,Cx]);omega)).mono ?_
 rintro e w6⟨_,rfl,F6,C6,g⟩
 have g:=Stp.pre (a:=w5) Aa g
 have G:=G.trans g
 clear g
 clear e9
 skip
 have e9:=C6.e
 go_wp2_with (first|(refine wpList_load_mid rfl 96 _ rfl w.heap.size 46 (by rfl) p3 _ (Al R3 Aa) Tryz.underlying96 rfl (by rw[l3];kernel_rfl) ?_))
 refine(bB (d:=d.Right) (C6.ext Aa) (Hz.ext g3 E0) (by(try simp only[Du,Hq,Bu,Cx]);omega)).mono ?_
 rintro e w7⟨_,rfl,F7,C7,g⟩
 have g:=Stp.pre (a:=w6) Aa g
 have G:=G.trans g
 clear g
 clear e9
 skip
 have e9:=C7.e
 go_wp2_with (first|(refine wpList_load_mid rfl 100 _ rfl w.heap.size 61 (by rfl) p4 _ (Al R4 Aa) Tryz.underlying100 rfl (by rw[l4];kernel_rfl) ?_))
 refine(Yn (d:=d.Ann) (C7.ext Aa) (Gk.ext g4 E0) (by(try simp only[Du,Hq,Bu,Cx]);omega)).mono ?_
 rintro e w8⟨_,rfl,F8,C8,g⟩
 have g:=Stp.pre (a:=w7) Aa g
 have G:=G.trans g
 clear g
 clear e9
 skip
 have e9:=C8.e
 go_wp2_with (first|(refine wpList_load_mid rfl 100 _ rfl w.heap.size 65 (by rfl) p5 _ (Al R5 Aa) Tryz.underlying100 rfl (by rw[l5];kernel_rfl) ?_))
 refine(Yn (d:=d.Bob) (C8.ext Aa) (Gk.ext g5 E0) (by(try simp only[Du,Hq,Bu,Cx]);omega)).mono ?_
 rintro e w9⟨_,rfl,F9,C9,g⟩
 have g:=Stp.pre (a:=w8) Aa g
 have G:=G.trans g
 clear g
 clear e9
 skip
 have e9:=C9.e
 go_wp2_with (first|(refine wpList_load_mid rfl 104 _ rfl w.heap.size 69 (by rfl) p6 _ (Al R6 Aa) Tryz.underlying104 rfl (by rw[l6];kernel_rfl) ?_))
 refine(rI (d:=d.Net) (C9.ext Aa) (Rq.ext g6 E0) (by(try simp only[Du,Hq,Bu,Cx]);omega)).mono ?_
 rintro e w10⟨_,rfl,F10,C10,g⟩
 have g:=Stp.pre (a:=w9) Aa g
 have G:=G.trans g
 clear g
 clear e9
 have c7:=C10.e.cell R7
 go_wp2_with fail
 refine(Ru (l:=d.Clocks) (C10.ext Aa) (Dx.of C10 (fun _ e=>Aj.ext (show Aj 1 w _ d.Clocks from g7) (E0.trans e))) (by(try simp only[Du,Hq,Bu,Cx]);omega)).mono ?_
 rintro e w11⟨_,rfl,F11,C11,g⟩
 have g:=Stp.pre (a:=w10) Aa g
 have G:=G.trans g
 clear g
 have c8:=C11.e.cell R8
 go_wp2_with fail
 refine(Jh (C11.ext Aa) (Ib _ 2 [(d.Up.length:Int)] (by simp) _ rfl) (by(try simp only[Du,Hq,Bu,Cx]);omega)).mono ?_
 rintro e w12⟨_,rfl,F12,C12,g⟩
 have g:=Stp.pre (a:=w11) Aa g
 have G:=G.trans g
 clear g
 clear c8;have c8:=C12.e.cell R8
 go_wp2_with fail
 go_loopw [68] (fun i wr=>∃k:Nat,k<=d.Up.length/\i=.int .i64 k/\∃Fr,Cu W0 X wr Fr (((((((((((([]++Mg d.Log)++Hr d.Store.Disk)++Bu (Eg d.Store.State))++[d.Store.Num,d.Store.Last,d.Store.Busy])++Hk d.Left)++Hk d.Right)++Fa d.Ann)++Fa d.Bob)++Qo d.Net)++Bu d.Clocks)++[(d.Up.length:Int)])++(d.Up.take k).flatMap (fun b=>[Ow b]))/\Stp [X] w12 wr F12 Fr) (fun i _=>d.Up.length - (intOf i).toNat)
 case atStart=>exact⟨0,Nat.zero_le _,rfl,_,C12.cast (by simp),Stp.refl _ _ _⟩
 case round =>
  obtain⟨k,hk,rfl,Fr,Cr,Gr⟩:=hrel
  by_cases hlt:k<d.Up.length
  .
   obtain⟨x,bb1,q1,hd,rfl,hb1,cx⟩:=HU.out k hlt
   have dx:=Cr.e.cell (E0.cell cx)
   have hfm:=Jm (fun b=>[Ow b]) hd;have HD:=Lib.hid hd;clear hd
   simp only[Cx] at hfm
   go_wp2_with (first|(go_at_call 139;refine(rH _ _).mono ?_;rintro e9 w9 ⟨rfl,rfl⟩))
   refine(Jh (Cr.ext Aa) (Ib _ 2 [Ow x] (by simp) _ rfl) (by(try simp only[Du,Hq,Bu,Cx]);omega)).mono ?_
   rintro e w14⟨_,rfl,F14,C14,g⟩
   have g:=Stp.pre (a:=wr) Aa g
   have G:=(Stp.refl [X] wr Fr).trans g
   clear g
   go_wp2_with fail
   go_roundw
   case rel=>exact⟨k+1,by omega,by go_num,_,C14.cast (by rw[Hf _ HD.out];simp only[List.append_assoc,List.cons_append,List.nil_append,List.append_nil]),Gr.trans G⟩
   case measure=>simp[intOf];omega
  obtain rfl:k=d.Up.length:=by omega
  rw[List.take_length] at Cr
  clear hk hlt
  obtain⟨w13,hV⟩:∃V,V=wr:=⟨_,rfl⟩
  subst hV
  have C13:=Cr;clear Cr;have G:=G.trans Gr;clear Gr
  obtain⟨F13,hV⟩:∃V,V=Fr:=⟨_,rfl⟩
  subst hV
  have cz:=C13;obtain⟨e9,-,v9,hb,ho,-⟩:=cz;obtain⟨y0,y1,y2,rfl⟩:=ho.shape;have K9:=hb.cell;have K9l:=hb.lt
  go_wp2_with fail
  go_ret
  rw[show(((((((((((([]++Mg d.Log)++Hr d.Store.Disk)++Bu (Eg d.Store.State))++[d.Store.Num,d.Store.Last,d.Store.Busy])++Hk d.Left)++Hk d.Right)++Fa d.Ann)++Fa d.Bob)++Qo d.Net)++Bu d.Clocks)++[(d.Up.length:Int)])++d.Up.flatMap (fun b=>[Ow b]))=Du d from by simp only[Du,Hq,Bu,Hq,Bu,List.append_assoc,List.cons_append,List.nil_append,List.append_nil]] at ho
  exact⟨_,rfl,E0.trans e9,ho.mono oM⟩
end Go.Proofs.YtkpmbocbbgocbaaGreat
