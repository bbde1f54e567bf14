/- NU9. -/
import Derived.Test.YtkpmbocbbgocbaaGreatPM1
import Derived.Test.YtkpmbocbbgocbaaGreatPM3
set_option linter.unusedSimpArgs false
set_option linter.unusedVariables false
set_option maxHeartbeats 8000000
set_option maxRecDepth 100000
namespace Go.Proofs.YtkpmbocbbgocbaaGreat
open Go.RowKit Go.G8
theorem aZ1{w:World}{u:Value}{d:EW}(h:DF w u d)(hl:(FC d).length<=1000000000):Calls Tryz.prog 114 #[u] w (Ret w fun r w'=>Ba w.heap.size 2 1 w' r (FC d)):=by
 obtain⟨t0,t1,t4,t5,rfl,hA,hB,hP,hJ⟩:=h
 have gd:FT w (.agg #[t0,t1]) d.Disk:=⟨t0,t1,rfl,hA,hB⟩
 obtain⟨a0,n0,k0,rfl⟩:=hA.shape
 obtain⟨a1,n1,k1,rfl⟩:=hB.shape
 obtain⟨a4,n4,k4,rfl⟩:=hP.shape
 obtain⟨a5,n5,k5,rfl⟩:=hJ.shape
 obtain⟨i0,hi,hz0,hz1,hz2⟩:=info_parts BM
 simp only[FC,Kj,Vj] at hl
 show Calls _ _ #[.agg #[.slice a0 n0 k0,.slice a1 n1 k1,.int .i64 d.State.Index,.int .i64 d.State.Time,.slice a4 n4 k4,.slice a5 n5 k5,.int .i64 d.State.Lease.Holder,.int .i64 d.State.Lease.Epoch,.int .i64 d.State.Lease.Until,.int .i64 d.Num,.int .i64 d.Last,.int .i64 d.Busy]] _ _
 obtain⟨W0,hW0⟩:∃W0,W0=w.alloc (.cells #[.slice a0 n0 k0,.slice a1 n1 k1,.int .i64 d.State.Index,.int .i64 d.State.Time,.slice a4 n4 k4,.slice a5 n5 k5,.int .i64 d.State.Lease.Holder,.int .i64 d.State.Lease.Epoch,.int .i64 d.State.Lease.Until,.int .i64 d.Num,.int .i64 d.Last,.int .i64 d.Busy] 88):=⟨_,rfl⟩
 have E0:Ext w W0:=by rw[hW0];exact(Ext.refl _).alloc _
 have B0:Blk W0 w.heap.size 88 #[.slice a0 n0 k0,.slice a1 n1 k1,.int .i64 d.State.Index,.int .i64 d.State.Time,.slice a4 n4 k4,.slice a5 n5 k5,.int .i64 d.State.Lease.Holder,.int .i64 d.State.Lease.Epoch,.int .i64 d.State.Lease.Until,.int .i64 d.Num,.int .i64 d.Last,.int .i64 d.Busy]:=by rw[hW0];exact Blk.new _ _ _
 have z0:w.heap.size<=W0.heap.size:=E0.size
 go_enter Tryz.func114,Tryz.ntmps114
 go_upto_region 1 with(fail)
 rw[<-hW0];clear hW0
 have K0:=B0.cell;have K0l:=B0.lt
 have O:Ou W0 (W0.alloc (.cells #[] 2)) (.slice (some ⟨W0.heap.size,0,none⟩) 0 0) []:=⟨by exact Ag,Own.fresh W0 _ _⟩
 go_wp2_with fail
 refine(XQ (d:=d.Disk) (O.ext Ag) (FT.ext gd E0) (by(try simp only[FC,Kj,Vj]);omega)).mono ?_
 rintro e w1⟨v1,rfl,O1,g⟩
 clear g
 clear K0 K0l
 have K0:=(B0.ext O1.1).cell;have K0l:=(B0.ext O1.1).lt
 go_wp2_with fail
 refine(YR _ d.State _ _ (Aw.ext hP (E0.trans (O1.ext Ag).1)) (Aw.ext hJ (E0.trans (O1.ext Ag).1))).mono ?_
 rintro e w2⟨_,rfl,hx,o⟩
 have hx:Ext w1 w2:=Ext.trans Ag hx;have O2:=O1.ext hx
 clear K0 K0l
 have K0:=(B0.ext O2.1).cell;have K0l:=(B0.ext O2.1).lt
 have D:=Dx.own (Xs:=[]) (F:=Ep [v1]) o (fun k hk=>(O1.low k hk).2)
 have on:=o.ints.one;obtain⟨ra,rc,rfl,hrc,hrm,-⟩:=on;unfold maxLen at hrm;clear o
 go_wp2_with (first|(at_builtin;refine Of rfl (.tmp 12) (.tmp 15) 62 rfl 2 i0 _ Tryz.underlying62 hi hz0 hz1 hz2 rfl W0.heap.size _ _ rfl (Ou.ext O2 Ag).2 _ [((wT d.State).length:Int)] rfl (FW _ 2 [((wT d.State).length:Int)] (by simp) _ rfl) (by(try simp only[FC,Kj,Vj]);omega) (Ou.ext O2 Ag).1.size ?_;rotate_right;intro v3 w3 o g;have O3:=Ou.go (O2.ext Ag) o g;have D:=Dx.go (Dx.pre D Ag) g;clear o g;clear K0 K0l;have K0:=(B0.ext O3.1).cell;have K0l:=(B0.ext O3.1).lt)|(at_builtin;refine Of rfl (.tmp 17) (.tmp 18) 62 rfl 2 i0 _ Tryz.underlying62 hi hz0 hz1 hz2 rfl W0.heap.size _ _ rfl (Ou.ext O3 Ag).2 _ (wT d.State) rfl D.now (by(try simp only[FC,Kj,Vj]);omega) (Ou.ext O3 Ag).1.size ?_;rotate_right;intro v4 w4 o g;have O4:=Ou.go (O3.ext Ag) o g;clear o g;clear K0 K0l;have K0:=(B0.ext O4.1).cell;have K0l:=(B0.ext O4.1).lt)|(at_builtin;refine Of rfl (.tmp 20) (.tmp 27) 62 rfl 2 i0 _ Tryz.underlying62 hi hz0 hz1 hz2 rfl W0.heap.size _ _ rfl (Ou.ext O4 Ag).2 _ [d.Num,d.Last,d.Busy] rfl (FW _ 2 [d.Num,d.Last,d.Busy] (by simp) _ rfl) (by(try simp only[FC,Kj,Vj]);omega) (Ou.ext O4 Ag).1.size ?_;rotate_right;intro v5 w5 o g;have O5:=Ou.go (O4.ext Ag) o g;clear o g;clear K0 K0l;have K0:=(B0.ext O5.1).cell;have K0l:=(B0.ext O5.1).lt))
 go_ret
 exact⟨_,rfl,by exact Ext.trans E0 O5.1,Ba.mono (O5.cast (by simp only[FC,Kj,List.append_assoc,List.cons_append,List.nil_append,List.append_nil])).2 E0.size⟩
theorem aL9{w:World}{u:Value}{d:DU}(h:EC w u d)(he:∀e,e ∈ d.Log.Book.Entries->wN e=true)(hl:(BQ d).length<=1000000000):Calls Tryz.prog 42 #[u] w (Ret w fun r w'=>Ba w.heap.size 2 1 w' r (BQ d)):=by
 obtain⟨i0,hi,hz0,hz1,hz2⟩:=info_parts BM
 simp only[BQ,Kj,Vj] at hl
 obtain⟨p0,p1,p2,p3,p4,p5,p6,t7,t8,rfl,l0,l1,l2,l3,l4,l5,l6,g0,g1,g2,g3,g4,g5,g6,g7,g8⟩:=h
 obtain⟨ta,tc,rfl,htc,htm,-⟩:=(show Aw 1 w t7 d.Clocks from g7).one;unfold maxLen at htm
 obtain⟨ua,uc,rfl,huc,hum,hup⟩:=Sl.bools g8;unfold maxLen at hum;have HU:=Lib.hid hup;clear hup
 obtain⟨L,hL⟩:∃L:List Value,L=p0++(p1++(p2++(p3++(p4++(p5++(p6++([.slice ta d.Clocks.length tc]++([.slice ua d.Up.length uc]++[])))))))):=⟨_,rfl⟩
 rw[<-hL]
 obtain⟨W0,hW0⟩:∃W0,W0=w.alloc (.cells L.toArray 106):=⟨_,rfl⟩
 have E0:Ext w W0:=by rw[hW0];exact(Ext.refl _).alloc _
 have r:W0.rangeAt w.heap.size 0 L:=by rw[hW0];exact(Bk.new _ _ _).ra
 have z0:W0.heap.size=w.heap.size+1:=by rw[hW0];simp
 rw[hL] at r;clear hL
 obtain⟨R0,r⟩:=An (m:=19) r l0 rfl
 obtain⟨R1,r⟩:=An (m:=31) r l1 rfl
 obtain⟨R2,r⟩:=An (m:=46) r l2 rfl
 obtain⟨R3,r⟩:=An (m:=61) r l3 rfl
 obtain⟨R4,r⟩:=An (m:=65) r l4 rfl
 obtain⟨R5,r⟩:=An (m:=69) r l5 rfl
 obtain⟨R6,r⟩:=An (m:=71) r l6 rfl
 obtain⟨R7,r⟩:=An (m:=72) r rfl rfl;obtain⟨R8,r⟩:=An (m:=73) r rfl rfl;clear r
 have R7:=Az R7;have R8:=Az R8
 go_enter Tryz.func42,Tryz.ntmps42
 go_upto_region 1 with(fail)
 rw[<-hW0];clear hW0
 go_wp2_with (first|(refine wpList_load_mid rfl 81 _ rfl w.heap.size 0 (by rfl) p0 _ (As R0 Ag) Tryz.underlying81 rfl (by rw[l0];kernel_rfl) ?_))
 refine(bZ1 (d:=d.Log) (IU.ext g0 (E0.trans Ag)) he oM).mono ?_
 rintro e w1⟨v1,rfl,hx,o⟩
 have O1:Ou W0 w1 v1 (LS d.Log):=⟨by exact hx,o.mono (Nat.le_refl _)⟩;clear hx o
 have e1:=O1.1
 go_wp2_with (first|(refine wpList_load_mid rfl 88 _ rfl w.heap.size 19 (by rfl) p1 _ (As R1 Ag) Tryz.underlying88 rfl (by rw[l1];kernel_rfl) ?_))
 refine(aZ1 (d:=d.Store) (DF.ext g1 (E0.trans Ag)) oM).mono ?_
 rintro e w2⟨s2,rfl,hx,o⟩
 have hx:Ext w1 w2:=Ext.trans Ag hx;have O2:=O1.ext hx;clear hx;have e2:=O2.1
 have s2:=o.ints;clear o
 go_wp2_with (first|(at_builtin;refine Of rfl (.tmp 8) (.tmp 11) 62 rfl 2 i0 _ Tryz.underlying62 hi hz0 hz1 hz2 rfl W0.heap.size _ _ rfl (Ou.ext O2 Ag).2 _ (FC d.Store) rfl s2 (by(try simp only[BQ,Kj,Vj]);omega) (Ou.ext O2 Ag).1.size ?_;rotate_right;intro v3 w3 o g;have O3:=Ou.go (O2.ext Ag) o g;clear o g;have e3:=O3.1)|(refine wpList_load_mid rfl 96 _ rfl w.heap.size 31 (by rfl) p2 _ (As R2 Ag) Tryz.underlying96 rfl (by rw[l2];kernel_rfl) ?_))
 refine(aC6 (d:=d.Left) (CN.ext g2 (E0.trans Ag)) oM).mono ?_
 rintro e w4⟨s4,rfl,hx,o⟩
 have hx:Ext w3 w4:=Ext.trans Ag hx;have O4:=O3.ext hx;clear hx;have e4:=O4.1
 have s4:=o.ints;clear o
 go_wp2_with (first|(at_builtin;refine Of rfl (.tmp 13) (.tmp 16) 62 rfl 2 i0 _ Tryz.underlying62 hi hz0 hz1 hz2 rfl W0.heap.size _ _ rfl (Ou.ext O4 Ag).2 _ (ET d.Left) rfl s4 (by(try simp only[BQ,Kj,Vj]);omega) (Ou.ext O4 Ag).1.size ?_;rotate_right;intro v5 w5 o g;have O5:=Ou.go (O4.ext Ag) o g;clear o g;have e5:=O5.1)|(refine wpList_load_mid rfl 96 _ rfl w.heap.size 46 (by rfl) p3 _ (As R3 Ag) Tryz.underlying96 rfl (by rw[l3];kernel_rfl) ?_))
 refine(aC6 (d:=d.Right) (CN.ext g3 (E0.trans Ag)) oM).mono ?_
 rintro e w6⟨s6,rfl,hx,o⟩
 have hx:Ext w5 w6:=Ext.trans Ag hx;have O6:=O5.ext hx;clear hx;have e6:=O6.1
 have s6:=o.ints;clear o
 go_wp2_with (first|(at_builtin;refine Of rfl (.tmp 18) (.tmp 21) 62 rfl 2 i0 _ Tryz.underlying62 hi hz0 hz1 hz2 rfl W0.heap.size _ _ rfl (Ou.ext O6 Ag).2 _ (ET d.Right) rfl s6 (by(try simp only[BQ,Kj,Vj]);omega) (Ou.ext O6 Ag).1.size ?_;rotate_right;intro v7 w7 o g;have O7:=Ou.go (O6.ext Ag) o g;clear o g;have e7:=O7.1)|(refine wpList_load_mid rfl 100 _ rfl w.heap.size 61 (by rfl) p4 _ (As R4 Ag) Tryz.underlying100 rfl (by rw[l4];kernel_rfl) ?_))
 refine(YP (d:=d.Ann) (CU.ext g4 (E0.trans Ag)) oM).mono ?_
 rintro e w8⟨s8,rfl,hx,o⟩
 have hx:Ext w7 w8:=Ext.trans Ag hx;have O8:=O7.ext hx;clear hx;have e8:=O8.1
 have s8:=o.ints;clear o
 go_wp2_with (first|(at_builtin;refine Of rfl (.tmp 23) (.tmp 26) 62 rfl 2 i0 _ Tryz.underlying62 hi hz0 hz1 hz2 rfl W0.heap.size _ _ rfl (Ou.ext O8 Ag).2 _ (BG d.Ann) rfl s8 (by(try simp only[BQ,Kj,Vj]);omega) (Ou.ext O8 Ag).1.size ?_;rotate_right;intro v9 w9 o g;have O9:=Ou.go (O8.ext Ag) o g;clear o g;have e9:=O9.1)|(refine wpList_load_mid rfl 100 _ rfl w.heap.size 65 (by rfl) p5 _ (As R5 Ag) Tryz.underlying100 rfl (by rw[l5];kernel_rfl) ?_))
 refine(YP (d:=d.Bob) (CU.ext g5 (E0.trans Ag)) oM).mono ?_
 rintro e w10⟨s10,rfl,hx,o⟩
 have hx:Ext w9 w10:=Ext.trans Ag hx;have O10:=O9.ext hx;clear hx;have e10:=O10.1
 have s10:=o.ints;clear o
 go_wp2_with (first|(at_builtin;refine Of rfl (.tmp 28) (.tmp 31) 62 rfl 2 i0 _ Tryz.underlying62 hi hz0 hz1 hz2 rfl W0.heap.size _ _ rfl (Ou.ext O10 Ag).2 _ (BG d.Bob) rfl s10 (by(try simp only[BQ,Kj,Vj]);omega) (Ou.ext O10 Ag).1.size ?_;rotate_right;intro v11 w11 o g;have O11:=Ou.go (O10.ext Ag) o g;clear o g;have e11:=O11.1)|(refine wpList_load_mid rfl 104 _ rfl w.heap.size 69 (by rfl) p6 _ (As R6 Ag) Tryz.underlying104 rfl (by rw[l6];kernel_rfl) ?_))
 refine(bY6 (d:=d.Net) (ND.ext g6 (E0.trans Ag)) oM).mono ?_
 rintro e w12⟨s12,rfl,hx,o⟩
 have hx:Ext w11 w12:=Ext.trans Ag hx;have O12:=O11.ext hx;clear hx;have e12:=O12.1
 have s12:=o.ints;clear o
 go_wp2_with (first|(at_builtin;refine Of rfl (.tmp 33) (.tmp 36) 62 rfl 2 i0 _ Tryz.underlying62 hi hz0 hz1 hz2 rfl W0.heap.size _ _ rfl (Ou.ext O12 Ag).2 _ (PO d.Net) rfl s12 (by(try simp only[BQ,Kj,Vj]);omega) (Ou.ext O12 Ag).1.size ?_;rotate_right;intro v13 w13 o g;have O13:=Ou.go (O12.ext Ag) o g;clear o g;have e13:=O13.1;have c7:=O13.1.cell R7;have c8:=O13.1.cell R8)|(at_builtin;refine Of rfl (.tmp 38) (.tmp 42) 62 rfl 2 i0 _ Tryz.underlying62 hi hz0 hz1 hz2 rfl W0.heap.size _ _ rfl (Ou.ext O13 Ag).2 _ [(d.Clocks.length:Int)] rfl (FW _ 2 [(d.Clocks.length:Int)] (by simp) _ rfl) (by(try simp only[BQ,Kj,Vj]);omega) (Ou.ext O13 Ag).1.size ?_;rotate_right;intro v14 w14 o g;have O14:=Ou.go (O13.ext Ag) o g;clear o g;clear c7 c8;have c7:=O14.1.cell R7;have c8:=O14.1.cell R8;have e14:=O14.1)|(at_builtin;refine Of rfl (.tmp 44) (.tmp 46) 62 rfl 2 i0 _ Tryz.underlying62 hi hz0 hz1 hz2 rfl W0.heap.size _ _ rfl (Ou.ext O14 Ag).2 _ (d.Clocks) rfl (Aw.ext (show Aw 1 w _ d.Clocks from g7) (E0.trans Ag)) (by(try simp only[BQ,Kj,Vj]);omega) (Ou.ext O14 Ag).1.size ?_;rotate_right;intro v15 w15 o g;have O15:=Ou.go (O14.ext Ag) o g;clear o g;clear c7 c8;have c7:=O15.1.cell R7;have c8:=O15.1.cell R8)|(at_builtin;refine Of rfl (.tmp 48) (.tmp 52) 62 rfl 2 i0 _ Tryz.underlying62 hi hz0 hz1 hz2 rfl W0.heap.size _ _ rfl (Ou.ext O15 Ag).2 _ [(d.Up.length:Int)] rfl (FW _ 2 [(d.Up.length:Int)] (by simp) _ rfl) (by(try simp only[BQ,Kj,Vj]);omega) (Ou.ext O15 Ag).1.size ?_;rotate_right;intro v16 w16 o g;have O16:=Ou.go (O15.ext Ag) o g;clear o g;clear c7 c8;have c7:=O16.1.cell R7;have c8:=O16.1.cell R8))
 go_loopw [3,4] (fun t i wr=>∃k:Nat,k<=d.Up.length/\i=.int .i64 k/\Ou W0 wr t ((((((((((LS d.Log++(FC d.Store))++(ET d.Left))++(ET d.Right))++(BG d.Ann))++(BG d.Bob))++(PO d.Net))++[(d.Clocks.length:Int)])++(d.Clocks))++[(d.Up.length:Int)])++(d.Up.take k).flatMap (fun b=>[NX b]))) (fun _ i _=>d.Up.length - (intOf i).toNat)
 case atStart=>exact⟨0,Nat.zero_le _,rfl,O16.cast (by simp)⟩
 case round =>
  clear c7 c8
  obtain⟨k,hk,rfl,Or_⟩:=hrel
  have c8:=Or_.1.cell R8
  obtain⟨r0,r1,r2,rfl⟩:=Or_.shape
  by_cases hlt:k<d.Up.length
  .
   obtain⟨x,bb1,q1,hd,rfl,hb1,cx⟩:=HU.out k hlt
   have dx:=Or_.1.cell (E0.cell cx);have c8:=Or_.1.cell R8
   have hfm:=IB (fun b=>[NX b]) hd;have HD:=Lib.hid hd;clear hd
   simp only[Vj] at hfm
   go_wp2_with (first|(at_builtin;refine Of rfl (.tmp 61) (.tmp 68) 62 rfl 2 i0 _ Tryz.underlying62 hi hz0 hz1 hz2 rfl W0.heap.size _ _ rfl (Ou.ext Or_ Ag).2 _ [NX x] rfl (FW _ 2 [NX x] (by simp) _ rfl) (by(try simp only[BQ,Kj,Vj]);omega) (Ou.ext Or_ Ag).1.size ?_;rotate_right;intro v18 w18 o g;have O18:=Ou.go (Or_.ext Ag) o g;clear o g)|(go_at_call 118;refine(aY5 _ _).mono ?_;rintro e9 w9 ⟨rfl,rfl⟩))
   go_roundw
   case rel=>exact⟨k+1,by omega,by go_num,O18.cast (by rw[EM _ HD.out];simp only[List.append_assoc,List.cons_append,List.nil_append,List.append_nil])⟩
   case measure=>simp[intOf];omega
  obtain rfl:k=d.Up.length:=by omega
  rw[List.take_length] at Or_
  clear hk hlt
  obtain⟨w17,hV⟩:∃V,V=wr:=⟨_,rfl⟩
  subst hV
  have O17:=Or_;clear Or_
  go_wp2_with fail
  go_ret
  exact⟨_,rfl,by exact Ext.trans E0 O17.1,Ba.mono (O17.cast (by simp only[BQ,Kj,List.append_assoc,List.cons_append,List.nil_append,List.append_nil])).2 E0.size⟩
theorem aS9{w:World}{u:Value}{d:DU}(h:EC w u d)(hl:(BQ d).length<=1000000000):Calls Tryz.prog 51 #[u] w (Ret w fun r w'=>Ba w.heap.size 2 1 w' r (BQ d)):=by
 simp only[BQ,FC,Kj,Vj] at hl
 obtain⟨p0,p1,p2,p3,p4,p5,p6,t7,t8,rfl,l0,l1,l2,l3,l4,l5,l6,g0,g1,g2,g3,g4,g5,g6,g7,g8⟩:=h
 obtain⟨x0,x1,x4,x5,e,hA,hB,hP,hJ⟩:=g1
 have gd:FT w (.agg #[x0,x1]) d.Store.Disk:=⟨x0,x1,rfl,hA,hB⟩
 obtain⟨a0,n0,k0,rfl⟩:=hA.shape
 obtain⟨a1,n1,k1,rfl⟩:=hB.shape
 obtain⟨a4,n4,k4,rfl⟩:=hP.shape
 obtain⟨a5,n5,k5,rfl⟩:=hJ.shape
 obtain⟨ta,tc,rfl,htc,htm,-⟩:=(show Aw 1 w t7 d.Clocks from g7).one;unfold maxLen at htm
 obtain⟨ua,uc,rfl,huc,hum,hup⟩:=Sl.bools g8;unfold maxLen at hum;have HU:=Lib.hid hup;clear hup
 obtain⟨L,hL⟩:∃L:List Value,L=p0++(p1++(p2++(p3++(p4++(p5++(p6++([.slice ta d.Clocks.length tc]++([.slice ua d.Up.length uc]++[])))))))):=⟨_,rfl⟩
 rw[<-hL]
 obtain⟨W0,hW0⟩:∃W0,W0=w.alloc (.cells L.toArray 106):=⟨_,rfl⟩
 have E0:Ext w W0:=by rw[hW0];exact(Ext.refl _).alloc _
 have r:W0.rangeAt w.heap.size 0 L:=by rw[hW0];exact(Bk.new _ _ _).ra
 have z0:W0.heap.size=w.heap.size+1:=by rw[hW0];simp
 rw[hL] at r;clear hL
 obtain⟨R0,r⟩:=An (m:=19) r l0 rfl
 obtain⟨R1,r⟩:=An (m:=31) r l1 rfl
 obtain⟨R2,r⟩:=An (m:=46) r l2 rfl
 obtain⟨R3,r⟩:=An (m:=61) r l3 rfl
 obtain⟨R4,r⟩:=An (m:=65) r l4 rfl
 obtain⟨R5,r⟩:=An (m:=69) r l5 rfl
 obtain⟨R6,r⟩:=An (m:=71) r l6 rfl
 obtain⟨R7,r⟩:=An (m:=72) r rfl rfl;obtain⟨R8,r⟩:=An (m:=73) r rfl rfl;clear r
 have R7:=Az R7;have R8:=Az R8
 rw[wQ e] at R1
 obtain⟨RD,R1⟩:=An (p:=[.slice a0 n0 k0,.slice a1 n1 k1]) (m:=21) R1 rfl rfl
 obtain⟨RS,R1⟩:=An (p:=[.int .i64 d.Store.State.Index,.int .i64 d.Store.State.Time,.slice a4 n4 k4,.slice a5 n5 k5,.int .i64 d.Store.State.Lease.Holder,.int .i64 d.Store.State.Lease.Epoch,.int .i64 d.Store.State.Lease.Until]) (m:=28) R1 rfl rfl
 have m0:=R1 0 _ rfl;have m1:=R1 1 _ rfl;have m2:=R1 2 _ rfl;simp only[Nat.add_zero,Nat.reduceAdd] at m0 m1 m2;clear R1 e l1
 go_enter Tryz.func51,Tryz.ntmps51
 go_upto_region 1 with(fail)
 rw[<-hW0];clear hW0
 obtain⟨X,hX⟩:∃X,X=w.heap.size+1:=⟨_,rfl⟩
 obtain⟨V1,hV1⟩:∃V1,V1=W0.alloc (.cells #[.slice none 0 0,.int .i64 0] 212):=⟨_,rfl⟩
 have C:Cu W0 X V1 [] []:=by rw[hV1,hX,<-z0];exact⟨by exact Ag,Nat.le_refl _,_,Blk.new _ _ _,Ba.nil _ _ _ _,rfl⟩
 go_upto_region 2 with(fail)
 rw[<-hV1,<-hX]
 have z1:w.heap.size<=X:=by omega
 have HX:=Lib.hid hX;clear hV1 hX z0
 skip
 have e9:=C.e
 go_wp2_with (first|(refine wpList_load_mid rfl 81 _ rfl w.heap.size 0 (by rfl) p0 _ (As R0 Ag) Tryz.underlying81 rfl (by rw[l0];kernel_rfl) ?_))
 refine(bY7 (d:=d.Log) (C.ext Ag) (IU.ext g0 E0) (by(try simp only[BQ,FC,Kj,Vj]);omega)).mono ?_
 rintro e w1⟨_,rfl,F1,C1,g⟩
 have g:=Stp.pre (a:=V1) Ag g
 have G:=(Stp.refl [X] V1 []).trans g
 clear g
 clear e9
 skip
 have e9:=C1.e
 go_wp2_with (first|(refine wpList_load_mid rfl 70 _ rfl w.heap.size 19 (by rfl) [.slice a0 n0 k0,.slice a1 n1 k1] _ (As RD Ag) Tryz.underlying70 rfl (by kernel_rfl) ?_))
 refine(XP (d:=d.Store.Disk) (C1.ext Ag) (FT.ext gd E0) (by(try simp only[BQ,FC,Kj,Vj]);omega)).mono ?_
 rintro e w2⟨_,rfl,F2,C2,g⟩
 have g:=Stp.pre (a:=w1) Ag g
 have G:=G.trans g
 clear g
 clear e9
 have e9:=C2.e
 go_wp2_with (first|(refine wpList_load_mid rfl 86 _ rfl w.heap.size 21 (by rfl) [.int .i64 d.Store.State.Index,.int .i64 d.Store.State.Time,.slice a4 n4 k4,.slice a5 n5 k5,.int .i64 d.Store.State.Lease.Holder,.int .i64 d.Store.State.Lease.Epoch,.int .i64 d.Store.State.Lease.Until] _ (As RS Ag) Tryz.underlying86 rfl (by kernel_rfl) ?_))
 refine(aA3 _ d.Store.State _ _ (Aw.ext hP (E0.trans e9)) (Aw.ext hJ (E0.trans e9))).mono ?_
 rintro e w3⟨r3,rfl,hx,o⟩
 have C3:=C2.ext hx;have D:=Dx.own (Xs:=[X]) (F:=F2) o (fun k hk=>(C2.low k hk).2);clear o e9
 have G:=G.ext hx;clear hx
 go_wp2_with fail
 refine(RB (l:=wT d.Store.State) (C3.ext Ag) D (by(try simp only[BQ,FC,Kj,Vj]);omega)).mono ?_
 rintro e w4⟨_,rfl,F4,C4,g⟩
 have g:=Stp.pre (a:=w3) Ag g
 have G:=G.trans g
 clear g
 have m0:=C4.e.cell m0;have m1:=C4.e.cell m1;have m2:=C4.e.cell m2
 go_wp2_with fail
 refine(GW (C4.ext Ag) (FW _ 2 [d.Store.Num,d.Store.Last,d.Store.Busy] (by simp) _ rfl) (by(try simp only[BQ,FC,Kj,Vj]);omega)).mono ?_
 rintro e w5⟨_,rfl,F5,C5,g⟩
 have g:=Stp.pre (a:=w4) Ag g
 have G:=G.trans g
 clear g
 skip
 have e9:=C5.e
 go_wp2_with (first|(refine wpList_load_mid rfl 96 _ rfl w.heap.size 31 (by rfl) p2 _ (As R2 Ag) Tryz.underlying96 rfl (by rw[l2];kernel_rfl) ?_))
 refine(aC2 (d:=d.Left) (C5.ext Ag) (CN.ext g2 E0) (by(try simp only[BQ,FC,Kj,Vj]);omega)).mono ?_
 rintro e w6⟨_,rfl,F6,C6,g⟩
 have g:=Stp.pre (a:=w5) Ag g
 have G:=G.trans g
 clear g
 clear e9
 skip
 have e9:=C6.e
 go_wp2_with (first|(refine wpList_load_mid rfl 96 _ rfl w.heap.size 46 (by rfl) p3 _ (As R3 Ag) Tryz.underlying96 rfl (by rw[l3];kernel_rfl) ?_))
 refine(aC2 (d:=d.Right) (C6.ext Ag) (CN.ext g3 E0) (by(try simp only[BQ,FC,Kj,Vj]);omega)).mono ?_
 rintro e w7⟨_,rfl,F7,C7,g⟩
 have g:=Stp.pre (a:=w6) Ag g
 have G:=G.trans g
 clear g
 clear e9
 skip
 have e9:=C7.e
 go_wp2_with (first|(refine wpList_load_mid rfl 100 _ rfl w.heap.size 61 (by rfl) p4 _ (As R4 Ag) Tryz.underlying100 rfl (by rw[l4];kernel_rfl) ?_))
 refine(YN (d:=d.Ann) (C7.ext Ag) (CU.ext g4 E0) (by(try simp only[BQ,FC,Kj,Vj]);omega)).mono ?_
 rintro e w8⟨_,rfl,F8,C8,g⟩
 have g:=Stp.pre (a:=w7) Ag g
 have G:=G.trans g
 clear g
 clear e9
 skip
 have e9:=C8.e
 go_wp2_with (first|(refine wpList_load_mid rfl 100 _ rfl w.heap.size 65 (by rfl) p5 _ (As R5 Ag) Tryz.underlying100 rfl (by rw[l5];kernel_rfl) ?_))
 refine(YN (d:=d.Bob) (C8.ext Ag) (CU.ext g5 E0) (by(try simp only[BQ,FC,Kj,Vj]);omega)).mono ?_
 rintro e w9⟨_,rfl,F9,C9,g⟩
 have g:=Stp.pre (a:=w8) Ag g
 have G:=G.trans g
 clear g
 clear e9
 skip
 have e9:=C9.e
 go_wp2_with (first|(refine wpList_load_mid rfl 104 _ rfl w.heap.size 69 (by rfl) p6 _ (As R6 Ag) Tryz.underlying104 rfl (by rw[l6];kernel_rfl) ?_))
 refine(bY2 (d:=d.Net) (C9.ext Ag) (ND.ext g6 E0) (by(try simp only[BQ,FC,Kj,Vj]);omega)).mono ?_
 rintro e w10⟨_,rfl,F10,C10,g⟩
 have g:=Stp.pre (a:=w9) Ag g
 have G:=G.trans g
 clear g
 clear e9
 have c7:=C10.e.cell R7
 go_wp2_with fail
 refine(RB (l:=d.Clocks) (C10.ext Ag) (Dx.of C10 (fun _ e=>Aw.ext (show Aw 1 w _ d.Clocks from g7) (E0.trans e))) (by(try simp only[BQ,FC,Kj,Vj]);omega)).mono ?_
 rintro e w11⟨_,rfl,F11,C11,g⟩
 have g:=Stp.pre (a:=w10) Ag g
 have G:=G.trans g
 clear g
 have c8:=C11.e.cell R8
 go_wp2_with fail
 refine(GW (C11.ext Ag) (FW _ 2 [(d.Up.length:Int)] (by simp) _ rfl) (by(try simp only[BQ,FC,Kj,Vj]);omega)).mono ?_
 rintro e w12⟨_,rfl,F12,C12,g⟩
 have g:=Stp.pre (a:=w11) Ag g
 have G:=G.trans g
 clear g
 clear c8;have c8:=C12.e.cell R8
 go_wp2_with fail
 go_loopw [68] (fun i wr=>∃k:Nat,k<=d.Up.length/\i=.int .i64 k/\∃Fr,Cu W0 X wr Fr (((((((((((([]++LS d.Log)++FH d.Store.Disk)++Kj (wT d.Store.State))++[d.Store.Num,d.Store.Last,d.Store.Busy])++ET d.Left)++ET d.Right)++BG d.Ann)++BG d.Bob)++PO d.Net)++Kj d.Clocks)++[(d.Up.length:Int)])++(d.Up.take k).flatMap (fun b=>[NX b]))/\Stp [X] w12 wr F12 Fr) (fun i _=>d.Up.length - (intOf i).toNat)
 case atStart=>exact⟨0,Nat.zero_le _,rfl,_,C12.cast (by simp),Stp.refl _ _ _⟩
 case round =>
  obtain⟨k,hk,rfl,Fr,Cr,Gr⟩:=hrel
  by_cases hlt:k<d.Up.length
  .
   obtain⟨x,bb1,q1,hd,rfl,hb1,cx⟩:=HU.out k hlt
   have dx:=Cr.e.cell (E0.cell cx)
   have hfm:=IB (fun b=>[NX b]) hd;have HD:=Lib.hid hd;clear hd
   simp only[Vj] at hfm
   go_wp2_with (first|(go_at_call 139;refine(bY1 _ _).mono ?_;rintro e9 w9 ⟨rfl,rfl⟩))
   refine(GW (Cr.ext Ag) (FW _ 2 [NX x] (by simp) _ rfl) (by(try simp only[BQ,FC,Kj,Vj]);omega)).mono ?_
   rintro e w14⟨_,rfl,F14,C14,g⟩
   have g:=Stp.pre (a:=wr) Ag g
   have G:=(Stp.refl [X] wr Fr).trans g
   clear g
   go_wp2_with fail
   go_roundw
   case rel=>exact⟨k+1,by omega,by go_num,_,C14.cast (by rw[EM _ HD.out];simp only[List.append_assoc,List.cons_append,List.nil_append,List.append_nil]),Gr.trans G⟩
   case measure=>simp[intOf];omega
  obtain rfl:k=d.Up.length:=by omega
  rw[List.take_length] at Cr
  clear hk hlt
  obtain⟨w13,hV⟩:∃V,V=wr:=⟨_,rfl⟩
  subst hV
  have C13:=Cr;clear Cr;have G:=G.trans Gr;clear Gr
  obtain⟨F13,hV⟩:∃V,V=Fr:=⟨_,rfl⟩
  subst hV
  have cz:=C13;obtain⟨e9,-,v9,hb,ho,-⟩:=cz;obtain⟨y0,y1,y2,rfl⟩:=ho.shape;have K9:=hb.cell;have K9l:=hb.lt
  go_wp2_with fail
  go_ret
  rw[show(((((((((((([]++LS d.Log)++FH d.Store.Disk)++Kj (wT d.Store.State))++[d.Store.Num,d.Store.Last,d.Store.Busy])++ET d.Left)++ET d.Right)++BG d.Ann)++BG d.Bob)++PO d.Net)++Kj d.Clocks)++[(d.Up.length:Int)])++d.Up.flatMap (fun b=>[NX b]))=BQ d from by simp only[BQ,FC,Kj,FC,Kj,List.append_assoc,List.cons_append,List.nil_append,List.append_nil]] at ho
  exact⟨_,rfl,E0.trans e9,ho.mono oM⟩
end Go.Proofs.YtkpmbocbbgocbaaGreat
