/- ShM Un ShN Num3 P6 Sh1 SR. -/
import Derived.Test.YtkpmbocbbgocbaaGreatQGf
set_option linter.unusedSimpArgs false
set_option linter.unusedVariables false
set_option maxHeartbeats 8000000
set_option maxRecDepth 100000
namespace Go.Proofs.YtkpmbocbbgocbaaGreat
open Go.RowKit Go.G8
section
open Go.RowKit Go.Proofs.YtkpmbocbbgocbaaGreat
def parts(n:Nat):Nat:=(n+19) / 20
end
theorem Af.lit(w:World)(e:TypeId)(xs:List Int)(h:xs.length<=1000):Af w.heap.size e 1 (w.alloc (.cells (xs.map (Value.int .i64)).toArray e)) (.slice (some ⟨w.heap.size,0,none⟩) xs.length xs.length) xs:=by
 refine Own.of_blk (cap:=xs.length) (Blk.new w _ _) (Nat.le_refl _) (by simp) (by simp) (Nat.le_refl _) (by unfold maxLen;omega) ?_
 intro j hj
 simp
theorem iF(w:World)(a b c:Int)(hok:Jj ⟨a,b,c⟩=true):Calls Tryz.prog 331 #[.agg #[.int .i64 a,.int .i64 b,.int .i64 c]] w (Ret w fun r w'=>Af w.heap.size 2 1 w' r [a,b,c]):=by
 have HOK:=Lib.hid hok
 clear hok
 have hE0:Ext w (w.alloc (.cells #[.int .i64 a,.int .i64 b,.int .i64 c] 84)):=(Ext.refl _).alloc _
 go_enter Tryz.func331,Tryz.ntmps331
 go_wp2_with fail
 refine(Zp _ a b c).mono ?_
 rintro e w1⟨rfl,hx1⟩
 rw[HOK.out]
 have KP1:=(Blk.new w 84 #[.int .i64 a,.int .i64 b,.int .i64 c]).ext hx1
 have CP1:=KP1.cell
 have hz1:=hx1.size
 simp only[World.size_alloc] at hz1
 have hp1:w.heap.size<w1.heap.size:=by omega
 go_wp2_with fail
 go_ret
 exact⟨_,rfl,(hE0.trans hx1).alloc _,Af.mono (Af.lit w1 2 [a,b,c] (by simp)) oM⟩
theorem Yt(w:World)(s:Fl)(s2 s3:Value)(h2:Aj 2 w s2 (Dp s.Pairs))(h3:Aj 5 w s3 (Fj s.Jobs)):Calls Tryz.prog 223 #[.agg #[.int .i64 s.Index,.int .i64 s.Time,s2,s3,.int .i64 s.Lease.Holder,.int .i64 s.Lease.Epoch,.int .i64 s.Lease.Until]] w (Ret w fun r w'=>Af w.heap.size 2 1 w' r (Eg s)):=by
 obtain⟨a2,n2,k2,rfl⟩:=h2.shape
 obtain⟨a3,n3,k3,rfl⟩:=h3.shape
 obtain⟨i0,hi,hz0,hz1,hz2⟩:=info_parts Ec
 have hE0:Ext w (w.alloc (.cells #[.int .i64 s.Index,.int .i64 s.Time,.slice a2 n2 k2,.slice a3 n3 k3,.int .i64 s.Lease.Holder,.int .i64 s.Lease.Epoch,.int .i64 s.Lease.Until] 86)):=(Ext.refl _).alloc _
 go_enter Tryz.func223,Tryz.ntmps223
 go_wp2_with fail
 refine(Vi _ s.Index s.Time _ s.Pairs _ s.Jobs s.Lease.Holder s.Lease.Epoch s.Lease.Until (h2.ext hE0) (h3.ext hE0)).mono ?_
 rintro e w1⟨rfl,hx1⟩
 have KP1:=(Blk.new w 86 #[.int .i64 s.Index,.int .i64 s.Time,.slice a2 n2 k2,.slice a3 n3 k3,.int .i64 s.Lease.Holder,.int .i64 s.Lease.Epoch,.int .i64 s.Lease.Until]).ext hx1
 have CP1:=KP1.cell
 have hE1:Ext w w1:=hE0.trans hx1
 have hzz:=hx1.size
 simp only[World.size_alloc] at hzz
 have hp1:w.heap.size<w1.heap.size:=by omega
 clear hx1
 cases hb:Gg s
 .
  go_wp2_with fail
  go_ret
  exact⟨_,rfl,hE1.alloc _,by rw[show Eg s=[] by simp[Eg,hb]];exact Af.mono (show Af w1.heap.size 2 1 _ _ [] from Own.fresh w1 2 1) oM⟩
 obtain⟨hl1,hl2⟩:=Wj hb
 have hpk:Iu s.Pairs=true/\Kd s.Jobs=true/\Jj s.Lease=true:=by
  simp only[Gg,Bool.and_eq_true] at hb
  exact⟨hb.2.2.1,hb.2.2.2.1,hb.2.2.2.2.1⟩
 have HPK:=Lib.hid hpk
 have HBB:=Lib.hid hb
 clear hb hpk
 have O0:=Af.lit w1 2 [s.Index,s.Time] (by simp)
 go_wp2_with fail
 refine(gY _ _ s.Pairs (h2.ext (hE1.alloc _)) HPK.out.1 oM).mono ?_
 rintro e w2⟨_,rfl,hx2,o2⟩
 obtain⟨b2,m2,c2,rfl⟩:=o2.shape
 have E2:Ext w1 w2:=Ext.trans ((Ext.refl w1).alloc _) hx2
 have O2:=Af.ext O0 hx2
 have KP2:=KP1.ext E2;have CP2:=KP2.cell;have hp2:w.heap.size<w2.heap.size:=by(have:=E2.size;omega)
 clear O0 CP1
 go_wp2_with (first|(at_builtin;refine Fg rfl (.tmp 13) (.tmp 16) 62 rfl 2 i0 _ 1 8 Tryz.underlying62 hi hz0 hz1 hz2 rfl dC w1.heap.size _ (([s.Index,s.Time]).map (.int .i64)) rfl O2 _ (((s.Pairs.length:Int)::Dp s.Pairs).map (.int .i64)) rfl o2.ints (ints_oneCell _ _) 1000000 (by simp[Iz,Kl];omega) (by unfold maxLen;omega) oM (by have:=E2.size;omega) w1 E2 (Nat.le_refl _) ?_;rotate_right;intro v3 w3 O3 E3 _;have O3:Af w1.heap.size 2 1 w3 v3 ([s.Index,s.Time]++((s.Pairs.length:Int)::Dp s.Pairs)):=(by simpa[Af] using O3);obtain⟨b3,m3,c3,rfl⟩:=O3.shape;have KP3:=KP1.ext E3;have CP3:=KP3.cell;have hp3:w.heap.size<w3.heap.size:=by(have:=E3.size;omega)))
 clear CP2 O2 o2
 go_wp2_with fail
 refine(eG _ _ s.Jobs (h3.ext (hE1.trans E3)) HPK.out.2.1 oM).mono ?_
 rintro e w4⟨_,rfl,hx4,o4⟩
 obtain⟨b4,m4,c4,rfl⟩:=o4.shape
 have E4:Ext w1 w4:=E3.trans hx4
 have O4:=Af.ext O3 hx4
 have KP4:=KP1.ext E4;have CP4:=KP4.cell;have hp4:w.heap.size<w4.heap.size:=by(have:=E4.size;omega)
 clear CP3 O3
 go_wp2_with (first|(at_builtin;refine Fg rfl (.tmp 18) (.tmp 21) 62 rfl 2 i0 _ 1 8 Tryz.underlying62 hi hz0 hz1 hz2 rfl dC w1.heap.size _ (([s.Index,s.Time]++((s.Pairs.length:Int)::Dp s.Pairs)).map (.int .i64)) rfl O4 _ (((s.Jobs.length:Int)::Fj s.Jobs).map (.int .i64)) rfl o4.ints (ints_oneCell _ _) 1000000 (by simp[Iz,Kl];omega) (by unfold maxLen;omega) oM (by have:=E4.size;omega) w1 E4 (Nat.le_refl _) ?_;rotate_right;intro v5 w5 O5 E5 _;have O5:Af w1.heap.size 2 1 w5 v5 ([s.Index,s.Time]++((s.Pairs.length:Int)::Dp s.Pairs)++((s.Jobs.length:Int)::Fj s.Jobs)):=(by simpa[Af] using O5);obtain⟨b5,m5,c5,rfl⟩:=O5.shape;have KP5:=KP1.ext E5;have CP5:=KP5.cell;have hp5:w.heap.size<w5.heap.size:=by(have:=E5.size;omega)))
 clear CP4 O4 o4
 go_wp2_with fail
 refine(iF _ s.Lease.Holder s.Lease.Epoch s.Lease.Until HPK.out.2.2).mono ?_
 rintro e w6⟨_,rfl,hx6,o6⟩
 obtain⟨b6,m6,c6,rfl⟩:=o6.shape
 have E6:Ext w1 w6:=E5.trans hx6
 have O6:=Af.ext O5 hx6
 have KP6:=KP1.ext E6;have CP6:=KP6.cell;have hp6:w.heap.size<w6.heap.size:=by(have:=E6.size;omega)
 clear CP5 O5
 go_wp2_with (first|(at_builtin;refine Fg rfl (.tmp 23) (.tmp 26) 62 rfl 2 i0 _ 1 8 Tryz.underlying62 hi hz0 hz1 hz2 rfl dC w1.heap.size _ (([s.Index,s.Time]++((s.Pairs.length:Int)::Dp s.Pairs)++((s.Jobs.length:Int)::Fj s.Jobs)).map (.int .i64)) rfl O6 _ (([s.Lease.Holder,s.Lease.Epoch,s.Lease.Until]).map (.int .i64)) rfl o6.ints (ints_oneCell _ _) 1000000 (by simp[Iz,Kl];omega) (by unfold maxLen;omega) oM (by have:=E6.size;omega) w1 E6 (Nat.le_refl _) ?_;rotate_right;intro v7 w7 O7 E7 _))
 have O7:Af w1.heap.size 2 1 w7 v7 ([s.Index,s.Time]++((s.Pairs.length:Int)::Dp s.Pairs)++((s.Jobs.length:Int)::Fj s.Jobs)++[s.Lease.Holder,s.Lease.Epoch,s.Lease.Until]):=by simpa[Af] using O7
 go_ret
 refine⟨_,rfl,hE1.trans E7,?_⟩
 rw[show Eg s=Uh s by simp[Eg,HBB.out]]
 exact Af.mono O7 oM
theorem Aj.part{w:World}{a:Option Addr}{cap:Nat}{xs:List Int}(h:Aj 1 w (.slice a xs.length cap) xs){l m:Nat}(h1:l<m)(h2:m<=xs.length)(h3:xs.length<=cap):Aj 1 w (.slice (a.map (fun x=>x.add l)) (m - l) (cap - l)) ((xs.take m).drop l):=by
 have:=h.sliced (l:=l) (m:=m) (Nat.le_of_lt h1) h2
 unfold Go.sliced at this
 rw[if_neg oM,Nat.mul_one] at this
 exact this
theorem eQ{l m:List Int}{k:Nat}{x y:Int}(hx:l[k]?=some x)(hy:m[k]?=some y)(h:l.take k=m.take k)(e:x=y):l.take (k+1)=m.take (k+1):=by
 rw[List.take_add_one,List.take_add_one,hx,hy,h,e]
theorem dA(w:World)(v u:Value)(l m:List Int)(h:Aj 1 w v l)(k:Aj 1 w u m):Calls Tryz.prog 50 #[v,u] w (Cp w (.bool (decide (l=m)))):=by
 obtain⟨a,c,rfl,hc,hm,ha⟩:=h.one
 obtain⟨b,d,rfl,hd,hn,hb⟩:=k.one
 have HA:=Lib.hid ha;have HB:=Lib.hid hb
 clear ha hb h k
 unfold maxLen at hm hn
 by_cases hl:l.length=m.length
 rotate_left
 .
  have hd':decide (l=m)=false:=by simp;intro e;exact hl (by rw[e])
  have hb1:((l.length:Int) == (m.length:Int))=false:=by simp;omega
  have hb2:decide ((l.length:Int)=(m.length:Int))=false:=by simp;omega
  have HD:=Lib.hid hd'
  clear hl hd'
  go_enter Tryz.func50,Tryz.ntmps50
  go_wp2
  go_ret
  refine⟨by rw[HD.out];rfl,?_⟩
  exact xT
 obtain⟨N,hN⟩:∃N,N=m.length:=⟨_,rfl⟩
 rw[<-hN] at hl HB hd ⊢
 rw[hl] at HA hc ⊢
 have HL:=Lib.hid hl;have HN:=Lib.hid hN
 clear hl hN
 go_enter Tryz.func50,Tryz.ntmps50
 go_wp2_with fail
 go_loopw [13] (fun i wr=>∃k:Nat,k<=N/\i=.int .i64 k/\Ext w wr/\Hid (l.take k=m.take k)) (fun i _=>N - (intOf i).toNat)
 case atStart=>exact⟨0,Nat.zero_le _,rfl,Ext.refl _,Lib.hid (by simp)⟩
 case round =>
  obtain⟨k,hk,rfl,he,ht⟩:=hrel
  by_cases hlt:k<N
  .
   obtain⟨x,b1,o1,hx,rfl,hb1,c1⟩:=HA.out k hlt
   obtain⟨y,b2,o2,hy,rfl,hb2,c2⟩:=HB.out k hlt
   have d1:=he.cell c1
   have d2:=he.cell c2
   have HX:=Lib.hid hx;have HY:=Lib.hid hy
   clear hx hy
   by_cases hxy:x=y
   .
    subst hxy
    go_wp2_with fail
    go_quiet (fail)
    go_wp2_with fail
    go_roundw
    case rel=>exact⟨k+1,by omega,by go_num,xT,Lib.hid (eQ HX.out HY.out ht.out rfl)⟩
    case measure=>simp[intOf];omega
   have hb1':(x == y)=false:=by simp[hxy]
   have hne:decide (l=m)=false:=by
    simp only[decide_eq_false_iff_not]
    intro e
    have h1:=HX.out;have h2:=HY.out
    rw[e,h2] at h1
    exact hxy (Option.some.inj h1).symm
   have HD:=Lib.hid hne
   clear hne
   go_wp2_with fail
   go_quiet (fail)
   go_wp2_with fail
   go_ret
   refine⟨by rw[HD.out];rfl,?_⟩
   exact xT
  obtain rfl:k=N:=by omega
  have hd':decide (l=m)=true:=by
   have h1:=ht.out
   rw[List.take_of_length_le (by rw[HL.out];omega),List.take_of_length_le (by rw[<-HN.out];omega)] at h1
   simp[h1]
  have HD:=Lib.hid hd'
  clear hd'
  go_wp2_with fail
  go_ret
  refine⟨by rw[HD.out];rfl,?_⟩
  exact xT
theorem dB(w:World)(v u:Value)(l m:List Int)(h:Aj 1 w v l)(k:Aj 1 w u m):Calls Tryz.prog 368 #[v,u] w (Cp w (.bool (decide (l=m)))):=by
 go_enter Tryz.func368,Tryz.ntmps368
 go_wp2_with fail
 refine(dA _ v u l m h k).mono ?_
 rintro e w1⟨rfl,hx1⟩
 go_wp2_with fail
 go_ret
 exact⟨rfl,hx1⟩
end Go.Proofs.YtkpmbocbbgocbaaGreat
