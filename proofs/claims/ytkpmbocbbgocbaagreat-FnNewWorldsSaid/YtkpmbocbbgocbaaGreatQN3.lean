/- NL1. -/
import Derived.Test.YtkpmbocbbgocbaaGreatQN2
set_option linter.unusedSimpArgs false
set_option linter.unusedVariables false
set_option maxHeartbeats 16000000
set_option maxRecDepth 100000
namespace Go.Proofs.YtkpmbocbbgocbaaGreat
open Go.RowKit Go.G8
theorem lN{w:World}{u v:Value}{a b:List Da}(h1:Gy w u a)(h2:Gy w v b)(e1:a.length<=1048576)(e2:b.length<=1048576):Calls Tryz.prog 23 #[u,v] w (Ret w fun r w'=>∃r',r=.tuple #[r',.bool (Fo a&&Fo b)]/\∃F,Gz w.heap.size w' r' (Gd a b) F):=by
 obtain⟨a0,n0,k0,rfl⟩:=h1.shape
 obtain⟨b0,m0,j0,rfl⟩:=h2.shape
 have h1:Gy w (.slice a0 n0 k0) a:=h1
 have h2:Gy w (.slice b0 m0 j0) b:=h2
 obtain⟨W1,hW1⟩:∃W1,W1=w.alloc (.cells Tryz.zeroCells106 106):=⟨_,rfl⟩
 have E1:Ext w W1:=by rw[hW1];exact(Ext.refl _).alloc _
 have K1:Blk W1 w.heap.size 106 Tryz.zeroCells106:=by rw[hW1];exact Blk.new _ _ _
 have z1:W1.heap.size=w.heap.size+1:=by rw[hW1];simp
 have y1:=Nat.le_of_eq z1;have y2:=Nat.le_of_eq z1.symm;clear z1
 go_enter Tryz.func23,Tryz.ntmps23
 go_upto_region 1 with(fail)
 rw[<-hW1];clear hW1
 go_wp2_with fail
 refine(Ty _ _ a (Aj.ext (show Aj 7 w _ (Fw a) from h1) Aa)).mono ?_
 rintro e w2⟨rfl,x2⟩
 have E2:Ext w w2:=E1.trans x2;have K2:=K1.ext x2
 have ZERO:∀w9,Ext w w9->∃F,Gz w.heap.size w9 (.agg Tryz.zeroCells106) Qp F:=fun w9 _=>Rw _ _
 cases q1:Fo a
 .
  go_wp2_with (first|(refine Fq rfl 106 (.tmp 4) (.tmp 15) rfl rfl rfl _ (show Blk _ w.heap.size 106 Tryz.zeroCells106 from by exact Bv) (by kernel_rfl) rfl (by kernel_rfl) ?_;intro KF))
  refine bodyPost_ret (Ij rfl _ _ w.heap.size _ _ _ _ (.bool false) (by rfl) (by rfl) KF Tryz.underlying106 rfl (by kernel_rfl)) rfl ?_
  obtain⟨F,o⟩:=Rw w.heap.size (w2.setRow w.heap.size Tryz.zeroCells106)
  refine⟨_,rfl,by exact Aa,_,by rw[q1];rfl,F,?_⟩
  rw[show Gd a b=Qp from by unfold Gd;rw[q1];rfl]
  exact o
 have Q1:=Lib.hid q1;clear q1
 go_wp2_with fail
 refine(Ty _ _ b (Aj.ext (show Aj 7 w _ (Fw b) from h2) Aa)).mono ?_
 rintro e w3⟨rfl,x3⟩
 have E3:Ext w w3:=E2.trans x3;have K3:=K2.ext x3
 cases q2:Fo b
 .
  go_wp2_with (first|(refine Fq rfl 106 (.tmp 4) (.tmp 15) rfl rfl rfl _ (show Blk _ w.heap.size 106 Tryz.zeroCells106 from by exact Bv) (by kernel_rfl) rfl (by kernel_rfl) ?_;intro KF))
  refine bodyPost_ret (Ij rfl _ _ w.heap.size _ _ _ _ (.bool false) (by rfl) (by rfl) KF Tryz.underlying106 rfl (by kernel_rfl)) rfl ?_
  obtain⟨F,o⟩:=Rw w.heap.size (w3.setRow w.heap.size Tryz.zeroCells106)
  refine⟨_,rfl,by exact Aa,_,by rw[q2,Bool.and_false],F,?_⟩
  rw[show Gd a b=Qp from by unfold Gd;rw[Q1.out,q2];rfl]
  exact o
 have Q2:=Lib.hid q2;clear q2
 go_upto_region 4 with(fail)
 obtain⟨V3,hV3⟩:∃V3,V3=w3.alloc (.cells #[.bool true,.bool true,.bool true,.bool true,.bool true,.bool true] 4):=⟨_,rfl⟩
 rw[<-hV3]
 have EV:Ext w3 V3:=by rw[hV3];exact(Ext.refl _).alloc _
 have U3:Blk V3 w3.heap.size 4 #[.bool true,.bool true,.bool true,.bool true,.bool true,.bool true]:=by rw[hV3];exact Blk.new _ _ _
 clear hV3
 have K3:=K3.ext EV;have E3':=E3.trans EV
 refine wp_region_held_drew (S:=fun _=>True) (by kernel_rfl) trivial (fun hHeld=>?_)
 refine wt 4 ?_
 (try simp only[Ab,Act.put])
 refine wt 6 ?_
 (try simp only[Ab,Act.put])
 refine wt 10 ?_
 (try simp only[Ab,Act.put])
 skip
 refine Va ⟨PkI a b,V3,_,7,(fun k=>match k with|0=>17|1=>18|2=>19|3=>20|4=>22|5=>24|_=>25),26,1000,(fun k=>.slice (some ⟨k,0,none⟩) 6 6),(fun _=>undef),(.cells #[.int .i64 0,.int .i64 0,.int .i64 0,.int .i64 0,.int .i64 0,.int .i64 0] 2),(.cells #[.int .i64 0,.int .i64 0,.int .i64 0,.int .i64 0,.int .i64 0,.int .i64 0] 2),false⟩ (fun _ _=>trivial) ⟨tX a b,rK a b,mZ a b,(by decide:∀k:Nat,k<7->(fun k=>match k with|0=>17|1=>18|2=>19|3=>20|4=>22|5=>24|_=>25) k≠26),(by decide:∀k:Nat,k<7->(fun k=>match k with|0=>17|1=>18|2=>19|3=>20|4=>22|5=>24|_=>25) k≠1000),(by decide:(26:Nat)≠1000)⟩ (fun k=>match k with|0=>0|1=>1|2=>2|3=>3|4=>5|5=>7|_=>8) 9 0 (fun j f _=>#[decide (0<j),decide (1<j),decide (2<j),decide (3<j),true,decide (4<j),true,decide (5<j),decide (6<j),f,true,false,false,false]) 3 rfl (Ext.drew (Ext.refl _)) (by kernel_rfl) (by rfl) ?_ ?_ ?_ ?_ (fun _ _ _ h=>by cases h) ?_ ?_ (fun h=>by cases h) ?_
 .
  intro j f g hj hg hne
  have hj:j<=7:=hj
  have hne:j<7\/f=false:=hne
  obtain rfl:=hg rfl
  have hj7:j=0\/j=1\/j=2\/j=3\/j=4\/j=5\/j=6\/j=7:=by omega
  rcases hj7 with rfl|rfl|rfl|rfl|rfl|rfl|rfl|rfl
  all_goals (cases f <;> (first|(simp at hne;done)|(refine Eq.trans (b:=true) ?_ rfl;kernel_rfl)))
 .
  intro j f g hj hg hne h
  have hj:j<=7:=hj
  have hne:j<7\/f=false:=hne
  obtain rfl:=hg rfl
  have h2:=congrArg List.isEmpty h
  have hj7:j=0\/j=1\/j=2\/j=3\/j=4\/j=5\/j=6\/j=7:=by omega
  rcases hj7 with rfl|rfl|rfl|rfl|rfl|rfl|rfl|rfl
  all_goals (cases f;all_goals (first|exact absurd h2 (by kernel_rfl:¬ _)|(simp at hne;done)|(exact Bool.noConfusion (h2.symm.trans (by kernel_rfl:_=false)))))
 .
  intro j f g hj
  have hj:j<7:=hj
  have hj7:j=0\/j=1\/j=2\/j=3\/j=4\/j=5\/j=6:=by omega
  rcases hj7 with rfl|rfl|rfl|rfl|rfl|rfl|rfl
  all_goals (cases f <;> rfl)
 .
  intro j g hj
  have hj:j<=7:=hj
  have hj7:j=0\/j=1\/j=2\/j=3\/j=4\/j=5\/j=6\/j=7:=by omega
  rcases hj7 with rfl|rfl|rfl|rfl|rfl|rfl|rfl|rfl
  all_goals rfl
 .
  intro j a9 V9 hj hx9 hk K hK
  have hj:j<7:=hj
  have hx9:Ext V3 V9:=hx9
  have ha21:=hk 21 (by decide:∀k:Nat,k<7->(fun k=>match k with|0=>17|1=>18|2=>19|3=>20|4=>22|5=>24|_=>25) k≠21) (by decide:(26:Nat)≠21) (by decide:(1000:Nat)≠21);have ha23:=hk 23 (by decide:∀k:Nat,k<7->(fun k=>match k with|0=>17|1=>18|2=>19|3=>20|4=>22|5=>24|_=>25) k≠23) (by decide:(26:Nat)≠23) (by decide:(1000:Nat)≠23)
  have ha21:a9.eval (.tmp 21)=.slice a0 n0 k0:=ha21;have ha23:a9.eval (.tmp 23)=.slice b0 m0 j0:=ha23
  have hb21:a9.tmps[21]?.getD undef=.slice a0 n0 k0:=by simpa[Act.eval] using ha21
  have hb23:a9.tmps[23]?.getD undef=.slice b0 m0 j0:=by simpa[Act.eval] using ha23
  clear hk ha21 ha23
  have hj7:j=0\/j=1\/j=2\/j=3\/j=4\/j=5\/j=6:=by omega
  rcases hj7 with rfl|rfl|rfl|rfl|rfl|rfl|rfl
  .
   refine wpOp_step rfl (fun K2 hK2=>?_)
   (try simp only[Ab])
   rw[if_pos (by rfl)]
   go_simp
   go_at_call 71
   refine(qV _).mono ?_
   rintro e v⟨_,rfl,hx,G,o⟩
   exact hK2 _ _ (hK _ _ _ (Ext.trans Aa hx) o)
  .
   refine wpOp_step rfl (fun K2 hK2=>?_)
   (try simp only[Ab])
   rw[if_pos (by rfl)]
   go_simp
   go_at_call 72
   refine(kP _).mono ?_
   rintro e v⟨_,rfl,hx,t0,t1,s0,s1,rfl,o0,o1,hd⟩
   have o:Dy V9.heap.size v _ Kw _:=⟨t0,t1,.slice none 0 0,.slice none 0 0,s0,s1,rfl,o0,o1,Af.nil _ _ _ _,Af.nil _ _ _ _,hd,rfl⟩
   exact hK2 _ _ (hK _ _ _ (Ext.trans Aa hx) o)
  .
   refine wpOp_step rfl (fun K2 hK2=>?_)
   (try simp only[Ab])
   rw[if_pos (by rfl)]
   go_simp
   go_at_call 73
   refine(Vl _ 2).mono ?_
   rintro e v⟨_,rfl,hx,t7,rfl,h9⟩
   have o:Cs V9.heap.size v _ (Dw 2) (Be [t7]):=⟨t7,rfl,h9,rfl⟩
   exact hK2 _ _ (hK _ _ _ (Ext.trans Aa hx) o)
  .
   refine wpOp_step rfl (fun K2 hK2=>?_)
   (try simp only[Ab])
   rw[if_pos (by rfl)]
   go_simp
   go_at_call 73
   refine(Vl _ 3).mono ?_
   rintro e v⟨_,rfl,hx,t7,rfl,h9⟩
   have o:Cs V9.heap.size v _ (Dw 3) (Be [t7]):=⟨t7,rfl,h9,rfl⟩
   exact hK2 _ _ (hK _ _ _ (Ext.trans Aa hx) o)
  .
   refine wpOp_step rfl (fun K2 hK2=>?_)
   (try simp only[Ab])
   rw[if_pos (by rfl)]
   go_simp
   (try rw[hb21])
   go_at_call 74
   refine(Yp (Gy.ext h1 (E3.trans (EV.trans hx9))) 4 e1).mono ?_
   rintro e v⟨_,rfl,hx,G,o⟩
   exact hK2 _ _ (hK _ _ _ (Ext.trans Aa hx) o)
  .
   refine wpOp_step rfl (fun K2 hK2=>?_)
   (try simp only[Ab])
   rw[if_pos (by rfl)]
   go_simp
   (try rw[hb23])
   go_at_call 74
   refine(Yp (Gy.ext h2 (E3.trans (EV.trans hx9))) 5 e2).mono ?_
   rintro e v⟨_,rfl,hx,G,o⟩
   exact hK2 _ _ (hK _ _ _ (Ext.trans Aa hx) o)
  refine wpOp_step rfl (fun K2 hK2=>?_)
  (try simp only[Ab])
  rw[if_pos (by rfl)]
  go_simp
  go_at_call 75
  refine(qO _).mono ?_
  rintro e v⟨_,rfl,hx,G,o⟩
  exact hK2 _ _ (hK _ _ _ (Ext.trans Aa hx) o)
 .
  intro a9 V9 K hK
  refine wpOp_step rfl (fun K2 hK2=>?_)
  (try simp only[Ab])
  rw[if_pos (by rfl)]
  have hm:∀W:World,(Instr.makeSlice 62 (.int .i64 6) (.int .i64 6)).run Tryz.prog W=.ok (.slice (some ⟨W.heap.size,0,none⟩) 6 6) (W.alloc (.cells #[.int .i64 0,.int .i64 0,.int .i64 0,.int .i64 0,.int .i64 0,.int .i64 0] 2)):=fun W=>by kernel_rfl
  go_simp
  (try rw[hm V9])
  (try go_simp)
  exact hK2 _ _ hK
 intro g a9 w9 V F bx by_ hg h
 obtain rfl:=hg rfl
 clear hg
 obtain⟨act,ext,parts,two,hx,-,-⟩:=h
 obtain⟨hx1,hx2,hx3⟩:=hx rfl
 have two:=Lib.hid two;have hx3:=Lib.hid hx3
 have X9:Ext w w9:=E3'.trans ext
 have K9:Blk w9 (w.heap.size) 106 Tryz.zeroCells106:=K3.ext ext
 have U9:Blk w9 (w3.heap.size) 4 #[.bool true,.bool true,.bool true,.bool true,.bool true,.bool true]:=U3.ext ext
 have z9:=X9.size;have y9:=ext.size
 simp only[Yo,Rv,Bool.and_false,Bool.and_true,if_true,if_false,Bool.false_eq_true] at act
 obtain⟨x0a,x0n,x0k,x1a,x1n,x1k,x2a,x2n,x2k,x3a,x3n,x3k,x4a,x4n,x4k,x5a,x5n,x5k,x6a,x6n,x6k,x7a,x7n,x7k,x8a,x8n,x8k,e0⟩:=Xv (parts 0 (by decide:(0:Nat)<7))
 obtain⟨y0a,y0n,y0k,y1a,y1n,y1k,y2a,y2n,y2k,y3a,y3n,y3k,e1⟩:=Uc (parts 1 (by decide:(1:Nat)<7))
 obtain⟨z0a,z0n,z0k,e2⟩:=Sw (parts 2 (by decide:(2:Nat)<7))
 obtain⟨u0a,u0n,u0k,e3⟩:=Sy (parts 3 (by decide:(3:Nat)<7))
 obtain⟨c0a,c0n,c0k,c1a,c1n,c1k,e4⟩:=Ut (parts 4 (by decide:(4:Nat)<7))
 obtain⟨d0a,d0n,d0k,d1a,d1n,d1k,e5⟩:=Ut (parts 5 (by decide:(5:Nat)<7))
 obtain⟨e0a,e0n,e0k,e1a,e1n,e1k,e6⟩:=lL (parts 6 (by decide:(6:Nat)<7))
 have P0:Io _ w9 (V 0) Gi (F 0):=parts 0 (by decide:(0:Nat)<7);have P1:Dy _ w9 (V 1) Kw (F 1):=parts 1 (by decide:(1:Nat)<7);have P2:Cs _ w9 (V 2) (Dw 2) (F 2):=parts 2 (by decide:(2:Nat)<7);have P3:Cs _ w9 (V 3) (Dw 3) (F 3):=parts 3 (by decide:(3:Nat)<7);have P4:Db _ w9 (V 4) (Ai 4 a) (F 4):=parts 4 (by decide:(4:Nat)<7);have P5:Db _ w9 (V 5) (Ai 5 b) (F 5):=parts 5 (by decide:(5:Nat)<7);have P6:Im _ w9 (V 6) ⟨[],[]⟩ (F 6):=parts 6 (by decide:(6:Nat)<7)
 have low:=fun k hk i hi=>(mZ a b k _ _ _ _ (parts k hk) i hi).1
 clear parts hx
 rw[e0] at act P0
 rw[e1] at act P1
 rw[e2] at act P2
 rw[e3] at act P3
 rw[e4] at act P4
 rw[e5] at act P5
 rw[e6] at act P6
 clear e0 e1 e2 e3 e4 e5 e6
 subst act
 simp only[Act.put,Gp]
 refine wpAnyH_take (i:=11) (v:=.agg (([.slice x0a x0n x0k,.slice x1a x1n x1k,.slice x2a x2n x2k,.slice x3a x3n x3k,.int .i64 0,.int .i64 0,.int .i64 0,.slice x4a x4n x4k,.int .i64 0,.int .i64 0,.int .i64 0,.slice x5a x5n x5k,.bool false,.int .i64 0,.int .i64 0,.slice x6a x6n x6k,.slice x7a x7n x7k,.int .i64 0,.slice x8a x8n x8k]:List Value)++(([.slice y0a y0n y0k,.slice y1a y1n y1k,.int .i64 0,.int .i64 0,.slice y2a y2n y2k,.slice y3a y3n y3k,.int .i64 0,.int .i64 0,.int .i64 0,.int .i64 0,.int .i64 0,.int .i64 0]:List Value)++(([.int .i64 2,.int .i64 0,.int .i64 0,.int .i64 0,.int .i64 0,.int .i64 0,.int .i64 0,.slice z0a z0n z0k,.bool false,.int .i64 0,.int .i64 0,.int .i64 0,.int .i64 0,.int .i64 0,.int .i64 0]:List Value)++(([.int .i64 3,.int .i64 0,.int .i64 0,.int .i64 0,.int .i64 0,.int .i64 0,.int .i64 0,.slice u0a u0n u0k,.bool false,.int .i64 0,.int .i64 0,.int .i64 0,.int .i64 0,.int .i64 0,.int .i64 0]:List Value)++(([.int .i64 (Ai 4 a).Id,.slice c0a c0n c0k,.slice c1a c1n c1k,.int .i64 (Ai 4 a).Last]:List Value)++(([.int .i64 (Ai 5 b).Id,.slice d0a d0n d0k,.slice d1a d1n d1k,.int .i64 (Ai 5 b).Last]:List Value)++(([.slice e0a e0n e0k,.slice e1a e1n e1k]:List Value)++(([.slice (some ⟨bx,0,none⟩) 6 6]:List Value)++(([.slice (some ⟨w3.heap.size,0,none⟩) 6 6]:List Value)++([]:List Value)))))))))).toArray) rfl (by kernel_rfl) (by kernel_rfl) (by kernel_rfl) (fun _ _ _ h=>h) (Or.inl ⟨by rfl,?_⟩) (by first|assumption|exact⟨B6,B7⟩) ?_
 focus(intro w hSw;kernel_rfl)
 simp only[Act.put,Gp]
 refine wr1 12 fun Kz hKz=>?_
 (try simp only[Ab])
 rw[if_pos (by rfl)]
 refine wp_store_row 106 (.tmp 4) (.tmp 28) (by rfl) _ (([.slice x0a x0n x0k,.slice x1a x1n x1k,.slice x2a x2n x2k,.slice x3a x3n x3k,.int .i64 0,.int .i64 0,.int .i64 0,.slice x4a x4n x4k,.int .i64 0,.int .i64 0,.int .i64 0,.slice x5a x5n x5k,.bool false,.int .i64 0,.int .i64 0,.slice x6a x6n x6k,.slice x7a x7n x7k,.int .i64 0,.slice x8a x8n x8k]:List Value)++(([.slice y0a y0n y0k,.slice y1a y1n y1k,.int .i64 0,.int .i64 0,.slice y2a y2n y2k,.slice y3a y3n y3k,.int .i64 0,.int .i64 0,.int .i64 0,.int .i64 0,.int .i64 0,.int .i64 0]:List Value)++(([.int .i64 2,.int .i64 0,.int .i64 0,.int .i64 0,.int .i64 0,.int .i64 0,.int .i64 0,.slice z0a z0n z0k,.bool false,.int .i64 0,.int .i64 0,.int .i64 0,.int .i64 0,.int .i64 0,.int .i64 0]:List Value)++(([.int .i64 3,.int .i64 0,.int .i64 0,.int .i64 0,.int .i64 0,.int .i64 0,.int .i64 0,.slice u0a u0n u0k,.bool false,.int .i64 0,.int .i64 0,.int .i64 0,.int .i64 0,.int .i64 0,.int .i64 0]:List Value)++(([.int .i64 (Ai 4 a).Id,.slice c0a c0n c0k,.slice c1a c1n c1k,.int .i64 (Ai 4 a).Last]:List Value)++(([.int .i64 (Ai 5 b).Id,.slice d0a d0n d0k,.slice d1a d1n d1k,.int .i64 (Ai 5 b).Last]:List Value)++(([.slice e0a e0n e0k,.slice e1a e1n e1k]:List Value)++(([.slice (some ⟨bx,0,none⟩) 6 6]:List Value)++(([.slice (some ⟨w3.heap.size,0,none⟩) 6 6]:List Value)++([]:List Value)))))))))).toArray (by rfl) (by kernel_rfl) 106 _ (show Blk _ w.heap.size 106 Tryz.zeroCells106 from by exact Bv) (by kernel_rfl) rfl (by kernel_rfl) ?_
 refine hKz.out _ _ (by(try dsimp only);first|done|exact trivial) (fun hHeld=>?_)
 clear hKz Kz
 (try simp only[Ab,Act.put])
 refine wt 13 ?_
 (try simp only[Ab,Act.put])
 refine wpAnyH_done (by kernel_rfl) ?_ _
 go_wp2_with fail
 refine bodyPost_ret (v:=.tuple #[_,.bool true]) (Ij rfl _ _ w.heap.size _ _ _ _ (.bool true) (by rfl) (by rfl) (Blk.row K9 _) Tryz.underlying106 rfl (by kernel_rfl)) rfl ?_
 refine⟨_,rfl,by exact Aa,_,by rw[Q1.out,Q2.out];rfl,?_⟩
 rw[show Gd a b=Hb a b from by unfold Gd;rw[Q1.out,Q2.out];rfl]
 have ox:Af V3.heap.size 2 1 w9 (.slice (some ⟨bx,0,none⟩) 6 6) (List.replicate 6 0):=Own.of_blk (cap:=6) (cur:=#[.int .i64 0,.int .i64 0,.int .i64 0,.int .i64 0,.int .i64 0,.int .i64 0]) hx1 hx2 rfl rfl (Nat.le_refl _) dC (fun j hj=>by simp[List.replicate])
 have ou:Own (w.heap.size+1) 4 1 w9 (.slice (some ⟨w3.heap.size,0,none⟩) 6 6) ((List.replicate 6 true).map .bool):=Own.of_blk (cap:=6) (cur:=#[.bool true,.bool true,.bool true,.bool true,.bool true,.bool true]) U9 (by have:=E2.size;have:=x3.size;have:=x2.size;omega) rfl rfl (Nat.le_refl _) dC (fun j hj=>by simp[List.replicate])
 have lw:w.heap.size<V3.heap.size:=by have:=x2.size;have:=x3.size;have:=EV.size;omega
 have l3:w3.heap.size<V3.heap.size:=U3.lt
 have c:∀B,w.heap.size<B->∀cs,Chg B w9 (w9.setRow w.heap.size cs):=fun B hB cs=>(Chg.refl _ _).setRow (Or.inl hB) _
 refine⟨_,[.slice x0a x0n x0k,.slice x1a x1n x1k,.slice x2a x2n x2k,.slice x3a x3n x3k,.int .i64 0,.int .i64 0,.int .i64 0,.slice x4a x4n x4k,.int .i64 0,.int .i64 0,.int .i64 0,.slice x5a x5n x5k,.bool false,.int .i64 0,.int .i64 0,.slice x6a x6n x6k,.slice x7a x7n x7k,.int .i64 0,.slice x8a x8n x8k],[.slice y0a y0n y0k,.slice y1a y1n y1k,.int .i64 0,.int .i64 0,.slice y2a y2n y2k,.slice y3a y3n y3k,.int .i64 0,.int .i64 0,.int .i64 0,.int .i64 0,.int .i64 0,.int .i64 0],[.int .i64 2,.int .i64 0,.int .i64 0,.int .i64 0,.int .i64 0,.int .i64 0,.int .i64 0,.slice z0a z0n z0k,.bool false,.int .i64 0,.int .i64 0,.int .i64 0,.int .i64 0,.int .i64 0,.int .i64 0],[.int .i64 3,.int .i64 0,.int .i64 0,.int .i64 0,.int .i64 0,.int .i64 0,.int .i64 0,.slice u0a u0n u0k,.bool false,.int .i64 0,.int .i64 0,.int .i64 0,.int .i64 0,.int .i64 0,.int .i64 0],[.int .i64 (Ai 4 a).Id,.slice c0a c0n c0k,.slice c1a c1n c1k,.int .i64 (Ai 4 a).Last],[.int .i64 (Ai 5 b).Id,.slice d0a d0n d0k,.slice d1a d1n d1k,.int .i64 (Ai 5 b).Last],[.slice e0a e0n e0k,.slice e1a e1n e1k],.slice (some ⟨bx,0,none⟩) 6 6,.slice (some ⟨w3.heap.size,0,none⟩) 6 6,F 0,F 1,F 2,F 3,F 4,F 5,F 6,Be [.slice (some ⟨bx,0,none⟩) 6 6],Be [.slice (some ⟨w3.heap.size,0,none⟩) 6 6],rfl,rfl,rfl,rfl,rfl,rfl,rfl,rfl,(Io.keep P0 (c _ lw _)).mono oM,(Dy.keep P1 (c _ lw _)).mono oM,(Cs.keep P2 (c _ lw _)).mono oM,(Cs.keep P3 (c _ lw _)).mono oM,(Db.keep P4 (c _ lw _)).mono oM,(Db.keep P5 (c _ lw _)).mono oM,(Im.keep P6 (c _ lw _)).mono oM,⟨Af.mono (Af.keep ox (c _ lw _)) oM,rfl⟩,⟨Own.mono (Own.keep ou (c _ oM _)) oM,rfl⟩,pw9 two.out (fun k hk i h1 h2=>?_) (fun k hk i h1 h2=>?_) (fun i h1 h2=>?_),rfl⟩
 .
  have h2:i=bx:=by simpa[Be,Value.ownBlock] using h2
  subst h2;exact hx3.out k hk h1
 .
  have h2:i=w3.heap.size:=by simpa[Be,Value.ownBlock] using h2
  have:=low k hk i h1;omega
 have h1:i=bx:=by simpa[Be,Value.ownBlock] using h1
 have h2:i=w3.heap.size:=by simpa[Be,Value.ownBlock] using h2
 omega
end Go.Proofs.YtkpmbocbbgocbaaGreat
