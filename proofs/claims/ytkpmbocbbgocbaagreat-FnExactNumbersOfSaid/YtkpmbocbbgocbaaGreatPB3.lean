/- KL KY. -/
import Derived.Test.YtkpmbocbbgocbaaGreatPB2
set_option linter.unusedSimpArgs false
set_option linter.unusedVariables false
set_option maxHeartbeats 8000000
set_option maxRecDepth 100000
namespace Go.Proofs.YtkpmbocbbgocbaaGreat
open Go.RowKit Go.G8
def IU(w:World)(v:Value)(d:Bh):Prop:=∃p0:List Value,∃p1:List Value,∃p2:List Value,∃p4:List Value,∃t5:Value,∃t7:Value,v=.agg (p0++(p1++(p2++([Value.bool d.More]++(p4++([t5]++([Value.int .i64 d.Durable]++([t7]++[])))))))).toArray/\p0.length=4/\p1.length=4/\p2.length=4/\p4.length=3/\SQ w (.agg p0.toArray) d.Two/\IM w (.agg p1.toArray) d.Head/\IM w (.agg p2.toArray) d.Next/\OK w (.agg p4.toArray) d.Book/\JE w t5 d.Seen/\PI w t7 d.Owe
def OO(B:Nat)(w:World)(v:Value)(d:Bh)(F:List Nat):Prop:=∃p0:List Value,∃p1:List Value,∃p2:List Value,∃p4:List Value,∃t5:Value,∃t7:Value,∃F0:List Nat,∃F1:List Nat,∃F2:List Nat,∃F4:List Nat,∃F5:List Nat,∃F7:List Nat,v=.agg (p0++(p1++(p2++([Value.bool d.More]++(p4++([t5]++([Value.int .i64 d.Durable]++([t7]++[])))))))).toArray/\p0.length=4/\p1.length=4/\p2.length=4/\p4.length=3/\OM B w (.agg p0.toArray) d.Two F0/\JY B w (.agg p1.toArray) d.Head F1/\JY B w (.agg p2.toArray) d.Next F2/\LH B w (.agg p4.toArray) d.Book F4/\IG B w t5 d.Seen F5/\LC B w t7 d.Owe F7/\[F0,F1,F2,F4,F5,F7].Pairwise (fun a b=>∀k,k ∈ a->k ∈ b->False)/\F=F0++F1++F2++F4++F5++F7
def SE(d:Bh):Nat:=SC d.Two+KP d.Head+KP d.Next+OS d.Book+PH d.Seen+WE d.Owe
section
variable {B B':Nat} {w w':World} {v:Value} {d:Bh} {F:List Nat}
theorem IU.ext(h:IU w v d)(x:Ext w w'):IU w' v d:=by
 obtain⟨p0,p1,p2,p4,t5,t7,e,l0,l1,l2,l4,g0,g1,g2,g4,g5,g7⟩:=h
 exact⟨p0,p1,p2,p4,t5,t7,e,l0,l1,l2,l4,g0.ext x,g1.ext x,g2.ext x,g4.ext x,g5.ext x,g7.ext x⟩
theorem OO.rd(h:OO B w v d F):IU w v d:=by
 obtain⟨p0,p1,p2,p4,t5,t7,F0,F1,F2,F4,F5,F7,e,l0,l1,l2,l4,g0,g1,g2,g4,g5,g7,hdj,hF⟩:=h
 exact⟨p0,p1,p2,p4,t5,t7,e,l0,l1,l2,l4,g0.rd,g1.rd,g2.rd,g4.rd,g5.rd,g7.rd⟩
theorem OO.keep(h:OO B w v d F)(x:Chg B w w'):OO B w' v d F:=by
 obtain⟨p0,p1,p2,p4,t5,t7,F0,F1,F2,F4,F5,F7,e,l0,l1,l2,l4,g0,g1,g2,g4,g5,g7,hdj,hF⟩:=h
 exact⟨p0,p1,p2,p4,t5,t7,F0,F1,F2,F4,F5,F7,e,l0,l1,l2,l4,g0.keep x,g1.keep x,g2.keep x,g4.keep x,g5.keep x,g7.keep x,hdj,hF⟩
theorem OO.mono(h:OO B w v d F)(x:B'<=B):OO B' w v d F:=by
 obtain⟨p0,p1,p2,p4,t5,t7,F0,F1,F2,F4,F5,F7,e,l0,l1,l2,l4,g0,g1,g2,g4,g5,g7,hdj,hF⟩:=h
 exact⟨p0,p1,p2,p4,t5,t7,F0,F1,F2,F4,F5,F7,e,l0,l1,l2,l4,g0.mono x,g1.mono x,g2.mono x,g4.mono x,g5.mono x,g7.mono x,hdj,hF⟩
theorem OO.low(h:OO B w v d F):∀k,k ∈ F->B<=k/\k<w.heap.size:=by
 obtain⟨p0,p1,p2,p4,t5,t7,F0,F1,F2,F4,F5,F7,e,l0,l1,l2,l4,g0,g1,g2,g4,g5,g7,hdj,rfl⟩:=h
 intro k hk
 simp only[List.mem_append] at hk
 rcases hk with((((hk|hk)|hk)|hk)|hk)|hk
 .
  exact g0.low k hk
 .
  exact g1.low k hk
 .
  exact g2.low k hk
 .
  exact g4.low k hk
 .
  exact g5.low k hk
 exact g7.low k hk
theorem IU.cells(h:IU w v d):∃L:List Value,v=.agg L.toArray/\L.length=19/\∀x,x ∈ L->x.oneCell'=true:=by
 obtain⟨p0,p1,p2,p4,t5,t7,rfl,l0,l1,l2,l4,g0,g1,g2,g4,g5,g7⟩:=h
 refine⟨_,rfl,by simp[l0,l1,l2,l4],?_⟩
 intro x hx
 simp only[List.mem_append,List.mem_cons,List.not_mem_nil,or_false] at hx
 rcases hx with hx|hx|hx|rfl|hx|rfl|rfl|rfl
 .
  obtain⟨L,e,-,h1⟩:=g0.cells;rw[wQ e] at hx;exact h1 x hx
 .
  obtain⟨L,e,-,h1⟩:=g1.cells;rw[wQ e] at hx;exact h1 x hx
 .
  obtain⟨L,e,-,h1⟩:=g2.cells;rw[wQ e] at hx;exact h1 x hx
 .
  rfl
 .
  obtain⟨L,e,-,h1⟩:=g4.cells;rw[wQ e] at hx;exact h1 x hx
 .
  obtain⟨a,n,k,rfl⟩:=g5.shape;rfl
 .
  rfl
 obtain⟨a,n,k,rfl⟩:=g7.shape;rfl
theorem cL1(h:IU w v d){left:Int}(h0:0<=left)(h1:left<=1048576):Calls Tryz.prog 33 #[v,.int .i64 left] w (Ret w fun v' _=>SzR left (SE d) v'):=by
 obtain⟨p0,p1,p2,p4,t5,t7,rfl,l0,l1,l2,l4,g0,g1,g2,g4,g5,g7⟩:=h
 unfold SE
 obtain⟨L,hL⟩:∃L:List Value,L=(p0++(p1++(p2++([Value.bool d.More]++(p4++([t5]++([Value.int .i64 d.Durable]++([t7]++[])))))))):=⟨_,rfl⟩
 rw[<-hL]
 obtain⟨W0,hW0⟩:∃W0,W0=w.alloc (.cells L.toArray 36):=⟨_,rfl⟩
 have E0:Ext w W0:=by rw[hW0];exact(Ext.refl _).alloc _
 have r:W0.rangeAt w.heap.size 0 L:=by rw[hW0];exact(Bk.new _ _ _).ra
 rw[hL] at r;clear hL
 obtain⟨R0,r⟩:=An (m:=4) r l0 rfl
 obtain⟨R1,r⟩:=An (m:=8) r l1 rfl
 obtain⟨R2,r⟩:=An (m:=12) r l2 rfl
 obtain⟨R3,r⟩:=An (m:=13) r rfl rfl
 have R3:=Az R3
 obtain⟨R4,r⟩:=An (m:=16) r l4 rfl
 obtain⟨R5,r⟩:=An (m:=17) r rfl rfl
 have R5:=Az R5
 obtain⟨R6,r⟩:=An (m:=18) r rfl rfl
 have R6:=Az R6
 obtain⟨R7,r⟩:=An (m:=19) r rfl rfl
 have R7:=Az R7
 clear r
 go_enter Tryz.func33,Tryz.ntmps33
 go_upto_region 1 with(fail)
 rw[<-hW0]
 clear hW0
 have X0:Ext W0 W0:=Ext.refl _
 go_wp2_with (first|(refine wpList_load_mid rfl 27 _ rfl (w.heap.size) 0 (by rfl) p0 _ (As R0 Ag) Tryz.underlying27 rfl (by rw[l0];kernel_rfl) ?_))
 refine(cK0 (g0.ext (E0.trans X0)) (left:=left) oM oM).mono ?_
 rintro e w1⟨v1,rfl,x1,hv⟩
 have X1:=X0.trans x1
 rcases hv with⟨rfl,hq1⟩|⟨rfl,hq1⟩
 .
  go_wp2_with fail
  go_ret
  exact⟨_,rfl,E0.trans X1,.inl ⟨rfl,by omega⟩⟩
 obtain⟨z1,hz1⟩:∃z,z=left - (SC d.Two:Nat):=⟨_,rfl⟩
 rw[<-hz1]
 have hy1:=Int.le_of_eq hz1;have hw1:=Int.le_of_eq hz1.symm;clear hz1
 have hd1:decide (z1<0)=false:=by simp;omega
 go_wp2_with (first|(refine wpList_load_mid rfl 30 _ rfl (w.heap.size) 4 (by rfl) p1 _ (As R1 Ag) Tryz.underlying30 rfl (by rw[l1];kernel_rfl) ?_))
 refine(bB4 (g1.ext (E0.trans X1)) (left:=z1) oM oM).mono ?_
 rintro e w2⟨v2,rfl,x2,hv⟩
 have X2:=X1.trans x2
 rcases hv with⟨rfl,hq2⟩|⟨rfl,hq2⟩
 .
  go_wp2_with fail
  go_ret
  exact⟨_,rfl,E0.trans X2,.inl ⟨rfl,by omega⟩⟩
 obtain⟨z2,hz2⟩:∃z,z=z1 - (KP d.Head:Nat):=⟨_,rfl⟩
 rw[<-hz2]
 have hy2:=Int.le_of_eq hz2;have hw2:=Int.le_of_eq hz2.symm;clear hz2
 have hd2:decide (z2<0)=false:=by simp;omega
 go_wp2_with (first|(refine wpList_load_mid rfl 30 _ rfl (w.heap.size) 8 (by rfl) p2 _ (As R2 Ag) Tryz.underlying30 rfl (by rw[l2];kernel_rfl) ?_))
 refine(bB4 (g2.ext (E0.trans X2)) (left:=z2) oM oM).mono ?_
 rintro e w3⟨v3,rfl,x3,hv⟩
 have X3:=X2.trans x3
 rcases hv with⟨rfl,hq3⟩|⟨rfl,hq3⟩
 .
  go_wp2_with fail
  go_ret
  exact⟨_,rfl,E0.trans X3,.inl ⟨rfl,by omega⟩⟩
 obtain⟨z3,hz3⟩:∃z,z=z2 - (KP d.Next:Nat):=⟨_,rfl⟩
 rw[<-hz3]
 have hy3:=Int.le_of_eq hz3;have hw3:=Int.le_of_eq hz3.symm;clear hz3
 have hd3:decide (z3<0)=false:=by simp;omega
 go_wp2_with (first|(refine wpList_load_mid rfl 33 _ rfl (w.heap.size) 13 (by rfl) p4 _ (As R4 Ag) Tryz.underlying33 rfl (by rw[l4];kernel_rfl) ?_))
 refine(cG0 (g4.ext (E0.trans X3)) (left:=z3) oM oM).mono ?_
 rintro e w4⟨v4,rfl,x4,hv⟩
 have X4:=X3.trans x4
 rcases hv with⟨rfl,hq4⟩|⟨rfl,hq4⟩
 .
  go_wp2_with fail
  go_ret
  exact⟨_,rfl,E0.trans X4,.inl ⟨rfl,by omega⟩⟩
 obtain⟨z4,hz4⟩:∃z,z=z3 - (OS d.Book:Nat):=⟨_,rfl⟩
 rw[<-hz4]
 have hy4:=Int.le_of_eq hz4;have hw4:=Int.le_of_eq hz4.symm;clear hz4
 have hd4:decide (z4<0)=false:=by simp;omega
 have cq5:=X4.cell R5
 go_wp2_with fail
 clear cq5
 refine(aQ2 (g5.ext (E0.trans X4)) (left:=z4) oM oM).mono ?_
 rintro e w5⟨v5,rfl,x5,hv⟩
 have X5:=X4.trans x5
 rcases hv with⟨rfl,hq5⟩|⟨rfl,hq5⟩
 .
  go_wp2_with fail
  go_ret
  exact⟨_,rfl,E0.trans X5,.inl ⟨rfl,by omega⟩⟩
 obtain⟨z5,hz5⟩:∃z,z=z4 - (PH d.Seen:Nat):=⟨_,rfl⟩
 rw[<-hz5]
 have hy5:=Int.le_of_eq hz5;have hw5:=Int.le_of_eq hz5.symm;clear hz5
 have hd5:decide (z5<0)=false:=by simp;omega
 have cq7:=X5.cell R7
 go_wp2_with fail
 clear cq7
 refine(cF2 (g7.ext (E0.trans X5)) (left:=z5) oM oM).mono ?_
 rintro e w6⟨v6,rfl,x6,hv⟩
 have X6:=X5.trans x6
 rcases hv with⟨rfl,hq6⟩|⟨rfl,hq6⟩
 .
  go_wp2_with fail
  go_ret
  exact⟨_,rfl,E0.trans X6,.inl ⟨rfl,by omega⟩⟩
 obtain⟨z6,hz6⟩:∃z,z=z5 - (WE d.Owe:Nat):=⟨_,rfl⟩
 rw[<-hz6]
 have hy6:=Int.le_of_eq hz6;have hw6:=Int.le_of_eq hz6.symm;clear hz6
 have hd6:decide (z6<0)=false:=by simp;omega
 go_wp2_with fail
 go_ret
 exact⟨_,rfl,E0.trans X6,.inr ⟨congrArg (Value.int .i64) oM,by omega⟩⟩
theorem cL2{u:Value}(h:IU w v d)(k:IU w u d):Calls Tryz.prog 52 #[v,u] w (Fz w (.bool true)):=by
 obtain⟨p0,p1,p2,p4,t5,t7,rfl,l0,l1,l2,l4,g0,g1,g2,g4,g5,g7⟩:=h
 obtain⟨r0,r1,r2,r4,s5,s7,rfl,m0,m1,m2,m4,f0,f1,f2,f4,f5,f7⟩:=k
 obtain⟨L,hL⟩:∃L:List Value,L=(p0++(p1++(p2++([Value.bool d.More]++(p4++([t5]++([Value.int .i64 d.Durable]++([t7]++[])))))))):=⟨_,rfl⟩
 obtain⟨M,hM⟩:∃L:List Value,L=(r0++(r1++(r2++([Value.bool d.More]++(r4++([s5]++([Value.int .i64 d.Durable]++([s7]++[])))))))):=⟨_,rfl⟩
 rw[<-hL,<-hM]
 obtain⟨W0,hW0⟩:∃W0,W0=(w.alloc (.cells L.toArray 81)).alloc (.cells M.toArray 81):=⟨_,rfl⟩
 have E0:Ext w W0:=by rw[hW0];exact((Ext.refl _).alloc _).alloc _
 have r:W0.rangeAt w.heap.size 0 L:=by rw[hW0];exact Bk.ra (Bk.alloc (Bk.new _ _ _) _)
 rw[hL] at r;clear hL
 obtain⟨R0,r⟩:=An (m:=4) r l0 rfl
 obtain⟨R1,r⟩:=An (m:=8) r l1 rfl
 obtain⟨R2,r⟩:=An (m:=12) r l2 rfl
 obtain⟨R3,r⟩:=An (m:=13) r rfl rfl
 have R3:=Az R3
 obtain⟨R4,r⟩:=An (m:=16) r l4 rfl
 obtain⟨R5,r⟩:=An (m:=17) r rfl rfl
 have R5:=Az R5
 obtain⟨R6,r⟩:=An (m:=18) r rfl rfl
 have R6:=Az R6
 obtain⟨R7,r⟩:=An (m:=19) r rfl rfl
 have R7:=Az R7
 clear r
 have r:W0.rangeAt (w.heap.size+1) 0 M:=by rw[hW0];exact Bk.ra (Blk.new2 _ _ _ _)
 rw[hM] at r;clear hM
 obtain⟨S0,r⟩:=An (m:=4) r m0 rfl
 obtain⟨S1,r⟩:=An (m:=8) r m1 rfl
 obtain⟨S2,r⟩:=An (m:=12) r m2 rfl
 obtain⟨S3,r⟩:=An (m:=13) r rfl rfl
 have S3:=Az S3
 obtain⟨S4,r⟩:=An (m:=16) r m4 rfl
 obtain⟨S5,r⟩:=An (m:=17) r rfl rfl
 have S5:=Az S5
 obtain⟨S6,r⟩:=An (m:=18) r rfl rfl
 have S6:=Az S6
 obtain⟨S7,r⟩:=An (m:=19) r rfl rfl
 have S7:=Az S7
 clear r
 go_enter Tryz.func52,Tryz.ntmps52
 go_upto_region 1 with(fail)
 rw[<-hW0]
 clear hW0
 have X0:Ext W0 W0:=Ext.refl _
 go_wp2_with (first|(refine wpList_load_mid rfl 72 _ rfl (w.heap.size) 0 (by rfl) p0 _ (As R0 Ag) Tryz.underlying72 rfl (by rw[l0];kernel_rfl) ?_)|(refine wpList_load_mid rfl 72 _ rfl (w.heap.size+1) 0 (by rfl) r0 _ (As S0 Ag) Tryz.underlying72 rfl (by rw[m0];kernel_rfl) ?_))
 refine(cK1 (g0.ext (E0.trans X0)) (f0.ext (E0.trans X0))).mono ?_
 rintro e w1⟨rfl,x1⟩
 have X1:=X0.trans x1
 go_wp2_with (first|(refine wpList_load_mid rfl 75 _ rfl (w.heap.size) 4 (by rfl) p1 _ (As R1 Ag) Tryz.underlying75 rfl (by rw[l1];kernel_rfl) ?_)|(refine wpList_load_mid rfl 75 _ rfl (w.heap.size+1) 4 (by rfl) r1 _ (As S1 Ag) Tryz.underlying75 rfl (by rw[m1];kernel_rfl) ?_))
 refine(bB5 (g1.ext (E0.trans X1)) (f1.ext (E0.trans X1))).mono ?_
 rintro e w2⟨rfl,x2⟩
 have X2:=X1.trans x2
 go_wp2_with (first|(refine wpList_load_mid rfl 75 _ rfl (w.heap.size) 8 (by rfl) p2 _ (As R2 Ag) Tryz.underlying75 rfl (by rw[l2];kernel_rfl) ?_)|(refine wpList_load_mid rfl 75 _ rfl (w.heap.size+1) 8 (by rfl) r2 _ (As S2 Ag) Tryz.underlying75 rfl (by rw[m2];kernel_rfl) ?_))
 refine(bB5 (g2.ext (E0.trans X2)) (f2.ext (E0.trans X2))).mono ?_
 rintro e w3⟨rfl,x3⟩
 have X3:=X2.trans x3
 have ca3:=X3.cell R3;have cb3:=X3.cell S3
 go_wp2_with (first|(refine wpList_load_mid rfl 78 _ rfl (w.heap.size) 13 (by rfl) p4 _ (As R4 Ag) Tryz.underlying78 rfl (by rw[l4];kernel_rfl) ?_)|(refine wpList_load_mid rfl 78 _ rfl (w.heap.size+1) 13 (by rfl) r4 _ (As S4 Ag) Tryz.underlying78 rfl (by rw[m4];kernel_rfl) ?_))
 refine(cG1 (g4.ext (E0.trans X3)) (f4.ext (E0.trans X3))).mono ?_
 rintro e w4⟨rfl,x4⟩
 have X4:=X3.trans x4
 clear ca3 cb3
 have ca5:=X4.cell R5;have cb5:=X4.cell S5
 go_wp2_with fail
 refine(aQ3 (g5.ext (E0.trans X4)) (f5.ext (E0.trans X4))).mono ?_
 rintro e w5⟨rfl,x5⟩
 have X5:=X4.trans x5
 clear ca5 cb5
 have ca6:=X5.cell R6;have cb6:=X5.cell S6
 have ca7:=X5.cell R7;have cb7:=X5.cell S7
 go_wp2_with fail
 refine(cF3 (g7.ext (E0.trans X5)) (f7.ext (E0.trans X5))).mono ?_
 rintro e w6⟨rfl,x6⟩
 have X6:=X5.trans x6
 clear ca6 cb6 ca7 cb7
 go_wp2_with fail
 go_ret
 exact⟨rfl,E0.trans X6⟩
theorem cL3(h:IU w v d)(hs:SE d<=1048576):Calls Tryz.prog 43 #[v] w (Ret w fun v' w'=>∃F,OO w.heap.size w' v' d F):=by
 obtain⟨p0,p1,p2,p4,t5,t7,rfl,l0,l1,l2,l4,g0,g1,g2,g4,g5,g7⟩:=h
 unfold SE at hs
 have hzero:=(zero_of_info (P:=Tryz.prog) (t:=81) (v:=.agg #[.slice none 0 0,.slice none 0 0,.slice none 0 0,.slice none 0 0,.int .i64 0,.int .i64 0,.int .i64 0,.slice none 0 0,.int .i64 0,.int .i64 0,.int .i64 0,.slice none 0 0,.bool false,.int .i64 0,.int .i64 0,.slice none 0 0,.slice none 0 0,.int .i64 0,.slice none 0 0]) (n:=19) (by kernel_rfl)).1
 obtain⟨Z0,hZ⟩:∃Z:List Value,Z=[Value.slice none 0 0,Value.slice none 0 0,Value.slice none 0 0,Value.slice none 0 0,Value.int .i64 0,Value.int .i64 0,Value.int .i64 0,Value.slice none 0 0,Value.int .i64 0,Value.int .i64 0,Value.int .i64 0,Value.slice none 0 0,Value.bool false,Value.int .i64 0,Value.int .i64 0,Value.slice none 0 0,Value.slice none 0 0,Value.int .i64 0,Value.slice none 0 0]:=⟨_,rfl⟩
 have n0:Z0.length=19:=by rw[hZ];rfl
 obtain⟨L,hL⟩:∃L:List Value,L=(p0++(p1++(p2++([Value.bool d.More]++(p4++([t5]++([Value.int .i64 d.Durable]++([t7]++[])))))))):=⟨_,rfl⟩
 rw[<-hL]
 obtain⟨W0,hW0⟩:∃W0,W0=((w.alloc (.cells L.toArray 36)).alloc (.cells #[.slice none 0 0,.slice none 0 0,.slice none 0 0,.slice none 0 0,.int .i64 0,.int .i64 0,.int .i64 0,.slice none 0 0,.int .i64 0,.int .i64 0,.int .i64 0,.slice none 0 0,.bool false,.int .i64 0,.int .i64 0,.slice none 0 0,.slice none 0 0,.int .i64 0,.slice none 0 0] 81)).alloc (.cells #[.slice none 0 0,.slice none 0 0,.slice none 0 0,.slice none 0 0,.int .i64 0,.int .i64 0,.int .i64 0,.slice none 0 0,.int .i64 0,.int .i64 0,.int .i64 0,.slice none 0 0,.bool false,.int .i64 0,.int .i64 0,.slice none 0 0,.slice none 0 0,.int .i64 0,.slice none 0 0] 81):=⟨_,rfl⟩
 have X0:Ext w W0:=by rw[hW0];exact(((Ext.refl _).alloc _).alloc _).alloc _
 have r:W0.rangeAt w.heap.size 0 L:=by rw[hW0];exact Bk.ra (Bk.alloc (Bk.alloc (Bk.new _ _ _) _) _)
 rw[hL] at r;clear hL
 obtain⟨R0,r⟩:=An (m:=4) r l0 rfl
 obtain⟨R1,r⟩:=An (m:=8) r l1 rfl
 obtain⟨R2,r⟩:=An (m:=12) r l2 rfl
 obtain⟨R3,r⟩:=An (m:=13) r rfl rfl
 have R3:=Az R3
 obtain⟨R4,r⟩:=An (m:=16) r l4 rfl
 obtain⟨R5,r⟩:=An (m:=17) r rfl rfl
 have R5:=Az R5
 obtain⟨R6,r⟩:=An (m:=18) r rfl rfl
 have R6:=Az R6
 obtain⟨R7,r⟩:=An (m:=19) r rfl rfl
 have R7:=Az R7
 clear r
 have BR:Bk W0 (w.heap.size+1) 81 Z0:=by rw[hW0,hZ];exact Bk.alloc (Blk.new2 _ _ _ _) _
 have BO:Bk W0 (w.heap.size+1+1) 81 Z0:=by rw[hW0,hZ];exact Blk.new3 _ _ _ _ _
 have zW:W0.heap.size=w.heap.size+1+1+1:=by rw[hW0];simp
 clear hZ
 have A0:Z0.take 0=[]:=rfl
 go_enter Tryz.func43,Tryz.ntmps43
 go_upto_region 2 with(fail)
 rw[<-hW0]
 clear hW0 hzero
 go_wp2_with (first|(refine wpList_load_mid rfl 27 _ rfl (w.heap.size) 0 (by rfl) p0 _ R0 Tryz.underlying27 rfl (by rw[l0];kernel_rfl) ?_))
 refine(cK2 (g0.ext X0) oM).mono ?_
 rintro e w1⟨_,rfl,x1,F0,o0⟩
 obtain⟨q0,rfl,lq0,cq0⟩:=o0.rd.cells
 have BR:=BR.ext x1;have BO:=BO.ext x1;have Y1:=X0.trans x1;have d0l:=o0.low;have zy1:=x1.size;have a1:=Ext.upd x1 [w.heap.size+1,w.heap.size+1+1]
 have R1:=As R1 x1
 have R2:=As R2 x1
 have R3:=x1.cell R3
 have R4:=As R4 x1
 have R5:=x1.cell R5
 have R6:=x1.cell R6
 have R7:=x1.cell R7
 go_wp2_with (first|(refine Cg rfl 72 _ _ rfl (w.heap.size+1+1) 0 (.agg q0.toArray) (q0) (by rfl) (by rfl) rfl 81 Z0 BO 19 4 n0 lq0 oM (by kernel_rfl) cq0 [w.heap.size+1,w.heap.size+1+1] (by simp) ?_;intro V1 Z1 b1 zv1 BO n1 A1 hB;have X1:=exU Y1 b1 (DK oM oM);have BR:=hB _ _ _ oM BR;rw[A0] at A1;clear hB A0;have R1:=bJ R1 b1 oM;have R2:=bJ R2 b1 oM;have R3:=Oi R3 b1 oM;have R4:=bJ R4 b1 oM;have R5:=Oi R5 b1 oM;have R6:=Oi R6 b1 oM;have R7:=Oi R7 b1 oM)|(refine wpList_load_mid rfl 30 _ rfl (w.heap.size) 4 (by rfl) p1 _ R1 Tryz.underlying30 rfl (by rw[l1];kernel_rfl) ?_))
 refine(bB6 (g1.ext X1) oM).mono ?_
 rintro e w2⟨_,rfl,x2,F1,o1⟩
 obtain⟨q1,rfl,lq1,cq1⟩:=o1.rd.cells
 have BR:=BR.ext x2;have BO:=BO.ext x2;have Y2:=X1.trans x2;have d1l:=o1.low;have zy2:=x2.size;have a2:=Ext.upd x2 [w.heap.size+1,w.heap.size+1+1]
 have R2:=As R2 x2
 have R3:=x2.cell R3
 have R4:=As R4 x2
 have R5:=x2.cell R5
 have R6:=x2.cell R6
 have R7:=x2.cell R7
 go_wp2_with (first|(refine Cg rfl 75 _ _ rfl (w.heap.size+1+1) 4 (.agg q1.toArray) (q1) (by rfl) (by rfl) rfl 81 Z1 BO 19 4 n1 lq1 oM (by kernel_rfl) cq1 [w.heap.size+1,w.heap.size+1+1] (by simp) ?_;intro V2 Z2 b2 zv2 BO n2 A2 hB;have X2:=exU Y2 b2 (DK oM oM);have BR:=hB _ _ _ oM BR;rw[A1] at A2;clear hB A1;have R2:=bJ R2 b2 oM;have R3:=Oi R3 b2 oM;have R4:=bJ R4 b2 oM;have R5:=Oi R5 b2 oM;have R6:=Oi R6 b2 oM;have R7:=Oi R7 b2 oM)|(refine wpList_load_mid rfl 30 _ rfl (w.heap.size) 8 (by rfl) p2 _ R2 Tryz.underlying30 rfl (by rw[l2];kernel_rfl) ?_))
 refine(bB6 (g2.ext X2) oM).mono ?_
 rintro e w3⟨_,rfl,x3,F2,o2⟩
 obtain⟨q2,rfl,lq2,cq2⟩:=o2.rd.cells
 have BR:=BR.ext x3;have BO:=BO.ext x3;have Y3:=X2.trans x3;have d2l:=o2.low;have zy3:=x3.size;have a3:=Ext.upd x3 [w.heap.size+1,w.heap.size+1+1]
 have R3:=x3.cell R3
 have R4:=As R4 x3
 have R5:=x3.cell R5
 have R6:=x3.cell R6
 have R7:=x3.cell R7
 go_wp2_with (first|(refine Cg rfl 75 _ _ rfl (w.heap.size+1+1) 8 (.agg q2.toArray) (q2) (by rfl) (by rfl) rfl 81 Z2 BO 19 4 n2 lq2 oM (by kernel_rfl) cq2 [w.heap.size+1,w.heap.size+1+1] (by simp) ?_;intro V3 Z3 b3 zv3 BO n3 A3 hB;have X3:=exU Y3 b3 (DK oM oM);have BR:=hB _ _ _ oM BR;rw[A2] at A3;clear hB A2;have R3:=Oi R3 b3 oM;have R4:=bJ R4 b3 oM;have R5:=Oi R5 b3 oM;have R6:=Oi R6 b3 oM;have R7:=Oi R7 b3 oM)|(refine Cg rfl 4 _ _ rfl (w.heap.size+1+1) 12 (Value.bool d.More) ([Value.bool d.More]) (by rfl) (by rfl) rfl 81 Z3 BO 19 1 n3 rfl oM (by kernel_rfl) (by intro x hx;simp only[List.mem_cons,List.not_mem_nil,or_false] at hx;subst hx;rfl) [w.heap.size+1,w.heap.size+1+1] (by simp) ?_;intro V4 Z4 b4 zv4 BO n4 A4 hB;have X4:=exU X3 b4 (DK oM oM);have BR:=hB _ _ _ oM BR;rw[A3] at A4;clear hB A3;have R4:=bJ R4 b4 oM;have R5:=Oi R5 b4 oM;have R6:=Oi R6 b4 oM;have R7:=Oi R7 b4 oM)|(refine wpList_load_mid rfl 33 _ rfl (w.heap.size) 13 (by rfl) p4 _ R4 Tryz.underlying33 rfl (by rw[l4];kernel_rfl) ?_))
 refine(cG2 (g4.ext X4) oM).mono ?_
 rintro e w5⟨_,rfl,x5,F4,o4⟩
 obtain⟨q4,rfl,lq4,cq4⟩:=o4.rd.cells
 have BR:=BR.ext x5;have BO:=BO.ext x5;have Y5:=X4.trans x5;have d4l:=o4.low;have zy5:=x5.size;have a5:=Ext.upd x5 [w.heap.size+1,w.heap.size+1+1]
 have R5:=x5.cell R5
 have R6:=x5.cell R6
 have R7:=x5.cell R7
 go_wp2_with (first|(refine Cg rfl 78 _ _ rfl (w.heap.size+1+1) 13 (.agg q4.toArray) (q4) (by rfl) (by rfl) rfl 81 Z4 BO 19 3 n4 lq4 oM (by kernel_rfl) cq4 [w.heap.size+1,w.heap.size+1+1] (by simp) ?_;intro V5 Z5 b5 zv5 BO n5 A5 hB;have X5:=exU Y5 b5 (DK oM oM);have BR:=hB _ _ _ oM BR;rw[A4] at A5;clear hB A4;have R5:=Oi R5 b5 oM;have R6:=Oi R6 b5 oM;have R7:=Oi R7 b5 oM))
 refine(aQ1 (g5.ext X5) oM).mono ?_
 rintro e w6⟨_,rfl,x6,F5,o5⟩
 obtain⟨ua5,un5,uc5,rfl⟩:=o5.rd.shape
 have BR:=BR.ext x6;have BO:=BO.ext x6;have Y6:=X5.trans x6;have d5l:=o5.low;have zy6:=x6.size;have a6:=Ext.upd x6 [w.heap.size+1,w.heap.size+1+1]
 have R6:=x6.cell R6
 have R7:=x6.cell R7
 go_wp2_with (first|(refine Cg rfl 73 _ _ rfl (w.heap.size+1+1) 16 (Value.slice ua5 un5 uc5) ([(Value.slice ua5 un5 uc5)]) (by rfl) (by rfl) rfl 81 Z5 BO 19 1 n5 rfl oM (by kernel_rfl) (by intro x hx;simp only[List.mem_cons,List.not_mem_nil,or_false] at hx;subst hx;rfl) [w.heap.size+1,w.heap.size+1+1] (by simp) ?_;intro V6 Z6 b6 zv6 BO n6 A6 hB;have X6:=exU Y6 b6 (DK oM oM);have BR:=hB _ _ _ oM BR;rw[A5] at A6;clear hB A5;have R6:=Oi R6 b6 oM;have R7:=Oi R7 b6 oM)|(refine Cg rfl 2 _ _ rfl (w.heap.size+1+1) 17 (Value.int .i64 d.Durable) ([Value.int .i64 d.Durable]) (by rfl) (by rfl) rfl 81 Z6 BO 19 1 n6 rfl oM (by kernel_rfl) (by intro x hx;simp only[List.mem_cons,List.not_mem_nil,or_false] at hx;subst hx;rfl) [w.heap.size+1,w.heap.size+1+1] (by simp) ?_;intro V7 Z7 b7 zv7 BO n7 A7 hB;have X7:=exU X6 b7 (DK oM oM);have BR:=hB _ _ _ oM BR;rw[A6] at A7;clear hB A6;have R7:=Oi R7 b7 oM))
 refine(cF1 (g7.ext X7) oM).mono ?_
 rintro e w8⟨_,rfl,x8,F7,o7⟩
 obtain⟨ua7,un7,uc7,rfl⟩:=o7.rd.shape
 have BR:=BR.ext x8;have BO:=BO.ext x8;have Y8:=X7.trans x8;have d7l:=o7.low;have zy8:=x8.size;have a8:=Ext.upd x8 [w.heap.size+1,w.heap.size+1+1]
 go_upto_region 10 with(first|(refine Cg rfl 79 _ _ rfl (w.heap.size+1+1) 18 (Value.slice ua7 un7 uc7) ([(Value.slice ua7 un7 uc7)]) (by rfl) (by rfl) rfl 81 Z7 BO 19 1 n7 rfl oM (by kernel_rfl) (by intro x hx;simp only[List.mem_cons,List.not_mem_nil,or_false] at hx;subst hx;rfl) [w.heap.size+1,w.heap.size+1+1] (by simp) ?_;intro V8 Z8 b8 zv8 BO n8 A8 hB;have X8:=exU Y8 b8 (DK oM oM);have BR:=hB _ _ _ oM BR;rw[A7] at A8;clear hB A7))
 have eZ:Z8=(q0++(q1++(q2++([Value.bool d.More]++(q4++([(Value.slice ua5 un5 uc5)]++([Value.int .i64 d.Durable]++([(Value.slice ua7 un7 uc7)]++[])))))))):=by
  rw[List.take_of_length_le oM] at A8
  rw[A8]
  simp only[List.append_assoc,List.nil_append,List.append_nil]
 have hone:∀x,x ∈ Z8->x.oneCell'=true:=by
  rw[eZ]
  intro x hx
  simp only[List.mem_append,List.mem_cons,List.not_mem_nil,or_false] at hx
  rcases hx with hx|hx|hx|rfl|hx|rfl|rfl|rfl
  .
   exact cq0 x hx
  .
   exact cq1 x hx
  .
   exact cq2 x hx
  .
   rfl
  .
   exact cq4 x hx
  .
   rfl
  .
   rfl
  rfl
 have eZ:=Lib.hid eZ
 clear A8
 go_wp2_with (first|(refine wpList_load_mid rfl 81 _ rfl (w.heap.size+1+1) 0 (by rfl) Z8 _ BO.ra Tryz.underlying81 rfl (by rw[n8];kernel_rfl) ?_)|(refine BA rfl 81 _ _ rfl (w.heap.size+1) 0 (.agg Z8.toArray) Z8 (by rfl) (by rfl) rfl 81 [] Z0 [] (Bk.cast BR (by simp)) rfl (by rw[n0,n8]) (by rw[n8];kernel_rfl) hone ?_;intro VZ hV BZ))
 have XZ:Ext w VZ:=Ext.ofSet hV X8 oM
 have BZ:=Bk.cast (C:=Z8) BZ (by simp)
 have zvz:VZ.heap.size=V8.heap.size:=(congrArg (fun W=>W.heap.size) hV).trans (wV _ _ _)
 have u8:Upd V8 VZ [w.heap.size+1,w.heap.size+1+1]:=VL hV (by simp)
 have s7:=b8.trans u8;have o7:=o7.keep (Upd.chg s7 (GU oM oM));have u7:=a8.trans s7
 have u6:=b7.trans u7
 have s5:=b6.trans u6;have o5:=o5.keep (Upd.chg s5 (GU oM oM));have u5:=a6.trans s5
 have s4:=b5.trans u5;have o4:=o4.keep (Upd.chg s4 (GU oM oM));have u4:=a5.trans s4
 have u3:=b4.trans u4
 have s2:=b3.trans u3;have o2:=o2.keep (Upd.chg s2 (GU oM oM));have u2:=a3.trans s2
 have s1:=b2.trans u2;have o1:=o1.keep (Upd.chg s1 (GU oM oM));have u1:=a2.trans s1
 have s0:=b1.trans u1;have o0:=o0.keep (Upd.chg s0 (GU oM oM))
 refine bodyPost_ret (v:=.agg Z8.toArray) (by first|exact results_cell_row rfl _ _ (w.heap.size+1) _ _ _ _ (by rfl) BZ Tryz.underlying81 rfl (by rw[List.size_toArray,n8];kernel_rfl)) rfl ?_
 refine⟨_,rfl,XZ,_,q0,q1,q2,q4,_,_,F0,F1,F2,F4,F5,F7,by rw[eZ.out],lq0,lq1,lq2,lq4,o0.mono oM,o1.mono oM,o2.mono oM,o4.mono oM,o5.mono oM,o7.mono oM,?_,rfl⟩
 repeat' (first|exact List.Pairwise.nil|(refine List.Pairwise.cons ?_ ?_))
 .
  intro b hb k hk hk2
  have hA:=d0l k hk
  simp only[List.mem_cons,List.not_mem_nil,or_false] at hb
  rcases hb with rfl|rfl|rfl|rfl|rfl
  .
   have hB:=d1l k hk2;omega
  .
   have hB:=d2l k hk2;omega
  .
   have hB:=d4l k hk2;omega
  .
   have hB:=d5l k hk2;omega
  have hB:=d7l k hk2;omega
 .
  intro b hb k hk hk2
  have hA:=d1l k hk
  simp only[List.mem_cons,List.not_mem_nil,or_false] at hb
  rcases hb with rfl|rfl|rfl|rfl
  .
   have hB:=d2l k hk2;omega
  .
   have hB:=d4l k hk2;omega
  .
   have hB:=d5l k hk2;omega
  have hB:=d7l k hk2;omega
 .
  intro b hb k hk hk2
  have hA:=d2l k hk
  simp only[List.mem_cons,List.not_mem_nil,or_false] at hb
  rcases hb with rfl|rfl|rfl
  .
   have hB:=d4l k hk2;omega
  .
   have hB:=d5l k hk2;omega
  have hB:=d7l k hk2;omega
 .
  intro b hb k hk hk2
  have hA:=d4l k hk
  simp only[List.mem_cons,List.not_mem_nil,or_false] at hb
  rcases hb with rfl|rfl
  .
   have hB:=d5l k hk2;omega
  have hB:=d7l k hk2;omega
 .
  intro b hb k hk hk2
  have hA:=d5l k hk
  simp only[List.mem_cons,List.not_mem_nil,or_false] at hb
  rcases hb with rfl
  have hB:=d7l k hk2;omega
 intro b hb;cases hb
end
def EC(w:World)(v:Value)(d:DU):Prop:=∃p0:List Value,∃p1:List Value,∃p2:List Value,∃p3:List Value,∃p4:List Value,∃p5:List Value,∃p6:List Value,∃t7:Value,∃t8:Value,v=.agg (p0++(p1++(p2++(p3++(p4++(p5++(p6++([t7]++([t8]++[]))))))))).toArray/\p0.length=19/\p1.length=12/\p2.length=15/\p3.length=15/\p4.length=4/\p5.length=4/\p6.length=2/\IU w (.agg p0.toArray) d.Log/\DF w (.agg p1.toArray) d.Store/\CN w (.agg p2.toArray) d.Left/\CN w (.agg p3.toArray) d.Right/\CU w (.agg p4.toArray) d.Ann/\CU w (.agg p5.toArray) d.Bob/\ND w (.agg p6.toArray) d.Net/\JV w t7 d.Clocks/\KU w t8 d.Up
def JG(B:Nat)(w:World)(v:Value)(d:DU)(F:List Nat):Prop:=∃p0:List Value,∃p1:List Value,∃p2:List Value,∃p3:List Value,∃p4:List Value,∃p5:List Value,∃p6:List Value,∃t7:Value,∃t8:Value,∃F0:List Nat,∃F1:List Nat,∃F2:List Nat,∃F3:List Nat,∃F4:List Nat,∃F5:List Nat,∃F6:List Nat,∃F7:List Nat,∃F8:List Nat,v=.agg (p0++(p1++(p2++(p3++(p4++(p5++(p6++([t7]++([t8]++[]))))))))).toArray/\p0.length=19/\p1.length=12/\p2.length=15/\p3.length=15/\p4.length=4/\p5.length=4/\p6.length=2/\OO B w (.agg p0.toArray) d.Log F0/\DG B w (.agg p1.toArray) d.Store F1/\EB B w (.agg p2.toArray) d.Left F2/\EB B w (.agg p3.toArray) d.Right F3/\FV B w (.agg p4.toArray) d.Ann F4/\FV B w (.agg p5.toArray) d.Bob F5/\ON B w (.agg p6.toArray) d.Net F6/\EV B w t7 d.Clocks F7/\IR B w t8 d.Up F8/\[F0,F1,F2,F3,F4,F5,F6,F7,F8].Pairwise (fun a b=>∀k,k ∈ a->k ∈ b->False)/\F=F0++F1++F2++F3++F4++F5++F6++F7++F8
def JZ(d:DU):Nat:=SE d.Log+JX d.Store+LP d.Left+LP d.Right+ID d.Ann+ID d.Bob+SD d.Net+QW d.Clocks+TL d.Up
section
variable {B B':Nat} {w w':World} {v:Value} {d:DU} {F:List Nat}
theorem EC.ext(h:EC w v d)(x:Ext w w'):EC w' v d:=by
 obtain⟨p0,p1,p2,p3,p4,p5,p6,t7,t8,e,l0,l1,l2,l3,l4,l5,l6,g0,g1,g2,g3,g4,g5,g6,g7,g8⟩:=h
 exact⟨p0,p1,p2,p3,p4,p5,p6,t7,t8,e,l0,l1,l2,l3,l4,l5,l6,g0.ext x,g1.ext x,g2.ext x,g3.ext x,g4.ext x,g5.ext x,g6.ext x,g7.ext x,g8.ext x⟩
theorem JG.rd(h:JG B w v d F):EC w v d:=by
 obtain⟨p0,p1,p2,p3,p4,p5,p6,t7,t8,F0,F1,F2,F3,F4,F5,F6,F7,F8,e,l0,l1,l2,l3,l4,l5,l6,g0,g1,g2,g3,g4,g5,g6,g7,g8,hdj,hF⟩:=h
 exact⟨p0,p1,p2,p3,p4,p5,p6,t7,t8,e,l0,l1,l2,l3,l4,l5,l6,g0.rd,g1.rd,g2.rd,g3.rd,g4.rd,g5.rd,g6.rd,g7.rd,g8.rd⟩
theorem JG.keep(h:JG B w v d F)(x:Chg B w w'):JG B w' v d F:=by
 obtain⟨p0,p1,p2,p3,p4,p5,p6,t7,t8,F0,F1,F2,F3,F4,F5,F6,F7,F8,e,l0,l1,l2,l3,l4,l5,l6,g0,g1,g2,g3,g4,g5,g6,g7,g8,hdj,hF⟩:=h
 exact⟨p0,p1,p2,p3,p4,p5,p6,t7,t8,F0,F1,F2,F3,F4,F5,F6,F7,F8,e,l0,l1,l2,l3,l4,l5,l6,g0.keep x,g1.keep x,g2.keep x,g3.keep x,g4.keep x,g5.keep x,g6.keep x,g7.keep x,g8.keep x,hdj,hF⟩
theorem JG.mono(h:JG B w v d F)(x:B'<=B):JG B' w v d F:=by
 obtain⟨p0,p1,p2,p3,p4,p5,p6,t7,t8,F0,F1,F2,F3,F4,F5,F6,F7,F8,e,l0,l1,l2,l3,l4,l5,l6,g0,g1,g2,g3,g4,g5,g6,g7,g8,hdj,hF⟩:=h
 exact⟨p0,p1,p2,p3,p4,p5,p6,t7,t8,F0,F1,F2,F3,F4,F5,F6,F7,F8,e,l0,l1,l2,l3,l4,l5,l6,g0.mono x,g1.mono x,g2.mono x,g3.mono x,g4.mono x,g5.mono x,g6.mono x,g7.mono x,g8.mono x,hdj,hF⟩
theorem JG.low(h:JG B w v d F):∀k,k ∈ F->B<=k/\k<w.heap.size:=by
 obtain⟨p0,p1,p2,p3,p4,p5,p6,t7,t8,F0,F1,F2,F3,F4,F5,F6,F7,F8,e,l0,l1,l2,l3,l4,l5,l6,g0,g1,g2,g3,g4,g5,g6,g7,g8,hdj,rfl⟩:=h
 intro k hk
 simp only[List.mem_append] at hk
 rcases hk with(((((((hk|hk)|hk)|hk)|hk)|hk)|hk)|hk)|hk
 .
  exact g0.low k hk
 .
  exact g1.low k hk
 .
  exact g2.low k hk
 .
  exact g3.low k hk
 .
  exact g4.low k hk
 .
  exact g5.low k hk
 .
  exact g6.low k hk
 .
  exact g7.low k hk
 exact g8.low k hk
theorem EC.cells(h:EC w v d):∃L:List Value,v=.agg L.toArray/\L.length=73/\∀x,x ∈ L->x.oneCell'=true:=by
 obtain⟨p0,p1,p2,p3,p4,p5,p6,t7,t8,rfl,l0,l1,l2,l3,l4,l5,l6,g0,g1,g2,g3,g4,g5,g6,g7,g8⟩:=h
 refine⟨_,rfl,by simp[l0,l1,l2,l3,l4,l5,l6],?_⟩
 intro x hx
 simp only[List.mem_append,List.mem_cons,List.not_mem_nil,or_false] at hx
 rcases hx with hx|hx|hx|hx|hx|hx|hx|rfl|rfl
 .
  obtain⟨L,e,-,h1⟩:=g0.cells;rw[wQ e] at hx;exact h1 x hx
 .
  obtain⟨L,e,-,h1⟩:=g1.cells;rw[wQ e] at hx;exact h1 x hx
 .
  obtain⟨L,e,-,h1⟩:=g2.cells;rw[wQ e] at hx;exact h1 x hx
 .
  obtain⟨L,e,-,h1⟩:=g3.cells;rw[wQ e] at hx;exact h1 x hx
 .
  obtain⟨L,e,-,h1⟩:=g4.cells;rw[wQ e] at hx;exact h1 x hx
 .
  obtain⟨L,e,-,h1⟩:=g5.cells;rw[wQ e] at hx;exact h1 x hx
 .
  obtain⟨L,e,-,h1⟩:=g6.cells;rw[wQ e] at hx;exact h1 x hx
 .
  obtain⟨a,n,k,rfl⟩:=g7.shape;rfl
 obtain⟨a,n,k,rfl⟩:=g8.shape;rfl
theorem bV3(h:EC w v d){left:Int}(h0:0<=left)(h1:left<=1048576):Calls Tryz.prog 8 #[v,.int .i64 left] w (Ret w fun v' _=>SzR left (JZ d) v'):=by
 obtain⟨p0,p1,p2,p3,p4,p5,p6,t7,t8,rfl,l0,l1,l2,l3,l4,l5,l6,g0,g1,g2,g3,g4,g5,g6,g7,g8⟩:=h
 unfold JZ
 obtain⟨L,hL⟩:∃L:List Value,L=(p0++(p1++(p2++(p3++(p4++(p5++(p6++([t7]++([t8]++[]))))))))):=⟨_,rfl⟩
 rw[<-hL]
 obtain⟨W0,hW0⟩:∃W0,W0=w.alloc (.cells L.toArray 65):=⟨_,rfl⟩
 have E0:Ext w W0:=by rw[hW0];exact(Ext.refl _).alloc _
 have r:W0.rangeAt w.heap.size 0 L:=by rw[hW0];exact(Bk.new _ _ _).ra
 rw[hL] at r;clear hL
 obtain⟨R0,r⟩:=An (m:=19) r l0 rfl
 obtain⟨R1,r⟩:=An (m:=31) r l1 rfl
 obtain⟨R2,r⟩:=An (m:=46) r l2 rfl
 obtain⟨R3,r⟩:=An (m:=61) r l3 rfl
 obtain⟨R4,r⟩:=An (m:=65) r l4 rfl
 obtain⟨R5,r⟩:=An (m:=69) r l5 rfl
 obtain⟨R6,r⟩:=An (m:=71) r l6 rfl
 obtain⟨R7,r⟩:=An (m:=72) r rfl rfl
 have R7:=Az R7
 obtain⟨R8,r⟩:=An (m:=73) r rfl rfl
 have R8:=Az R8
 clear r
 go_enter Tryz.func8,Tryz.ntmps8
 go_upto_region 1 with(fail)
 rw[<-hW0]
 clear hW0
 have X0:Ext W0 W0:=Ext.refl _
 go_wp2_with (first|(refine wpList_load_mid rfl 36 _ rfl (w.heap.size) 0 (by rfl) p0 _ (As R0 Ag) Tryz.underlying36 rfl (by rw[l0];kernel_rfl) ?_))
 refine(cL1 (g0.ext (E0.trans X0)) (left:=left) oM oM).mono ?_
 rintro e w1⟨v1,rfl,x1,hv⟩
 have X1:=X0.trans x1
 rcases hv with⟨rfl,hq1⟩|⟨rfl,hq1⟩
 .
  go_wp2_with fail
  go_ret
  exact⟨_,rfl,E0.trans X1,.inl ⟨rfl,by omega⟩⟩
 obtain⟨z1,hz1⟩:∃z,z=left - (SE d.Log:Nat):=⟨_,rfl⟩
 rw[<-hz1]
 have hy1:=Int.le_of_eq hz1;have hw1:=Int.le_of_eq hz1.symm;clear hz1
 have hd1:decide (z1<0)=false:=by simp;omega
 go_wp2_with (first|(refine wpList_load_mid rfl 44 _ rfl (w.heap.size) 19 (by rfl) p1 _ (As R1 Ag) Tryz.underlying44 rfl (by rw[l1];kernel_rfl) ?_))
 refine(bJ4 (g1.ext (E0.trans X1)) (left:=z1) oM oM).mono ?_
 rintro e w2⟨v2,rfl,x2,hv⟩
 have X2:=X1.trans x2
 rcases hv with⟨rfl,hq2⟩|⟨rfl,hq2⟩
 .
  go_wp2_with fail
  go_ret
  exact⟨_,rfl,E0.trans X2,.inl ⟨rfl,by omega⟩⟩
 obtain⟨z2,hz2⟩:∃z,z=z1 - (JX d.Store:Nat):=⟨_,rfl⟩
 rw[<-hz2]
 have hy2:=Int.le_of_eq hz2;have hw2:=Int.le_of_eq hz2.symm;clear hz2
 have hd2:decide (z2<0)=false:=by simp;omega
 go_wp2_with (first|(refine wpList_load_mid rfl 53 _ rfl (w.heap.size) 31 (by rfl) p2 _ (As R2 Ag) Tryz.underlying53 rfl (by rw[l2];kernel_rfl) ?_))
 refine(aG3 (g2.ext (E0.trans X2)) (left:=z2) oM oM).mono ?_
 rintro e w3⟨v3,rfl,x3,hv⟩
 have X3:=X2.trans x3
 rcases hv with⟨rfl,hq3⟩|⟨rfl,hq3⟩
 .
  go_wp2_with fail
  go_ret
  exact⟨_,rfl,E0.trans X3,.inl ⟨rfl,by omega⟩⟩
 obtain⟨z3,hz3⟩:∃z,z=z2 - (LP d.Left:Nat):=⟨_,rfl⟩
 rw[<-hz3]
 have hy3:=Int.le_of_eq hz3;have hw3:=Int.le_of_eq hz3.symm;clear hz3
 have hd3:decide (z3<0)=false:=by simp;omega
 go_wp2_with (first|(refine wpList_load_mid rfl 53 _ rfl (w.heap.size) 46 (by rfl) p3 _ (As R3 Ag) Tryz.underlying53 rfl (by rw[l3];kernel_rfl) ?_))
 refine(aG3 (g3.ext (E0.trans X3)) (left:=z3) oM oM).mono ?_
 rintro e w4⟨v4,rfl,x4,hv⟩
 have X4:=X3.trans x4
 rcases hv with⟨rfl,hq4⟩|⟨rfl,hq4⟩
 .
  go_wp2_with fail
  go_ret
  exact⟨_,rfl,E0.trans X4,.inl ⟨rfl,by omega⟩⟩
 obtain⟨z4,hz4⟩:∃z,z=z3 - (LP d.Right:Nat):=⟨_,rfl⟩
 rw[<-hz4]
 have hy4:=Int.le_of_eq hz4;have hw4:=Int.le_of_eq hz4.symm;clear hz4
 have hd4:decide (z4<0)=false:=by simp;omega
 go_wp2_with (first|(refine wpList_load_mid rfl 57 _ rfl (w.heap.size) 61 (by rfl) p4 _ (As R4 Ag) Tryz.underlying57 rfl (by rw[l4];kernel_rfl) ?_))
 refine(aG5 (g4.ext (E0.trans X4)) (left:=z4) oM oM).mono ?_
 rintro e w5⟨v5,rfl,x5,hv⟩
 have X5:=X4.trans x5
 rcases hv with⟨rfl,hq5⟩|⟨rfl,hq5⟩
 .
  go_wp2_with fail
  go_ret
  exact⟨_,rfl,E0.trans X5,.inl ⟨rfl,by omega⟩⟩
 obtain⟨z5,hz5⟩:∃z,z=z4 - (ID d.Ann:Nat):=⟨_,rfl⟩
 rw[<-hz5]
 have hy5:=Int.le_of_eq hz5;have hw5:=Int.le_of_eq hz5.symm;clear hz5
 have hd5:decide (z5<0)=false:=by simp;omega
 go_wp2_with (first|(refine wpList_load_mid rfl 57 _ rfl (w.heap.size) 65 (by rfl) p5 _ (As R5 Ag) Tryz.underlying57 rfl (by rw[l5];kernel_rfl) ?_))
 refine(aG5 (g5.ext (E0.trans X5)) (left:=z5) oM oM).mono ?_
 rintro e w6⟨v6,rfl,x6,hv⟩
 have X6:=X5.trans x6
 rcases hv with⟨rfl,hq6⟩|⟨rfl,hq6⟩
 .
  go_wp2_with fail
  go_ret
  exact⟨_,rfl,E0.trans X6,.inl ⟨rfl,by omega⟩⟩
 obtain⟨z6,hz6⟩:∃z,z=z5 - (ID d.Bob:Nat):=⟨_,rfl⟩
 rw[<-hz6]
 have hy6:=Int.le_of_eq hz6;have hw6:=Int.le_of_eq hz6.symm;clear hz6
 have hd6:decide (z6<0)=false:=by simp;omega
 go_wp2_with (first|(refine wpList_load_mid rfl 61 _ rfl (w.heap.size) 69 (by rfl) p6 _ (As R6 Ag) Tryz.underlying61 rfl (by rw[l6];kernel_rfl) ?_))
 refine(cK3 (g6.ext (E0.trans X6)) (left:=z6) oM oM).mono ?_
 rintro e w7⟨v7,rfl,x7,hv⟩
 have X7:=X6.trans x7
 rcases hv with⟨rfl,hq7⟩|⟨rfl,hq7⟩
 .
  go_wp2_with fail
  go_ret
  exact⟨_,rfl,E0.trans X7,.inl ⟨rfl,by omega⟩⟩
 obtain⟨z7,hz7⟩:∃z,z=z6 - (SD d.Net:Nat):=⟨_,rfl⟩
 rw[<-hz7]
 have hy7:=Int.le_of_eq hz7;have hw7:=Int.le_of_eq hz7.symm;clear hz7
 have hd7:decide (z7<0)=false:=by simp;omega
 have cq7:=X7.cell R7
 go_wp2_with fail
 clear cq7
 refine(bI9 (g7.ext (E0.trans X7)) (left:=z7) oM oM).mono ?_
 rintro e w8⟨v8,rfl,x8,hv⟩
 have X8:=X7.trans x8
 rcases hv with⟨rfl,hq8⟩|⟨rfl,hq8⟩
 .
  go_wp2_with fail
  go_ret
  exact⟨_,rfl,E0.trans X8,.inl ⟨rfl,by omega⟩⟩
 obtain⟨z8,hz8⟩:∃z,z=z7 - (QW d.Clocks:Nat):=⟨_,rfl⟩
 rw[<-hz8]
 have hy8:=Int.le_of_eq hz8;have hw8:=Int.le_of_eq hz8.symm;clear hz8
 have hd8:decide (z8<0)=false:=by simp;omega
 have cq8:=X8.cell R8
 go_wp2_with fail
 clear cq8
 refine(bU3 (g8.ext (E0.trans X8)) (left:=z8) oM oM).mono ?_
 rintro e w9⟨v9,rfl,x9,hv⟩
 have X9:=X8.trans x9
 rcases hv with⟨rfl,hq9⟩|⟨rfl,hq9⟩
 .
  go_wp2_with fail
  go_ret
  exact⟨_,rfl,E0.trans X9,.inl ⟨rfl,by omega⟩⟩
 obtain⟨z9,hz9⟩:∃z,z=z8 - (TL d.Up:Nat):=⟨_,rfl⟩
 rw[<-hz9]
 have hy9:=Int.le_of_eq hz9;have hw9:=Int.le_of_eq hz9.symm;clear hz9
 have hd9:decide (z9<0)=false:=by simp;omega
 go_wp2_with fail
 go_ret
 exact⟨_,rfl,E0.trans X9,.inr ⟨congrArg (Value.int .i64) oM,by omega⟩⟩
theorem bV4{u:Value}(h:EC w v d)(k:EC w u d):Calls Tryz.prog 12 #[v,u] w (Fz w (.bool true)):=by
 obtain⟨p0,p1,p2,p3,p4,p5,p6,t7,t8,rfl,l0,l1,l2,l3,l4,l5,l6,g0,g1,g2,g3,g4,g5,g6,g7,g8⟩:=h
 obtain⟨r0,r1,r2,r3,r4,r5,r6,s7,s8,rfl,m0,m1,m2,m3,m4,m5,m6,f0,f1,f2,f3,f4,f5,f6,f7,f8⟩:=k
 obtain⟨L,hL⟩:∃L:List Value,L=(p0++(p1++(p2++(p3++(p4++(p5++(p6++([t7]++([t8]++[]))))))))):=⟨_,rfl⟩
 obtain⟨M,hM⟩:∃L:List Value,L=(r0++(r1++(r2++(r3++(r4++(r5++(r6++([s7]++([s8]++[]))))))))):=⟨_,rfl⟩
 rw[<-hL,<-hM]
 obtain⟨W0,hW0⟩:∃W0,W0=(w.alloc (.cells L.toArray 106)).alloc (.cells M.toArray 106):=⟨_,rfl⟩
 have E0:Ext w W0:=by rw[hW0];exact((Ext.refl _).alloc _).alloc _
 have r:W0.rangeAt w.heap.size 0 L:=by rw[hW0];exact Bk.ra (Bk.alloc (Bk.new _ _ _) _)
 rw[hL] at r;clear hL
 obtain⟨R0,r⟩:=An (m:=19) r l0 rfl
 obtain⟨R1,r⟩:=An (m:=31) r l1 rfl
 obtain⟨R2,r⟩:=An (m:=46) r l2 rfl
 obtain⟨R3,r⟩:=An (m:=61) r l3 rfl
 obtain⟨R4,r⟩:=An (m:=65) r l4 rfl
 obtain⟨R5,r⟩:=An (m:=69) r l5 rfl
 obtain⟨R6,r⟩:=An (m:=71) r l6 rfl
 obtain⟨R7,r⟩:=An (m:=72) r rfl rfl
 have R7:=Az R7
 obtain⟨R8,r⟩:=An (m:=73) r rfl rfl
 have R8:=Az R8
 clear r
 have r:W0.rangeAt (w.heap.size+1) 0 M:=by rw[hW0];exact Bk.ra (Blk.new2 _ _ _ _)
 rw[hM] at r;clear hM
 obtain⟨S0,r⟩:=An (m:=19) r m0 rfl
 obtain⟨S1,r⟩:=An (m:=31) r m1 rfl
 obtain⟨S2,r⟩:=An (m:=46) r m2 rfl
 obtain⟨S3,r⟩:=An (m:=61) r m3 rfl
 obtain⟨S4,r⟩:=An (m:=65) r m4 rfl
 obtain⟨S5,r⟩:=An (m:=69) r m5 rfl
 obtain⟨S6,r⟩:=An (m:=71) r m6 rfl
 obtain⟨S7,r⟩:=An (m:=72) r rfl rfl
 have S7:=Az S7
 obtain⟨S8,r⟩:=An (m:=73) r rfl rfl
 have S8:=Az S8
 clear r
 go_enter Tryz.func12,Tryz.ntmps12
 go_upto_region 1 with(fail)
 rw[<-hW0]
 clear hW0
 have X0:Ext W0 W0:=Ext.refl _
 go_wp2_with (first|(refine wpList_load_mid rfl 81 _ rfl (w.heap.size) 0 (by rfl) p0 _ (As R0 Ag) Tryz.underlying81 rfl (by rw[l0];kernel_rfl) ?_)|(refine wpList_load_mid rfl 81 _ rfl (w.heap.size+1) 0 (by rfl) r0 _ (As S0 Ag) Tryz.underlying81 rfl (by rw[m0];kernel_rfl) ?_))
 refine(cL2 (g0.ext (E0.trans X0)) (f0.ext (E0.trans X0))).mono ?_
 rintro e w1⟨rfl,x1⟩
 have X1:=X0.trans x1
 go_wp2_with (first|(refine wpList_load_mid rfl 88 _ rfl (w.heap.size) 19 (by rfl) p1 _ (As R1 Ag) Tryz.underlying88 rfl (by rw[l1];kernel_rfl) ?_)|(refine wpList_load_mid rfl 88 _ rfl (w.heap.size+1) 19 (by rfl) r1 _ (As S1 Ag) Tryz.underlying88 rfl (by rw[m1];kernel_rfl) ?_))
 refine(bR7 (g1.ext (E0.trans X1)) (f1.ext (E0.trans X1))).mono ?_
 rintro e w2⟨rfl,x2⟩
 have X2:=X1.trans x2
 go_wp2_with (first|(refine wpList_load_mid rfl 96 _ rfl (w.heap.size) 31 (by rfl) p2 _ (As R2 Ag) Tryz.underlying96 rfl (by rw[l2];kernel_rfl) ?_)|(refine wpList_load_mid rfl 96 _ rfl (w.heap.size+1) 31 (by rfl) r2 _ (As S2 Ag) Tryz.underlying96 rfl (by rw[m2];kernel_rfl) ?_))
 refine(aO7 (g2.ext (E0.trans X2)) (f2.ext (E0.trans X2))).mono ?_
 rintro e w3⟨rfl,x3⟩
 have X3:=X2.trans x3
 go_wp2_with (first|(refine wpList_load_mid rfl 96 _ rfl (w.heap.size) 46 (by rfl) p3 _ (As R3 Ag) Tryz.underlying96 rfl (by rw[l3];kernel_rfl) ?_)|(refine wpList_load_mid rfl 96 _ rfl (w.heap.size+1) 46 (by rfl) r3 _ (As S3 Ag) Tryz.underlying96 rfl (by rw[m3];kernel_rfl) ?_))
 refine(aO7 (g3.ext (E0.trans X3)) (f3.ext (E0.trans X3))).mono ?_
 rintro e w4⟨rfl,x4⟩
 have X4:=X3.trans x4
 go_wp2_with (first|(refine wpList_load_mid rfl 100 _ rfl (w.heap.size) 61 (by rfl) p4 _ (As R4 Ag) Tryz.underlying100 rfl (by rw[l4];kernel_rfl) ?_)|(refine wpList_load_mid rfl 100 _ rfl (w.heap.size+1) 61 (by rfl) r4 _ (As S4 Ag) Tryz.underlying100 rfl (by rw[m4];kernel_rfl) ?_))
 refine(aG6 (g4.ext (E0.trans X4)) (f4.ext (E0.trans X4))).mono ?_
 rintro e w5⟨rfl,x5⟩
 have X5:=X4.trans x5
 go_wp2_with (first|(refine wpList_load_mid rfl 100 _ rfl (w.heap.size) 65 (by rfl) p5 _ (As R5 Ag) Tryz.underlying100 rfl (by rw[l5];kernel_rfl) ?_)|(refine wpList_load_mid rfl 100 _ rfl (w.heap.size+1) 65 (by rfl) r5 _ (As S5 Ag) Tryz.underlying100 rfl (by rw[m5];kernel_rfl) ?_))
 refine(aG6 (g5.ext (E0.trans X5)) (f5.ext (E0.trans X5))).mono ?_
 rintro e w6⟨rfl,x6⟩
 have X6:=X5.trans x6
 go_wp2_with (first|(refine wpList_load_mid rfl 104 _ rfl (w.heap.size) 69 (by rfl) p6 _ (As R6 Ag) Tryz.underlying104 rfl (by rw[l6];kernel_rfl) ?_)|(refine wpList_load_mid rfl 104 _ rfl (w.heap.size+1) 69 (by rfl) r6 _ (As S6 Ag) Tryz.underlying104 rfl (by rw[m6];kernel_rfl) ?_))
 refine(cK4 (g6.ext (E0.trans X6)) (f6.ext (E0.trans X6))).mono ?_
 rintro e w7⟨rfl,x7⟩
 have X7:=X6.trans x7
 have ca7:=X7.cell R7;have cb7:=X7.cell S7
 go_wp2_with fail
 refine(bJ0 (g7.ext (E0.trans X7)) (f7.ext (E0.trans X7))).mono ?_
 rintro e w8⟨rfl,x8⟩
 have X8:=X7.trans x8
 clear ca7 cb7
 have ca8:=X8.cell R8;have cb8:=X8.cell S8
 go_wp2_with fail
 refine(bU4 (g8.ext (E0.trans X8)) (f8.ext (E0.trans X8))).mono ?_
 rintro e w9⟨rfl,x9⟩
 have X9:=X8.trans x9
 clear ca8 cb8
 go_wp2_with fail
 go_ret
 exact⟨rfl,E0.trans X9⟩
theorem WI(h:EC w v d)(hs:JZ d<=1048576):Calls Tryz.prog 10 #[v] w (Ret w fun v' w'=>∃F,JG w.heap.size w' v' d F):=by
 obtain⟨p0,p1,p2,p3,p4,p5,p6,t7,t8,rfl,l0,l1,l2,l3,l4,l5,l6,g0,g1,g2,g3,g4,g5,g6,g7,g8⟩:=h
 unfold JZ at hs
 have hzero:=(zero_of_info (P:=Tryz.prog) (t:=106) (v:=.agg #[.slice none 0 0,.slice none 0 0,.slice none 0 0,.slice none 0 0,.int .i64 0,.int .i64 0,.int .i64 0,.slice none 0 0,.int .i64 0,.int .i64 0,.int .i64 0,.slice none 0 0,.bool false,.int .i64 0,.int .i64 0,.slice none 0 0,.slice none 0 0,.int .i64 0,.slice none 0 0,.slice none 0 0,.slice none 0 0,.int .i64 0,.int .i64 0,.slice none 0 0,.slice none 0 0,.int .i64 0,.int .i64 0,.int .i64 0,.int .i64 0,.int .i64 0,.int .i64 0,.int .i64 0,.int .i64 0,.int .i64 0,.int .i64 0,.int .i64 0,.int .i64 0,.int .i64 0,.slice none 0 0,.bool false,.int .i64 0,.int .i64 0,.int .i64 0,.int .i64 0,.int .i64 0,.int .i64 0,.int .i64 0,.int .i64 0,.int .i64 0,.int .i64 0,.int .i64 0,.int .i64 0,.int .i64 0,.slice none 0 0,.bool false,.int .i64 0,.int .i64 0,.int .i64 0,.int .i64 0,.int .i64 0,.int .i64 0,.int .i64 0,.slice none 0 0,.slice none 0 0,.int .i64 0,.int .i64 0,.slice none 0 0,.slice none 0 0,.int .i64 0,.slice none 0 0,.slice none 0 0,.slice none 0 0,.slice none 0 0]) (n:=73) (by kernel_rfl)).1
 obtain⟨Z0,hZ⟩:∃Z:List Value,Z=[Value.slice none 0 0,Value.slice none 0 0,Value.slice none 0 0,Value.slice none 0 0,Value.int .i64 0,Value.int .i64 0,Value.int .i64 0,Value.slice none 0 0,Value.int .i64 0,Value.int .i64 0,Value.int .i64 0,Value.slice none 0 0,Value.bool false,Value.int .i64 0,Value.int .i64 0,Value.slice none 0 0,Value.slice none 0 0,Value.int .i64 0,Value.slice none 0 0,Value.slice none 0 0,Value.slice none 0 0,Value.int .i64 0,Value.int .i64 0,Value.slice none 0 0,Value.slice none 0 0,Value.int .i64 0,Value.int .i64 0,Value.int .i64 0,Value.int .i64 0,Value.int .i64 0,Value.int .i64 0,Value.int .i64 0,Value.int .i64 0,Value.int .i64 0,Value.int .i64 0,Value.int .i64 0,Value.int .i64 0,Value.int .i64 0,Value.slice none 0 0,Value.bool false,Value.int .i64 0,Value.int .i64 0,Value.int .i64 0,Value.int .i64 0,Value.int .i64 0,Value.int .i64 0,Value.int .i64 0,Value.int .i64 0,Value.int .i64 0,Value.int .i64 0,Value.int .i64 0,Value.int .i64 0,Value.int .i64 0,Value.slice none 0 0,Value.bool false,Value.int .i64 0,Value.int .i64 0,Value.int .i64 0,Value.int .i64 0,Value.int .i64 0,Value.int .i64 0,Value.int .i64 0,Value.slice none 0 0,Value.slice none 0 0,Value.int .i64 0,Value.int .i64 0,Value.slice none 0 0,Value.slice none 0 0,Value.int .i64 0,Value.slice none 0 0,Value.slice none 0 0,Value.slice none 0 0,Value.slice none 0 0]:=⟨_,rfl⟩
 have n0:Z0.length=73:=by rw[hZ];rfl
 obtain⟨L,hL⟩:∃L:List Value,L=(p0++(p1++(p2++(p3++(p4++(p5++(p6++([t7]++([t8]++[]))))))))):=⟨_,rfl⟩
 rw[<-hL]
 obtain⟨W0,hW0⟩:∃W0,W0=((w.alloc (.cells L.toArray 65)).alloc (.cells #[.slice none 0 0,.slice none 0 0,.slice none 0 0,.slice none 0 0,.int .i64 0,.int .i64 0,.int .i64 0,.slice none 0 0,.int .i64 0,.int .i64 0,.int .i64 0,.slice none 0 0,.bool false,.int .i64 0,.int .i64 0,.slice none 0 0,.slice none 0 0,.int .i64 0,.slice none 0 0,.slice none 0 0,.slice none 0 0,.int .i64 0,.int .i64 0,.slice none 0 0,.slice none 0 0,.int .i64 0,.int .i64 0,.int .i64 0,.int .i64 0,.int .i64 0,.int .i64 0,.int .i64 0,.int .i64 0,.int .i64 0,.int .i64 0,.int .i64 0,.int .i64 0,.int .i64 0,.slice none 0 0,.bool false,.int .i64 0,.int .i64 0,.int .i64 0,.int .i64 0,.int .i64 0,.int .i64 0,.int .i64 0,.int .i64 0,.int .i64 0,.int .i64 0,.int .i64 0,.int .i64 0,.int .i64 0,.slice none 0 0,.bool false,.int .i64 0,.int .i64 0,.int .i64 0,.int .i64 0,.int .i64 0,.int .i64 0,.int .i64 0,.slice none 0 0,.slice none 0 0,.int .i64 0,.int .i64 0,.slice none 0 0,.slice none 0 0,.int .i64 0,.slice none 0 0,.slice none 0 0,.slice none 0 0,.slice none 0 0] 106)).alloc (.cells #[.slice none 0 0,.slice none 0 0,.slice none 0 0,.slice none 0 0,.int .i64 0,.int .i64 0,.int .i64 0,.slice none 0 0,.int .i64 0,.int .i64 0,.int .i64 0,.slice none 0 0,.bool false,.int .i64 0,.int .i64 0,.slice none 0 0,.slice none 0 0,.int .i64 0,.slice none 0 0,.slice none 0 0,.slice none 0 0,.int .i64 0,.int .i64 0,.slice none 0 0,.slice none 0 0,.int .i64 0,.int .i64 0,.int .i64 0,.int .i64 0,.int .i64 0,.int .i64 0,.int .i64 0,.int .i64 0,.int .i64 0,.int .i64 0,.int .i64 0,.int .i64 0,.int .i64 0,.slice none 0 0,.bool false,.int .i64 0,.int .i64 0,.int .i64 0,.int .i64 0,.int .i64 0,.int .i64 0,.int .i64 0,.int .i64 0,.int .i64 0,.int .i64 0,.int .i64 0,.int .i64 0,.int .i64 0,.slice none 0 0,.bool false,.int .i64 0,.int .i64 0,.int .i64 0,.int .i64 0,.int .i64 0,.int .i64 0,.int .i64 0,.slice none 0 0,.slice none 0 0,.int .i64 0,.int .i64 0,.slice none 0 0,.slice none 0 0,.int .i64 0,.slice none 0 0,.slice none 0 0,.slice none 0 0,.slice none 0 0] 106):=⟨_,rfl⟩
 have X0:Ext w W0:=by rw[hW0];exact(((Ext.refl _).alloc _).alloc _).alloc _
 have r:W0.rangeAt w.heap.size 0 L:=by rw[hW0];exact Bk.ra (Bk.alloc (Bk.alloc (Bk.new _ _ _) _) _)
 rw[hL] at r;clear hL
 obtain⟨R0,r⟩:=An (m:=19) r l0 rfl
 obtain⟨R1,r⟩:=An (m:=31) r l1 rfl
 obtain⟨R2,r⟩:=An (m:=46) r l2 rfl
 obtain⟨R3,r⟩:=An (m:=61) r l3 rfl
 obtain⟨R4,r⟩:=An (m:=65) r l4 rfl
 obtain⟨R5,r⟩:=An (m:=69) r l5 rfl
 obtain⟨R6,r⟩:=An (m:=71) r l6 rfl
 obtain⟨R7,r⟩:=An (m:=72) r rfl rfl
 have R7:=Az R7
 obtain⟨R8,r⟩:=An (m:=73) r rfl rfl
 have R8:=Az R8
 clear r
 have BR:Bk W0 (w.heap.size+1) 106 Z0:=by rw[hW0,hZ];exact Bk.alloc (Blk.new2 _ _ _ _) _
 have BO:Bk W0 (w.heap.size+1+1) 106 Z0:=by rw[hW0,hZ];exact Blk.new3 _ _ _ _ _
 have zW:W0.heap.size=w.heap.size+1+1+1:=by rw[hW0];simp
 clear hZ
 have A0:Z0.take 0=[]:=rfl
 go_enter Tryz.func10,Tryz.ntmps10
 go_upto_region 2 with(fail)
 rw[<-hW0]
 clear hW0 hzero
 go_wp2_with (first|(refine wpList_load_mid rfl 36 _ rfl (w.heap.size) 0 (by rfl) p0 _ R0 Tryz.underlying36 rfl (by rw[l0];kernel_rfl) ?_))
 refine(cL3 (g0.ext X0) oM).mono ?_
 rintro e w1⟨_,rfl,x1,F0,o0⟩
 obtain⟨q0,rfl,lq0,cq0⟩:=o0.rd.cells
 have BR:=BR.ext x1;have BO:=BO.ext x1;have Y1:=X0.trans x1;have d0l:=o0.low;have zy1:=x1.size;have a1:=Ext.upd x1 [w.heap.size+1,w.heap.size+1+1]
 have R1:=As R1 x1
 have R2:=As R2 x1
 have R3:=As R3 x1
 have R4:=As R4 x1
 have R5:=As R5 x1
 have R6:=As R6 x1
 have R7:=x1.cell R7
 have R8:=x1.cell R8
 go_wp2_with (first|(refine Cg rfl 81 _ _ rfl (w.heap.size+1+1) 0 (.agg q0.toArray) (q0) (by rfl) (by rfl) rfl 106 Z0 BO 73 19 n0 lq0 oM (by kernel_rfl) cq0 [w.heap.size+1,w.heap.size+1+1] (by simp) ?_;intro V1 Z1 b1 zv1 BO n1 A1 hB;have X1:=exU Y1 b1 (DK oM oM);have BR:=hB _ _ _ oM BR;rw[A0] at A1;clear hB A0;have R1:=bJ R1 b1 oM;have R2:=bJ R2 b1 oM;have R3:=bJ R3 b1 oM;have R4:=bJ R4 b1 oM;have R5:=bJ R5 b1 oM;have R6:=bJ R6 b1 oM;have R7:=Oi R7 b1 oM;have R8:=Oi R8 b1 oM)|(refine wpList_load_mid rfl 44 _ rfl (w.heap.size) 19 (by rfl) p1 _ R1 Tryz.underlying44 rfl (by rw[l1];kernel_rfl) ?_))
 refine(bJ5 (g1.ext X1) oM).mono ?_
 rintro e w2⟨_,rfl,x2,F1,o1⟩
 obtain⟨q1,rfl,lq1,cq1⟩:=o1.rd.cells
 have BR:=BR.ext x2;have BO:=BO.ext x2;have Y2:=X1.trans x2;have d1l:=o1.low;have zy2:=x2.size;have a2:=Ext.upd x2 [w.heap.size+1,w.heap.size+1+1]
 have R2:=As R2 x2
 have R3:=As R3 x2
 have R4:=As R4 x2
 have R5:=As R5 x2
 have R6:=As R6 x2
 have R7:=x2.cell R7
 have R8:=x2.cell R8
 go_wp2_with (first|(refine Cg rfl 88 _ _ rfl (w.heap.size+1+1) 19 (.agg q1.toArray) (q1) (by rfl) (by rfl) rfl 106 Z1 BO 73 12 n1 lq1 oM (by kernel_rfl) cq1 [w.heap.size+1,w.heap.size+1+1] (by simp) ?_;intro V2 Z2 b2 zv2 BO n2 A2 hB;have X2:=exU Y2 b2 (DK oM oM);have BR:=hB _ _ _ oM BR;rw[A1] at A2;clear hB A1;have R2:=bJ R2 b2 oM;have R3:=bJ R3 b2 oM;have R4:=bJ R4 b2 oM;have R5:=bJ R5 b2 oM;have R6:=bJ R6 b2 oM;have R7:=Oi R7 b2 oM;have R8:=Oi R8 b2 oM)|(refine wpList_load_mid rfl 53 _ rfl (w.heap.size) 31 (by rfl) p2 _ R2 Tryz.underlying53 rfl (by rw[l2];kernel_rfl) ?_))
 refine(aG4 (g2.ext X2) oM).mono ?_
 rintro e w3⟨_,rfl,x3,F2,o2⟩
 obtain⟨q2,rfl,lq2,cq2⟩:=o2.rd.cells
 have BR:=BR.ext x3;have BO:=BO.ext x3;have Y3:=X2.trans x3;have d2l:=o2.low;have zy3:=x3.size;have a3:=Ext.upd x3 [w.heap.size+1,w.heap.size+1+1]
 have R3:=As R3 x3
 have R4:=As R4 x3
 have R5:=As R5 x3
 have R6:=As R6 x3
 have R7:=x3.cell R7
 have R8:=x3.cell R8
 go_wp2_with (first|(refine Cg rfl 96 _ _ rfl (w.heap.size+1+1) 31 (.agg q2.toArray) (q2) (by rfl) (by rfl) rfl 106 Z2 BO 73 15 n2 lq2 oM (by kernel_rfl) cq2 [w.heap.size+1,w.heap.size+1+1] (by simp) ?_;intro V3 Z3 b3 zv3 BO n3 A3 hB;have X3:=exU Y3 b3 (DK oM oM);have BR:=hB _ _ _ oM BR;rw[A2] at A3;clear hB A2;have R3:=bJ R3 b3 oM;have R4:=bJ R4 b3 oM;have R5:=bJ R5 b3 oM;have R6:=bJ R6 b3 oM;have R7:=Oi R7 b3 oM;have R8:=Oi R8 b3 oM)|(refine wpList_load_mid rfl 53 _ rfl (w.heap.size) 46 (by rfl) p3 _ R3 Tryz.underlying53 rfl (by rw[l3];kernel_rfl) ?_))
 refine(aG4 (g3.ext X3) oM).mono ?_
 rintro e w4⟨_,rfl,x4,F3,o3⟩
 obtain⟨q3,rfl,lq3,cq3⟩:=o3.rd.cells
 have BR:=BR.ext x4;have BO:=BO.ext x4;have Y4:=X3.trans x4;have d3l:=o3.low;have zy4:=x4.size;have a4:=Ext.upd x4 [w.heap.size+1,w.heap.size+1+1]
 have R4:=As R4 x4
 have R5:=As R5 x4
 have R6:=As R6 x4
 have R7:=x4.cell R7
 have R8:=x4.cell R8
 go_wp2_with (first|(refine Cg rfl 96 _ _ rfl (w.heap.size+1+1) 46 (.agg q3.toArray) (q3) (by rfl) (by rfl) rfl 106 Z3 BO 73 15 n3 lq3 oM (by kernel_rfl) cq3 [w.heap.size+1,w.heap.size+1+1] (by simp) ?_;intro V4 Z4 b4 zv4 BO n4 A4 hB;have X4:=exU Y4 b4 (DK oM oM);have BR:=hB _ _ _ oM BR;rw[A3] at A4;clear hB A3;have R4:=bJ R4 b4 oM;have R5:=bJ R5 b4 oM;have R6:=bJ R6 b4 oM;have R7:=Oi R7 b4 oM;have R8:=Oi R8 b4 oM)|(refine wpList_load_mid rfl 57 _ rfl (w.heap.size) 61 (by rfl) p4 _ R4 Tryz.underlying57 rfl (by rw[l4];kernel_rfl) ?_))
 refine(aG7 (g4.ext X4) oM).mono ?_
 rintro e w5⟨_,rfl,x5,F4,o4⟩
 obtain⟨q4,rfl,lq4,cq4⟩:=o4.rd.cells
 have BR:=BR.ext x5;have BO:=BO.ext x5;have Y5:=X4.trans x5;have d4l:=o4.low;have zy5:=x5.size;have a5:=Ext.upd x5 [w.heap.size+1,w.heap.size+1+1]
 have R5:=As R5 x5
 have R6:=As R6 x5
 have R7:=x5.cell R7
 have R8:=x5.cell R8
 go_wp2_with (first|(refine Cg rfl 100 _ _ rfl (w.heap.size+1+1) 61 (.agg q4.toArray) (q4) (by rfl) (by rfl) rfl 106 Z4 BO 73 4 n4 lq4 oM (by kernel_rfl) cq4 [w.heap.size+1,w.heap.size+1+1] (by simp) ?_;intro V5 Z5 b5 zv5 BO n5 A5 hB;have X5:=exU Y5 b5 (DK oM oM);have BR:=hB _ _ _ oM BR;rw[A4] at A5;clear hB A4;have R5:=bJ R5 b5 oM;have R6:=bJ R6 b5 oM;have R7:=Oi R7 b5 oM;have R8:=Oi R8 b5 oM)|(refine wpList_load_mid rfl 57 _ rfl (w.heap.size) 65 (by rfl) p5 _ R5 Tryz.underlying57 rfl (by rw[l5];kernel_rfl) ?_))
 refine(aG7 (g5.ext X5) oM).mono ?_
 rintro e w6⟨_,rfl,x6,F5,o5⟩
 obtain⟨q5,rfl,lq5,cq5⟩:=o5.rd.cells
 have BR:=BR.ext x6;have BO:=BO.ext x6;have Y6:=X5.trans x6;have d5l:=o5.low;have zy6:=x6.size;have a6:=Ext.upd x6 [w.heap.size+1,w.heap.size+1+1]
 have R6:=As R6 x6
 have R7:=x6.cell R7
 have R8:=x6.cell R8
 go_wp2_with (first|(refine Cg rfl 100 _ _ rfl (w.heap.size+1+1) 65 (.agg q5.toArray) (q5) (by rfl) (by rfl) rfl 106 Z5 BO 73 4 n5 lq5 oM (by kernel_rfl) cq5 [w.heap.size+1,w.heap.size+1+1] (by simp) ?_;intro V6 Z6 b6 zv6 BO n6 A6 hB;have X6:=exU Y6 b6 (DK oM oM);have BR:=hB _ _ _ oM BR;rw[A5] at A6;clear hB A5;have R6:=bJ R6 b6 oM;have R7:=Oi R7 b6 oM;have R8:=Oi R8 b6 oM)|(refine wpList_load_mid rfl 61 _ rfl (w.heap.size) 69 (by rfl) p6 _ R6 Tryz.underlying61 rfl (by rw[l6];kernel_rfl) ?_))
 refine(cK5 (g6.ext X6) oM).mono ?_
 rintro e w7⟨_,rfl,x7,F6,o6⟩
 obtain⟨q6,rfl,lq6,cq6⟩:=o6.rd.cells
 have BR:=BR.ext x7;have BO:=BO.ext x7;have Y7:=X6.trans x7;have d6l:=o6.low;have zy7:=x7.size;have a7:=Ext.upd x7 [w.heap.size+1,w.heap.size+1+1]
 have R7:=x7.cell R7
 have R8:=x7.cell R8
 go_wp2_with (first|(refine Cg rfl 104 _ _ rfl (w.heap.size+1+1) 69 (.agg q6.toArray) (q6) (by rfl) (by rfl) rfl 106 Z6 BO 73 2 n6 lq6 oM (by kernel_rfl) cq6 [w.heap.size+1,w.heap.size+1+1] (by simp) ?_;intro V7 Z7 b7 zv7 BO n7 A7 hB;have X7:=exU Y7 b7 (DK oM oM);have BR:=hB _ _ _ oM BR;rw[A6] at A7;clear hB A6;have R7:=Oi R7 b7 oM;have R8:=Oi R8 b7 oM))
 refine(bI8 (g7.ext X7) oM).mono ?_
 rintro e w8⟨_,rfl,x8,F7,o7⟩
 obtain⟨ua7,un7,uc7,rfl⟩:=o7.rd.shape
 have BR:=BR.ext x8;have BO:=BO.ext x8;have Y8:=X7.trans x8;have d7l:=o7.low;have zy8:=x8.size;have a8:=Ext.upd x8 [w.heap.size+1,w.heap.size+1+1]
 have R8:=x8.cell R8
 go_wp2_with (first|(refine Cg rfl 62 _ _ rfl (w.heap.size+1+1) 71 (Value.slice ua7 un7 uc7) ([(Value.slice ua7 un7 uc7)]) (by rfl) (by rfl) rfl 106 Z7 BO 73 1 n7 rfl oM (by kernel_rfl) (by intro x hx;simp only[List.mem_cons,List.not_mem_nil,or_false] at hx;subst hx;rfl) [w.heap.size+1,w.heap.size+1+1] (by simp) ?_;intro V8 Z8 b8 zv8 BO n8 A8 hB;have X8:=exU Y8 b8 (DK oM oM);have BR:=hB _ _ _ oM BR;rw[A7] at A8;clear hB A7;have R8:=Oi R8 b8 oM))
 refine(bU2 (g8.ext X8) oM).mono ?_
 rintro e w9⟨_,rfl,x9,F8,o8⟩
 obtain⟨ua8,un8,uc8,rfl⟩:=o8.rd.shape
 have BR:=BR.ext x9;have BO:=BO.ext x9;have Y9:=X8.trans x9;have d8l:=o8.low;have zy9:=x9.size;have a9:=Ext.upd x9 [w.heap.size+1,w.heap.size+1+1]
 go_upto_region 11 with(first|(refine Cg rfl 63 _ _ rfl (w.heap.size+1+1) 72 (Value.slice ua8 un8 uc8) ([(Value.slice ua8 un8 uc8)]) (by rfl) (by rfl) rfl 106 Z8 BO 73 1 n8 rfl oM (by kernel_rfl) (by intro x hx;simp only[List.mem_cons,List.not_mem_nil,or_false] at hx;subst hx;rfl) [w.heap.size+1,w.heap.size+1+1] (by simp) ?_;intro V9 Z9 b9 zv9 BO n9 A9 hB;have X9:=exU Y9 b9 (DK oM oM);have BR:=hB _ _ _ oM BR;rw[A8] at A9;clear hB A8))
 have eZ:Z9=(q0++(q1++(q2++(q3++(q4++(q5++(q6++([(Value.slice ua7 un7 uc7)]++([(Value.slice ua8 un8 uc8)]++[]))))))))):=by
  rw[List.take_of_length_le oM] at A9
  rw[A9]
  simp only[List.append_assoc,List.nil_append,List.append_nil]
 have hone:∀x,x ∈ Z9->x.oneCell'=true:=by
  rw[eZ]
  intro x hx
  simp only[List.mem_append,List.mem_cons,List.not_mem_nil,or_false] at hx
  rcases hx with hx|hx|hx|hx|hx|hx|hx|rfl|rfl
  .
   exact cq0 x hx
  .
   exact cq1 x hx
  .
   exact cq2 x hx
  .
   exact cq3 x hx
  .
   exact cq4 x hx
  .
   exact cq5 x hx
  .
   exact cq6 x hx
  .
   rfl
  rfl
 have eZ:=Lib.hid eZ
 clear A9
 go_wp2_with (first|(refine wpList_load_mid rfl 106 _ rfl (w.heap.size+1+1) 0 (by rfl) Z9 _ BO.ra Tryz.underlying106 rfl (by rw[n9];kernel_rfl) ?_)|(refine BA rfl 106 _ _ rfl (w.heap.size+1) 0 (.agg Z9.toArray) Z9 (by rfl) (by rfl) rfl 106 [] Z0 [] (Bk.cast BR (by simp)) rfl (by rw[n0,n9]) (by rw[n9];kernel_rfl) hone ?_;intro VZ hV BZ))
 have XZ:Ext w VZ:=Ext.ofSet hV X9 oM
 have BZ:=Bk.cast (C:=Z9) BZ (by simp)
 have zvz:VZ.heap.size=V9.heap.size:=(congrArg (fun W=>W.heap.size) hV).trans (wV _ _ _)
 have u9:Upd V9 VZ [w.heap.size+1,w.heap.size+1+1]:=VL hV (by simp)
 have s8:=b9.trans u9;have o8:=o8.keep (Upd.chg s8 (GU oM oM));have u8:=a9.trans s8
 have s7:=b8.trans u8;have o7:=o7.keep (Upd.chg s7 (GU oM oM));have u7:=a8.trans s7
 have s6:=b7.trans u7;have o6:=o6.keep (Upd.chg s6 (GU oM oM));have u6:=a7.trans s6
 have s5:=b6.trans u6;have o5:=o5.keep (Upd.chg s5 (GU oM oM));have u5:=a6.trans s5
 have s4:=b5.trans u5;have o4:=o4.keep (Upd.chg s4 (GU oM oM));have u4:=a5.trans s4
 have s3:=b4.trans u4;have o3:=o3.keep (Upd.chg s3 (GU oM oM));have u3:=a4.trans s3
 have s2:=b3.trans u3;have o2:=o2.keep (Upd.chg s2 (GU oM oM));have u2:=a3.trans s2
 have s1:=b2.trans u2;have o1:=o1.keep (Upd.chg s1 (GU oM oM));have u1:=a2.trans s1
 have s0:=b1.trans u1;have o0:=o0.keep (Upd.chg s0 (GU oM oM))
 refine bodyPost_ret (v:=.agg Z9.toArray) (by first|exact results_cell_row rfl _ _ (w.heap.size+1) _ _ _ _ (by rfl) BZ Tryz.underlying106 rfl (by rw[List.size_toArray,n9];kernel_rfl)) rfl ?_
 refine⟨_,rfl,XZ,_,q0,q1,q2,q3,q4,q5,q6,_,_,F0,F1,F2,F3,F4,F5,F6,F7,F8,by rw[eZ.out],lq0,lq1,lq2,lq3,lq4,lq5,lq6,o0.mono oM,o1.mono oM,o2.mono oM,o3.mono oM,o4.mono oM,o5.mono oM,o6.mono oM,o7.mono oM,o8.mono oM,?_,rfl⟩
 repeat' (first|exact List.Pairwise.nil|(refine List.Pairwise.cons ?_ ?_))
 .
  intro b hb k hk hk2
  have hA:=d0l k hk
  simp only[List.mem_cons,List.not_mem_nil,or_false] at hb
  rcases hb with rfl|rfl|rfl|rfl|rfl|rfl|rfl|rfl
  .
   have hB:=d1l k hk2;omega
  .
   have hB:=d2l k hk2;omega
  .
   have hB:=d3l k hk2;omega
  .
   have hB:=d4l k hk2;omega
  .
   have hB:=d5l k hk2;omega
  .
   have hB:=d6l k hk2;omega
  .
   have hB:=d7l k hk2;omega
  have hB:=d8l k hk2;omega
 .
  intro b hb k hk hk2
  have hA:=d1l k hk
  simp only[List.mem_cons,List.not_mem_nil,or_false] at hb
  rcases hb with rfl|rfl|rfl|rfl|rfl|rfl|rfl
  .
   have hB:=d2l k hk2;omega
  .
   have hB:=d3l k hk2;omega
  .
   have hB:=d4l k hk2;omega
  .
   have hB:=d5l k hk2;omega
  .
   have hB:=d6l k hk2;omega
  .
   have hB:=d7l k hk2;omega
  have hB:=d8l k hk2;omega
 .
  intro b hb k hk hk2
  have hA:=d2l k hk
  simp only[List.mem_cons,List.not_mem_nil,or_false] at hb
  rcases hb with rfl|rfl|rfl|rfl|rfl|rfl
  .
   have hB:=d3l k hk2;omega
  .
   have hB:=d4l k hk2;omega
  .
   have hB:=d5l k hk2;omega
  .
   have hB:=d6l k hk2;omega
  .
   have hB:=d7l k hk2;omega
  have hB:=d8l k hk2;omega
 .
  intro b hb k hk hk2
  have hA:=d3l k hk
  simp only[List.mem_cons,List.not_mem_nil,or_false] at hb
  rcases hb with rfl|rfl|rfl|rfl|rfl
  .
   have hB:=d4l k hk2;omega
  .
   have hB:=d5l k hk2;omega
  .
   have hB:=d6l k hk2;omega
  .
   have hB:=d7l k hk2;omega
  have hB:=d8l k hk2;omega
 .
  intro b hb k hk hk2
  have hA:=d4l k hk
  simp only[List.mem_cons,List.not_mem_nil,or_false] at hb
  rcases hb with rfl|rfl|rfl|rfl
  .
   have hB:=d5l k hk2;omega
  .
   have hB:=d6l k hk2;omega
  .
   have hB:=d7l k hk2;omega
  have hB:=d8l k hk2;omega
 .
  intro b hb k hk hk2
  have hA:=d5l k hk
  simp only[List.mem_cons,List.not_mem_nil,or_false] at hb
  rcases hb with rfl|rfl|rfl
  .
   have hB:=d6l k hk2;omega
  .
   have hB:=d7l k hk2;omega
  have hB:=d8l k hk2;omega
 .
  intro b hb k hk hk2
  have hA:=d6l k hk
  simp only[List.mem_cons,List.not_mem_nil,or_false] at hb
  rcases hb with rfl|rfl
  .
   have hB:=d7l k hk2;omega
  have hB:=d8l k hk2;omega
 .
  intro b hb k hk hk2
  have hA:=d7l k hk
  simp only[List.mem_cons,List.not_mem_nil,or_false] at hb
  rcases hb with rfl
  have hB:=d8l k hk2;omega
 intro b hb;cases hb
end
end Go.Proofs.YtkpmbocbbgocbaaGreat
