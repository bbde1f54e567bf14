/- NM NM2 NM3. -/
import Derived.Test.YtkpmbocbbgocbaaGreatQGp
import Derived.Test.YtkpmbocbbgocbaaGreatQB2
set_option linter.unusedSimpArgs false
set_option linter.unusedVariables false
set_option maxHeartbeats 8000000
set_option maxRecDepth 100000
namespace Go.Proofs.YtkpmbocbbgocbaaGreat
open Go.RowKit Go.G8
theorem cF{B:Nat}{w:World}{g:Nat}(h:Cur B w g):Calls Tryz.prog 164 #[.pointer (some ⟨g,0,none⟩)] w (Dr B w g fun v w'=>∃a b c d e f k:Int,v=.agg #[.int .i64 a,.int .i64 b,.int .i64 c,.int .i64 d,.int .i64 e,.int .i64 f,.int .i64 k]):=by
 have hc0:=h;have E0:Upd w w [g]:=Upd.refl _ _
 have hg0:=h.lt
 go_enter Tryz.func164,Tryz.ntmps164
 go_wp2_with fail
 refine(Ie (cU B) 4).mono ?_
 rintro e w1⟨_,rfl,X1,hc1,x1,rfl,px1,qx1,rx1⟩
 have hz1:=X1.sz
 have E1:Upd w w1 [g]:=X1.up
 have KR1:Blk w1 w.heap.size 161 #[.int .i64 0,.int .i64 0,.int .i64 0,.int .i64 0,.int .i64 0,.int .i64 0,.int .i64 0]:=bU X1
 clear X1
 obtain⟨CR1,FR1,LR1⟩:=KR1.cfl
 have qx1:=qx1 dC;clear rx1
 go_wp2_with fail
 refine(Ie (cU B) 5).mono ?_
 rintro e w2⟨_,rfl,X2,hc2,x2,rfl,px2,qx2,rx2⟩
 have hz2:=X2.sz
 have E2:Upd w w2 [g]:=X2.up
 have KR2:=KR1.upv X2
 clear X2
 clear CR1 FR1 LR1
 obtain⟨CR2,FR2,LR2⟩:=KR2.cfl
 have qx2:=qx2 dC;clear rx2
 obtain rfl|rfl|rfl|rfl|rfl:x2=0\/x2=1\/x2=2\/x2=3\/x2=4:=by omega
 .
  go_wp2_with fail
  refine bodyPost_ret (by simp[results,Tryz.results164,go_sem,CR2,FR2,LR2];try rfl) rfl ?_
  exact⟨_,rfl,by exact Rn,by exact Vn,_,_,_,_,_,_,_,rfl⟩
 .
  go_wp2_with fail
  refine bodyPost_ret (by simp[results,Tryz.results164,go_sem,CR2,FR2,LR2];try rfl) rfl ?_
  exact⟨_,rfl,by exact Rn,by exact Vn,_,_,_,_,_,_,_,rfl⟩
 .
  go_wp2_with fail
  refine(Ie (cU B) 5).mono ?_
  rintro e w3⟨_,rfl,X3,hc3,x3,rfl,px3,qx3,rx3⟩
  have hz3:=X3.sz
  have E3:Upd w w3 [g]:=X3.up
  have KR3:=KR2.upv X3
  clear X3
  clear CR2 FR2 LR2
  obtain⟨CR3,FR3,LR3⟩:=KR3.cfl
  have qx3:=qx3 dC;clear rx3
  go_wp2_with fail
  refine(Ie (cU B) 40).mono ?_
  rintro e w4⟨_,rfl,X4,hc4,x4,rfl,px4,qx4,rx4⟩
  have hz4:=X4.sz
  have E4:Upd w w4 [g]:=X4.up
  have KR4:=KR3.upv X4
  clear X4
  clear CR3 FR3 LR3
  obtain⟨CR4,FR4,LR4⟩:=KR4.cfl
  have qx4:=qx4 dC;clear rx4
  go_wp2_with fail
  refine(Ie (cU B) 100).mono ?_
  rintro e w5⟨_,rfl,X5,hc5,x5,rfl,px5,qx5,rx5⟩
  have hz5:=X5.sz
  have E5:Upd w w5 [g]:=X5.up
  have KR5:=KR4.upv X5
  clear X5
  clear CR4 FR4 LR4
  obtain⟨CR5,FR5,LR5⟩:=KR5.cfl
  have qx5:=qx5 dC;clear rx5
  go_wp2_with fail
  refine bodyPost_ret (by simp[results,Tryz.results164,go_sem,CR5,FR5,LR5];try rfl) rfl ?_
  exact⟨_,rfl,by exact Rn,by exact Vn,_,_,_,_,_,_,_,rfl⟩
 .
  go_wp2_with fail
  refine(Ie (cU B) 100).mono ?_
  rintro e w3⟨_,rfl,X3,hc3,x6,rfl,px6,qx6,rx6⟩
  have hz3:=X3.sz
  have E3:Upd w w3 [g]:=X3.up
  have KR3:=KR2.upv X3
  clear X3
  clear CR2 FR2 LR2
  obtain⟨CR3,FR3,LR3⟩:=KR3.cfl
  have qx6:=qx6 dC;clear rx6
  go_wp2_with fail
  refine bodyPost_ret (by simp[results,Tryz.results164,go_sem,CR3,FR3,LR3];try rfl) rfl ?_
  exact⟨_,rfl,by exact Rn,by exact Vn,_,_,_,_,_,_,_,rfl⟩
 go_wp2_with fail
 refine(Ie (cU B) 100).mono ?_
 rintro e w3⟨_,rfl,X3,hc3,x6,rfl,px6,qx6,rx6⟩
 have hz3:=X3.sz
 have E3:Upd w w3 [g]:=X3.up
 have KR3:=KR2.upv X3
 clear X3
 clear CR2 FR2 LR2
 obtain⟨CR3,FR3,LR3⟩:=KR3.cfl
 have qx6:=qx6 dC;clear rx6
 go_wp2_with fail
 refine bodyPost_ret (by simp[results,Tryz.results164,go_sem,CR3,FR3,LR3];try rfl) rfl ?_
 exact⟨_,rfl,by exact Rn,by exact Vn,_,_,_,_,_,_,_,rfl⟩
theorem Uz{B:Nat}{w:World}{g:Nat}(h:Cur B w g):Calls Tryz.prog 66 #[.pointer (some ⟨g,0,none⟩)] w (Dr B w g fun v w'=>∃l:List Da,Af w.heap.size 161 7 w' v (Fw l)/\l.length<=4):=by
 obtain⟨i0,hi,hy0,hy1,hy2⟩:=info_parts Uj
 have hc0:=h;have E0:Upd w w [g]:=Upd.refl _ _
 have hg0:=h.lt
 go_enter Tryz.func66,Tryz.ntmps66
 have Ol0:Af w.heap.size 161 7 (w.alloc (.cells #[] 161)) (.slice (some ⟨w.heap.size,0,none⟩) 0 0) (Fw []):=Af.lit0 w _ _
 go_wp2_with fail
 refine(Ie (cU B) 5).mono ?_
 rintro e w1⟨_,rfl,X1,hc1,x0,rfl,px0,qx0,rx0⟩
 have hz1:=X1.sz
 have E1:Upd w w1 [g]:=X1.up
 have Ol1:Af w.heap.size 161 7 w1 (.slice (some ⟨w.heap.size,0,none⟩) 0 0) (Fw []):=Af.drawn (by exact pR) X1 oM
 clear X1
 have qx0:=qx0 dC;clear rx0
 go_wp2_with fail
 go_loopw [3,4] (fun out kk wr=>∃(k:Nat) (l:List Da),kk=.int .i64 k/\l.length+k<=4/\Upd w wr [g]/\Cur B wr g/\Af w.heap.size 161 7 wr out (Fw l)) (fun _ kk _=>(intOf kk).toNat)
 case atStart=>exact⟨x0.toNat,[],by rw[Int.toNat_of_nonneg px0],by simp;omega,E1,hc1,Ol1⟩
 case round =>
  obtain⟨k,l,rfl,hl,E2,hc2,Ol2⟩:=hrel
  obtain⟨a0,n0,c0,rfl⟩:=Ol2.shape
  obtain⟨w2,hw⟩:∃w2,wr=w2:=⟨_,rfl⟩
  subst hw
  have hz2:=E2.size
  clear Ol0 Ol1
  by_cases hlt:(k:Int)>0
  .
   go_wp2_with fail
   refine(cF (cU B)).mono ?_
   rintro e w3⟨_,rfl,X3,hc3,y0,y1,y2,y3,y4,y5,y6,rfl⟩
   have hz3:=X3.sz
   have E3:Upd w w3 [g]:=X3.up
   have Ol3:Af w.heap.size 161 7 w3 (.slice a0 n0 c0) (Fw l):=Af.drawn (by exact pR) X3 oM
   clear X3
   have OO:Af w.heap.size 161 7 (w3.alloc (.cells #[.int .i64 y0,.int .i64 y1,.int .i64 y2,.int .i64 y3,.int .i64 y4,.int .i64 y5,.int .i64 y6] 161)) (.slice a0 n0 c0) (Fw l):=Af.ext1 Ol3 ((Ext.refl _).alloc _)
   go_wp2_with (first|(at_builtin;go_loud (refine Zz rfl _ _ 97 rfl 161 i0 _ 7 56 Tryz.underlying97 hi hy0 hy1 hy2 rfl dC w.heap.size _ _ rfl OO _ [y0,y1,y2,y3,y4,y5,y6] rfl (Sl.oneAt _ #[.int .i64 y0,.int .i64 y1,.int .i64 y2,.int .i64 y3,.int .i64 y4,.int .i64 y5,.int .i64 y6] _ 7 _ (by first|rfl|simp) rfl) 1000 (by simp only[Lf,List.length_cons,List.length_nil];omega) oM oM (by simp only[World.size_alloc];omega) ?_;rotate_right;intro vv w4 On h3)))
   obtain⟨a1,n1,c1,rfl⟩:=On.shape
   have Ol4:Af w.heap.size 161 7 w4 (.slice a1 n1 c1) (Fw (l++[⟨y0,⟨y1,y2,y3,y4,y5⟩,y6⟩])):=by(have e:Fw (l++[⟨y0,⟨y1,y2,y3,y4,y5⟩,y6⟩])=Fw l++[y0,y1,y2,y3,y4,y5,y6]:=by simp[Fw,Da.ints]);rw[e];exact On
   have hz4:=h3.size;(try simp only[World.size_alloc] at hz4)
   have E4:Upd w w4 [g]:=Upd.app (by exact Rn) OO (.inr oM) h3
   have hc4:Cur B w4 g:=Cur.app (by exact Vn) OO oM h3
   clear OO h3 On
   go_roundw
   case rel=>exact⟨k - 1,l++[⟨y0,⟨y1,y2,y3,y4,y5⟩,y6⟩],by go_num,by simp;omega,E4,hc4,Ol4⟩
   case measure=>simp[intOf];omega
  go_wp2_with fail
  go_ret
  exact⟨_,rfl,E2,hc2,l,Ol2,by omega⟩
theorem aJ{w0:World}{v:Value}(h:Yg w0 v):Calls Tryz.prog 22 #[v] w0 (Ret w0 fun r w'=>∃p q:Value,r=.tuple #[p,q]/\∃a b:List Da,Gy w' p a/\Gy w' q b/\a.length<=4/\b.length<=5):=by
 go_enter Tryz.func22,Tryz.ntmps22
 go_wp2_with fail
 refine(tB (h.ext Aa)).mono ?_
 rintro e wa⟨_,rfl,hx0,g,rfl,hca⟩
 have hga:=hca.lt
 have hx0:Ext w0 wa:=Ext.trans Aa hx0
 obtain⟨B,hB⟩:∃B,B=w0.heap.size:=⟨_,rfl⟩
 rw[<-hB] at hca hga
 obtain⟨i0,hi,hy0,hy1,hy2⟩:=info_parts Uj
 go_wp2_with fail
 refine(Uz hca).mono ?_
 rintro e w⟨_,rfl,Xa,hc0,a,Oa,ha⟩
 have hx0:Ext w0 w:=hx0.upd_below Xa (fun k hk=>by simp at hk;omega)
 have hza:=Xa.size
 clear Xa hca
 have E0:Upd w w [g]:=Upd.refl _ _
 have hg0:=hc0.lt
 obtain⟨a0,n0,k0,rfl⟩:=Oa.shape
 go_wp2_with fail
 refine(Uz (cU B)).mono ?_
 rintro e w1⟨_,rfl,X1,hc1,b,Ob1,hb⟩
 have hz1:=X1.sz
 have E1:Upd w w1 [g]:=X1.up
 clear X1
 obtain⟨b0,m0,j0,rfl⟩:=Ob1.shape
 go_wp2_with fail
 refine(aA (cU B) 5).mono ?_
 rintro e w2⟨_,rfl,X2,hc2,c,rfl⟩
 have hz2:=X2.sz
 have E2:Upd w w2 [g]:=X2.up
 have Ob2:Af w.heap.size 161 7 w2 (.slice b0 m0 j0) (Fw b):=Af.drawn (by exact pR) X2 oM
 clear X2
 cases c
 rotate_left
 .
  go_wp2_with fail
  refine(pS (cU B) 0 5 oM oM oM).mono ?_
  rintro e w3⟨_,rfl,X3,hc3,y,rfl,py,qy⟩
  have hz3:=X3.sz
  have E3:Upd w w3 [g]:=X3.up
  have Ob3:Af w.heap.size 161 7 w3 (.slice b0 m0 j0) (Fw b):=Af.drawn (by exact pR) X3 oM
  clear X3
  go_wp2_with fail
  refine(tA (cU B) 9 oM oM).mono ?_
  rintro e w4⟨_,rfl,X4,hc4,x,rfl⟩
  have hz4:=X4.sz
  have E4:Upd w w4 [g]:=X4.up
  have Ob4:Af w.heap.size 161 7 w4 (.slice b0 m0 j0) (Fw b):=Af.drawn (by exact pR) X4 oM
  clear X4
  have OO:Af w.heap.size 161 7 (w4.alloc (.cells #[.int .i64 y,.int .i64 0,.int .i64 0,.int .i64 0,.int .i64 0,.int .i64 0,.int .i64 x] 161)) (.slice b0 m0 j0) (Fw b):=Af.ext1 Ob4 ((Ext.refl _).alloc _)
  go_wp2_with (first|(at_builtin;go_loud (refine Zz rfl _ _ 97 rfl 161 i0 _ 7 56 Tryz.underlying97 hi hy0 hy1 hy2 rfl dC w.heap.size _ _ rfl OO _ [y,0,0,0,0,0,x] rfl (Sl.oneAt _ #[.int .i64 y,.int .i64 0,.int .i64 0,.int .i64 0,.int .i64 0,.int .i64 0,.int .i64 x] _ 7 _ (by first|rfl|simp) rfl) 1000 (by simp only[Lf,List.length_cons,List.length_nil];omega) oM oM (by simp only[World.size_alloc];omega) ?_;rotate_right;intro vv w5 On h3)))
  obtain⟨a1,n1,c1,rfl⟩:=On.shape
  have Ob5:Af w.heap.size 161 7 w5 (.slice a1 n1 c1) (Fw (b++[⟨y,⟨0,0,0,0,0⟩,x⟩])):=by(have e:Fw (b++[⟨y,⟨0,0,0,0,0⟩,x⟩])=Fw b++[y,0,0,0,0,0,x]:=by simp[Fw,Da.ints]);rw[e];exact On
  have hz5:=h3.size;(try simp only[World.size_alloc] at hz5)
  have E5:Upd w w5 [g]:=Upd.app (by exact Rn) OO (.inr oM) h3
  have hc5:Cur B w5 g:=Cur.app (by exact Vn) OO oM h3
  clear OO h3 On
  go_wp2_with fail
  go_ret2
  exact⟨_,rfl,hx0.upd_below E5 (fun k hk=>by simp at hk;omega),(.slice a0 n0 k0),(.slice a1 n1 c1),rfl,a,(b++[(⟨y,⟨0,0,0,0,0⟩,x⟩:Da)]),(Af.drawn Oa E5 oM).ints,Ob5.ints,ha,by simp;omega⟩
 go_wp2_with fail
 go_ret2
 exact⟨_,rfl,hx0.upd_below E2 (fun k hk=>by simp at hk;omega),(.slice a0 n0 k0),(.slice b0 m0 j0),rfl,a,b,(Af.drawn Oa E2 oM).ints,Ob2.ints,ha,by omega⟩
end Go.Proofs.YtkpmbocbbgocbaaGreat
