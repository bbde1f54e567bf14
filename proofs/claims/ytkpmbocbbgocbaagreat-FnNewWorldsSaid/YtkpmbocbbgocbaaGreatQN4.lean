/- NL2 NL3. -/
import Derived.Test.YtkpmbocbbgocbaaGreatQN2
import Derived.Test.YtkpmbocbbgocbaaGreatQB11
set_option linter.unusedSimpArgs false
set_option linter.unusedVariables false
set_option maxHeartbeats 16000000
set_option maxRecDepth 100000
namespace Go.Proofs.YtkpmbocbbgocbaaGreat
open Go.RowKit Go.G8
theorem Wu{i:Int}{l:List Da}(h:i=4\/i=5):Dm ⟨i,l,[],0⟩=Fo l:=by
 unfold Dm
 rw[show Ny l [] ([]:List Jd).length=some 0 from rfl]
 rcases h with rfl|rfl <;> simp
theorem Vd{i:Int}{l:List Da}(h:i=4\/i=5):(Dm (Ai i l)&&decide ((Ai i l).Id=i))=Fo l:=by
 unfold Ai
 rw[Wu h]
 cases e:Fo l
 .
  simp[Dm]
 rw[if_pos rfl,Wu h,e];simp
theorem oW:Gl Gi=true:=by
 have k:Oc mP=true:=by kernel_rfl
 have hs:Ii []=true:=Jq Ex.nil
 have hd:Eh ⟨0,0,0,[]⟩=true:=by simp[Eh,hs,inb,Ea,Ej,Nh]
 have he:Jn []=true:=Qe ⟨by simp,fun i hi=>absurd hi (by simp)⟩
 have bk:Er ⟨0,0,[]⟩=true:=by simp[Er,inb,Ea,he,Pm]
 have p:Jl Gi=true:=by
  unfold Jl
  rw[show Oc Gi.Two=true from k,show Eh Gi.Head=true from hd,show Er Gi.Book=true from bk]
  rfl
 have m:Li Gi=true:=by
  unfold Li
  rw[show(Dn Gi.Head.Seen Gi.Book.Entries).isSome=true from rfl,show eqB (Td Gi.Head.Seen Gi.Book.Entries) Gi.Seen=true from Fc rfl]
  rfl
 have o:Ph Gi=true:=Fc rfl
 have n:Rs Gi=true:=by
  unfold Rs
  rw[if_neg (show ¬ Gi.More=true from by simp[Gi])]
  exact Fc rfl
 unfold Gl
 rw[p,m,o,n];rfl
theorem oY:Kt Kw=true:=by
 have c:Mk Kw.Disk=true:=by kernel_rfl
 have s:Gg Kw.State=true:=by
  unfold Gg
  rw[show Iu Kw.State.Pairs=true from Pi (fun i hi=>absurd hi (by simp[Kw])),show Kd Kw.State.Jobs=true from Om ⟨by simp[Kw],fun i hi=>absurd hi (by simp[Kw])⟩]
  rfl
 unfold Kt
 rw[c,s];rfl
theorem dQ{i:Int}(h:Ga i=true):Et ⟨i,0,⟨⟨0,0,0,0,0,[]⟩⟩,false,⟨0,0,0,0,0⟩,0⟩ i true=true:=by
 have o:Pz []=true:=Qt ⟨by simp,fun i hi=>absurd hi (by simp)⟩
 simp[Et,Hd,h,inb,Ir,Ea,o,opZ]
theorem Yr{i:Int}(h:i=2\/i=3):Et (Dw i) i true=true:=by
 rcases h with rfl|rfl
 .
  rw[Kk (i:=2) dC];exact dQ dC
 rw[Kk (i:=3) dC];exact dQ dC
theorem uA:Gh ⟨[],[]⟩=true:=by
 have c:Xn []=true:=Tk (by simp[eR])
 simp[Gh,c]
theorem My(a b:List Da):Ch (Hb a b)=(Fo a&&Fo b):=by
 have e4:=Vd (i:=4) (l:=a) (Or.inl rfl)
 have e5:=Vd (i:=5) (l:=b) (Or.inr rfl)
 have c:Dh (Hb a b)=(Fo a&&Fo b):=by
  rw[<-e4,<-e5]
  have u4:Jk (Hb a b) 4=true:=rfl
  have u5:Jk (Hb a b) 5=true:=rfl
  unfold Dh
  rw[u4,u5]
  simp only[Bool.true_and,Bool.and_assoc]
  rfl
 have u0:Jk (Hb a b) 0=true:=rfl
 have u1:Jk (Hb a b) 1=true:=rfl
 have s:Hg (Hb a b)=true:=by
  unfold Hg
  rw[show Jk (Hb a b) 2=true from rfl,show Jk (Hb a b) 3=true from rfl]
  rw[show Et (Hb a b).Left 2 true=true from Yr (Or.inl rfl),show Et (Hb a b).Right 3 true=true from Yr (Or.inr rfl)]
  rfl
 unfold Ch
 rw[c,s,u0,u1]
 rw[show Mn (Hb a b).Log true=true from oW,show Ho (Hb a b).Store true=true from oY]
 rw[show He (Hb a b).Clocks=true from by kernel_rfl,show Gh (Hb a b).Net=true from uA]
 rw[show decide ((Hb a b).Up.length=6)=true from rfl]
 cases Fo a <;> cases Fo b <;> rfl
def sF(F:Nat->List Nat)(A B:List Nat):Nat->List Nat
 | 0=>F 0|1=>F 1|2=>F 2|3=>F 3|4=>A|5=>B|_=>F 4
theorem vU{F:Nat->List Nat}{A B:List Nat}{p m:Nat}(two:∀k l,k<l->l<5->∀i,i ∈ F k->i ∈ F l->False)(lo:∀k,k<5->∀i,i ∈ F k->m<=i)(hA:∀i,i ∈ A->i<p)(hB:∀i,i ∈ B->p<=i/\i<m)(hp:p<=m):∀k l,k<l->l<7->∀i,i ∈ sF F A B k->i ∈ sF F A B l->False:=by
 intro k l hkl hl i h1 h2
 have ek:k=0\/k=1\/k=2\/k=3\/k=4\/k=5:=by omega
 have el:l=1\/l=2\/l=3\/l=4\/l=5\/l=6:=by omega
 have a4:∀j,j<5->i ∈ F j->i ∈ A->False:=fun j hj x y=>by have:=lo j hj i x;have:=hA i y;omega
 have b4:∀j,j<5->i ∈ F j->i ∈ B->False:=fun j hj x y=>by have:=lo j hj i x;have:=hB i y;omega
 have ab:i ∈ A->i ∈ B->False:=fun x y=>by have:=hA i x;have:=hB i y;omega
 rcases ek with rfl|rfl|rfl|rfl|rfl|rfl <;> rcases el with rfl|rfl|rfl|rfl|rfl|rfl <;> (first|(exfalso;omega)|exact ab h1 h2|exact a4 _ dC h1 h2|exact b4 _ dC h1 h2|exact a4 4 dC h2 h1|exact b4 4 dC h2 h1|exact two _ _ dC dC i h1 h2|exact two _ 4 dC dC i h1 h2)
theorem uL{F:Nat->List Nat}{A B:List Nat}{m:Nat}(h:∀k,k<5->∀i,i ∈ F k->i<m)(hA:∀i,i ∈ A->i<m)(hB:∀i,i ∈ B->i<m):∀k,k<7->∀i,i ∈ sF F A B k->i<m:=by
 intro k hk
 have ek:k=0\/k=1\/k=2\/k=3\/k=4\/k=5\/k=6:=by omega
 rcases ek with rfl|rfl|rfl|rfl|rfl|rfl|rfl
 .
  exact h 0 dC
 .
  exact h 1 dC
 .
  exact h 2 dC
 .
  exact h 3 dC
 .
  exact hA
 .
  exact hB
 exact h 4 dC
theorem rU{F:Nat->List Nat}{A B:List Nat}{x:Nat}(h:∀k,k<5->x ∉ F k)(hA:x ∉ A)(hB:x ∉ B):∀k,k<7->x ∉ sF F A B k:=by
 intro k hk
 have ek:k=0\/k=1\/k=2\/k=3\/k=4\/k=5\/k=6:=by omega
 rcases ek with rfl|rfl|rfl|rfl|rfl|rfl|rfl
 .
  exact h 0 dC
 .
  exact h 1 dC
 .
  exact h 2 dC
 .
  exact h 3 dC
 .
  exact hA
 .
  exact hB
 exact h 4 dC
theorem Rf{P:Program}{ops:Array Oper}{S:World->Prop}{op:Oper}{a:Act}(hw:Region.wanted op (yielded ops a.tmps)=true)(ty:TypeId)(x:Operand)(ho:op.op=.load ty x)
  (g:Nat) (hx:a.eval x=.pointer (some ⟨g,0,none⟩)) (cs:Array Value) (t:TypeId) (d:TypeDesc) (hS:∀w,S w->Blk w g t cs)
  (hu:P.underlying ty=some d) (hd:(match d with|.struct _|.array _ _=>true|_=>false)=true) (hi:(P.info? ty).map (·.size)=some cs.size):YieldsIf P ops S op (.agg cs) a :=
 .inl ⟨hw,fun w hw'=>by
  unfold execOp
  simp only[ho,hx,Instr.loadAt,Instr.sureAddr,Sem.run_bind,Sem.run_pure,Result.andThen_ok,run_loadVar_row w g t ty cs (0,0) d (hS w hw') hu hd hi]⟩
theorem Bk.setLast{w:World}{g n:Nat}{t:TypeId}{R:List Value}{x:Value}(h:Bk w g t (R++[x]))(hR:R.length=n)(v:Value):Bk (w.setCell ⟨g,n,none⟩ v) g t (R++[v]):=by
 have:=Blk.set_ h n v
 have e:(R++[x]).toArray.setIfInBounds n v=(R++[v]).toArray:=by
  subst hR;simp[List.set_append]
 rw[e] at this
 exact this
theorem rV(w:World)(e:TypeId):Sl 1 (w.alloc (.cells #[.bool true] e)) (.slice (some ⟨w.heap.size,0,none⟩) 1 1) [.bool true] :=
 Own.sl (Own.of_blk (B:=w.heap.size) (cap:=1) (cur:=#[.bool true]) (Blk.new _ _ _) (Nat.le_refl _) rfl rfl (Nat.le_refl _) dC (fun j hj=>by simp))
theorem rW{k:Nat}:(List.replicate k true).map Value.bool++[.bool true]=(List.replicate (k+1) true).map Value.bool:=by
 rw[List.replicate_succ',List.map_append];rfl
theorem bI:(Tryz.prog.info? 4).map (fun i=>(i.zero,i.size,i.bytes))=some (some (.bool false),1,1):=by kernel_rfl
theorem jL{w:World}{u v:Value}{a b:List Da}(h1:Gy w u a)(h2:Gy w v b)(e1:a.length<=1048576)(e2:b.length<=1048576):Calls Tryz.prog 24 #[u,v] w (Ret w fun r w'=>∃r',r=.tuple #[r',.bool (Fo a&&Fo b)]/\∃F,Gz w.heap.size w' r' (Gd a b) F):=by
 obtain⟨a0,n0,k0,rfl⟩:=h1.shape
 obtain⟨b0,m0,j0,rfl⟩:=h2.shape
 have h1:Gy w (.slice a0 n0 k0) a:=h1
 have h2:Gy w (.slice b0 m0 j0) b:=h2
 obtain⟨W1,hW1⟩:∃W1,W1=w.alloc (.cells Tryz.zeroCells106 106):=⟨_,rfl⟩
 have E1:Ext w W1:=by rw[hW1];exact(Ext.refl _).alloc _
 have K1:Blk W1 w.heap.size 106 Tryz.zeroCells106:=by rw[hW1];exact Blk.new _ _ _
 have z1:W1.heap.size=w.heap.size+1:=by rw[hW1];simp
 have y1:=Nat.le_of_eq z1;have y2:=Nat.le_of_eq z1.symm;clear z1
 go_enter Tryz.func24,Tryz.ntmps24
 go_upto_region 1 with(fail)
 rw[<-hW1];clear hW1
 go_wp2_with fail
 refine(Wr (Gy.ext h1 Aa) 4 e1).mono ?_
 rintro e w2⟨_,rfl,x2,FA,oA⟩
 have E2:=E1.trans x2;have K2:=K1.ext x2
 obtain⟨c0a,c0n,c0k,c1a,c1n,c1k,eA⟩:=Ut oA
 subst eA
 go_wp2_with (first|(refine Fq rfl 100 (.tmp 6) (.tmp 11) rfl rfl rfl _ (show Blk _ w2.heap.size 100 #[.int .i64 0,.slice none 0 0,.slice none 0 0,.int .i64 0] from by exact Bv) (by kernel_rfl) rfl (by kernel_rfl) ?_;intro B6))
 obtain⟨W3,hW3⟩:∃W3,W3=(w2.alloc (.cells #[.int .i64 0,.slice none 0 0,.slice none 0 0,.int .i64 0] 100)).setRow w2.heap.size #[.int .i64 (Ai 4 a).Id,.slice c0a c0n c0k,.slice c1a c1n c1k,.int .i64 (Ai 4 a).Last]:=⟨_,rfl⟩
 have X3:Ext w2 W3:=by rw[hW3];exact Aa
 have z3:W3.heap.size=w2.heap.size+1:=by rw[hW3];simp
 have y3:=Nat.le_of_eq z3;have y3':=Nat.le_of_eq z3.symm;clear z3
 rw[<-hW3] at B6 ⊢;clear hW3
 have E3:=E2.trans X3;have K3:=K2.ext X3
 refine(Wr (Gy.ext h2 Aa) 5 e2).mono ?_
 rintro e w4⟨_,rfl,x4,FB,oB⟩
 have E4:=E3.trans x4;have K4:=K3.ext x4;have B6:=B6.ext x4
 obtain⟨d0a,d0n,d0k,d1a,d1n,d1k,eB⟩:=Ut oB
 subst eB
 go_upto_region 3 with(first|(refine Fq rfl 100 (.tmp 7) (.tmp 13) rfl rfl rfl _ (show Blk _ w4.heap.size 100 #[.int .i64 0,.slice none 0 0,.slice none 0 0,.int .i64 0] from by exact Bv) (by kernel_rfl) rfl (by kernel_rfl) ?_;intro B7))
 obtain⟨W5,hW5⟩:∃W5,W5=(w4.alloc (.cells #[.int .i64 0,.slice none 0 0,.slice none 0 0,.int .i64 0] 100)).setRow w4.heap.size #[.int .i64 (Ai 5 b).Id,.slice d0a d0n d0k,.slice d1a d1n d1k,.int .i64 (Ai 5 b).Last]:=⟨_,rfl⟩
 have X5:Ext w4 W5:=by rw[hW5];exact Aa
 have z5:W5.heap.size=w4.heap.size+1:=by rw[hW5];simp
 have y5:=Nat.le_of_eq z5;have y5':=Nat.le_of_eq z5.symm;clear z5
 rw[<-hW5] at B7 ⊢;clear hW5
 have E5:=E4.trans X5;have K5:=K4.ext X5;have B6:=B6.ext X5
 have s2:=x2.size;have s4:=x4.size
 have lA:=oA.low;have lB:=oB.low
 have lA:∀i,i ∈ FA->i<w2.heap.size:=fun i hi=>(lA i hi).2
 have lB:∀i,i ∈ FB->w2.heap.size<=i/\i<W5.heap.size:=fun i hi=>⟨by have:=(lB i hi).1;omega,by have:=(lB i hi).2;omega⟩
 have oA:Db (w.heap.size+1) W5 _ (Ai 4 a) FA:=(Db.keep oA (Chg.ext (Chg.refl _ _) (X3.trans (x4.trans X5)))).mono oM
 have oB:Db (w.heap.size+1) W5 _ (Ai 5 b) FB:=(Db.keep oB (Chg.ext (Chg.refl _ _) X5)).mono oM
 have lA:=Lib.hid lA;have lB:=Lib.hid lB
 refine wp_region_held_drew (S:=fun w9=>Blk w9 w2.heap.size 100 #[.int .i64 (Ai 4 a).Id,.slice c0a c0n c0k,.slice c1a c1n c1k,.int .i64 (Ai 4 a).Last]/\Blk w9 w4.heap.size 100 #[.int .i64 (Ai 5 b).Id,.slice d0a d0n d0k,.slice d1a d1n d1k,.int .i64 (Ai 5 b).Last]) (by kernel_rfl) (by exact⟨Bv,Bv⟩) (fun hHeld=>?_)
 refine wpAnyH_take (i:=4) rfl (by kernel_rfl) (by kernel_rfl) (by kernel_rfl) (fun _ _ _ h=>h) (Rf (by rfl) 100 (.tmp 6) (by rfl) w2.heap.size (by rfl) #[.int .i64 (Ai 4 a).Id,.slice c0a c0n c0k,.slice c1a c1n c1k,.int .i64 (Ai 4 a).Last] 100 _ (fun w hw=>hw.1) Tryz.underlying100 rfl (by kernel_rfl)) (by assumption) ?_
 (try simp only[Ab,Act.put])
 refine wpAnyH_take (i:=5) rfl (by kernel_rfl) (by kernel_rfl) (by kernel_rfl) (fun _ _ _ h=>h) (Rf (by rfl) 100 (.tmp 7) (by rfl) w4.heap.size (by rfl) #[.int .i64 (Ai 5 b).Id,.slice d0a d0n d0k,.slice d1a d1n d1k,.int .i64 (Ai 5 b).Last] 100 _ (fun w hw=>hw.2) Tryz.underlying100 rfl (by kernel_rfl)) (by assumption) ?_
 (try simp only[Ab,Act.put])
 refine Va ⟨PkS a b,W5,_,5,(fun k=>match k with|0=>14|1=>15|2=>16|3=>17|_=>20),21,8,(fun k=>.slice (some ⟨k,0,none⟩) 6 6),(fun k=>.pointer (some ⟨k,0,none⟩)),(.cells #[.int .i64 0,.int .i64 0,.int .i64 0,.int .i64 0,.int .i64 0,.int .i64 0] 2),(.cells Tryz.zeroCells106 106),true⟩ (fun _ x=>⟨B6.ext x,B7.ext x⟩) ⟨tY a b,rL a b,fQ a b,(by decide:∀k:Nat,k<5->(fun k=>match k with|0=>14|1=>15|2=>16|3=>17|_=>20) k≠21),(by decide:∀k:Nat,k<5->(fun k=>match k with|0=>14|1=>15|2=>16|3=>17|_=>20) k≠8),(by decide:(21:Nat)≠8)⟩ (fun k=>match k with|0=>0|1=>1|2=>2|3=>3|_=>6) 7 9 (fun j f g=>#[decide (0<j),decide (1<j),decide (2<j),decide (3<j),true,true,decide (4<j),f,false,g,false]) 2 rfl (Ext.drew (Ext.refl _)) (by kernel_rfl) (by rfl) ?_ ?_ ?_ ?_ ?_ ?_ ?_ ?_ ?_
 .
  intro j f g hj hg hne
  have hj:j<=5:=hj
  have hne:j<5\/f=false:=hne
  have hj7:j=0\/j=1\/j=2\/j=3\/j=4\/j=5:=by omega
  rcases hj7 with rfl|rfl|rfl|rfl|rfl|rfl
  all_goals (cases f <;> cases g <;> (first|(simp at hne;done)|(refine Eq.trans (b:=true) ?_ rfl;kernel_rfl)))
 .
  intro j f g hj hg hne h
  have hj:j<=5:=hj
  have hne:j<5\/f=false:=hne
  have h2:=congrArg List.isEmpty h
  have hj7:j=0\/j=1\/j=2\/j=3\/j=4\/j=5:=by omega
  rcases hj7 with rfl|rfl|rfl|rfl|rfl|rfl
  all_goals (cases f <;> cases g)
  all_goals (first|exact absurd h2 (by kernel_rfl:¬ _)|(simp at hne;done)|(exact Bool.noConfusion (h2.symm.trans (by kernel_rfl:_=false))))
 .
  intro j f g hj
  have hj:j<5:=hj
  have hj7:j=0\/j=1\/j=2\/j=3\/j=4:=by omega
  rcases hj7 with rfl|rfl|rfl|rfl|rfl
  all_goals (cases f <;> cases g <;> rfl)
 .
  intro j g hj
  have hj:j<=5:=hj
  have hj7:j=0\/j=1\/j=2\/j=3\/j=4\/j=5:=by omega
  rcases hj7 with rfl|rfl|rfl|rfl|rfl|rfl
  all_goals (cases g <;> rfl)
 .
  intro j f hj _
  have hj:j<=5:=hj
  have hj7:j=0\/j=1\/j=2\/j=3\/j=4\/j=5:=by omega
  rcases hj7 with rfl|rfl|rfl|rfl|rfl|rfl
  all_goals (cases f <;> rfl)
 .
  intro j a9 V9 hj hx9 hk K hK
  have hj:j<5:=hj
  have hx9:Ext W5 V9:=hx9
  clear hk
  have hj7:j=0\/j=1\/j=2\/j=3\/j=4:=by omega
  rcases hj7 with rfl|rfl|rfl|rfl|rfl
  .
   refine wpOp_step rfl (fun K2 hK2=>?_)
   (try simp only[Ab])
   rw[if_pos (by rfl)]
   go_simp
   go_at_call 77
   refine(oH _).mono ?_
   rintro e v⟨_,rfl,hx,G,o⟩
   exact hK2 _ _ (hK _ _ _ (Ext.trans Aa hx) o)
  .
   refine wpOp_step rfl (fun K2 hK2=>?_)
   (try simp only[Ab])
   rw[if_pos (by rfl)]
   go_simp
   go_at_call 78
   refine(iH _).mono ?_
   rintro e v⟨_,rfl,hx,t0,t1,s0,s1,rfl,o0,o1,hd⟩
   have o:Dy V9.heap.size v _ Kw _:=⟨t0,t1,.slice none 0 0,.slice none 0 0,s0,s1,rfl,o0,o1,Af.nil _ _ _ _,Af.nil _ _ _ _,hd,rfl⟩
   exact hK2 _ _ (hK _ _ _ (Ext.trans Aa hx) o)
  .
   refine wpOp_step rfl (fun K2 hK2=>?_)
   (try simp only[Ab])
   rw[if_pos (by rfl)]
   go_simp
   go_at_call 79
   refine(Yf _ 2).mono ?_
   rintro e v⟨_,rfl,hx,t7,rfl,h9⟩
   have o:Cs V9.heap.size v _ (Dw 2) (Be [t7]):=⟨t7,rfl,h9,rfl⟩
   exact hK2 _ _ (hK _ _ _ (Ext.trans Aa hx) o)
  .
   refine wpOp_step rfl (fun K2 hK2=>?_)
   (try simp only[Ab])
   rw[if_pos (by rfl)]
   go_simp
   go_at_call 79
   refine(Yf _ 3).mono ?_
   rintro e v⟨_,rfl,hx,t7,rfl,h9⟩
   have o:Cs V9.heap.size v _ (Dw 3) (Be [t7]):=⟨t7,rfl,h9,rfl⟩
   exact hK2 _ _ (hK _ _ _ (Ext.trans Aa hx) o)
  refine wpOp_step rfl (fun K2 hK2=>?_)
  (try simp only[Ab])
  rw[if_pos (by rfl)]
  go_simp
  go_at_call 80
  refine(nZ _).mono ?_
  rintro e v⟨_,rfl,hx,G,o⟩
  exact hK2 _ _ (hK _ _ _ (Ext.trans Aa hx) o)
 .
  intro a9 V9 K hK
  refine wpOp_step rfl (fun K2 hK2=>?_)
  (try simp only[Ab])
  rw[if_pos (by rfl)]
  have hm:∀W:World,(Instr.makeSlice 62 (.int .i64 6) (.int .i64 6)).run Tryz.prog W=.ok (.slice (some ⟨W.heap.size,0,none⟩) 6 6) (W.alloc (.cells #[.int .i64 0,.int .i64 0,.int .i64 0,.int .i64 0,.int .i64 0,.int .i64 0] 2)):=fun W=>by kernel_rfl
  go_simp
  (try rw[hm V9])
  (try go_simp)
  exact hK2 _ _ hK
 .
  intro _ a9 V9 K hK
  refine wpOp_step rfl (fun K2 hK2=>?_)
  (try simp only[Ab])
  rw[if_pos (by rfl)]
  go_simp
  exact hK2 _ _ hK
 intro g
 cases g
 .
  intro a9 w8 V F bx bz hg h
  clear hg
  change wpAnyH _ _ _ _ _ 3 _ _ _
  obtain⟨act,ext,parts,two,hx,hy,hxy⟩:=h
  have hx:w8.heap[bx]?=some (.cells #[.int .i64 0,.int .i64 0,.int .i64 0,.int .i64 0,.int .i64 0,.int .i64 0] 2)/\W5.heap.size<=bx/\∀k,k<5->bx ∉ F k:=hx rfl
  obtain⟨hx1,hx2,hx3⟩:=hx
  have ext:Ext W5 w8:=ext
  have two:=Lib.hid two;have hx3:=Lib.hid hx3
  have X9:Ext w w8:=E5.trans ext
  have K9:Blk w8 (w.heap.size) 106 Tryz.zeroCells106:=K5.ext ext
  have B6:=B6.ext ext;have B7:=B7.ext ext
  simp only[Yo,Rv,Bool.and_false,Bool.and_true,if_true,if_false,Bool.false_eq_true] at act
  obtain⟨x0a,x0n,x0k,x1a,x1n,x1k,x2a,x2n,x2k,x3a,x3n,x3k,x4a,x4n,x4k,x5a,x5n,x5k,x6a,x6n,x6k,x7a,x7n,x7k,x8a,x8n,x8k,e0⟩:=Xv (parts 0 (by decide:(0:Nat)<5))
  obtain⟨y0a,y0n,y0k,y1a,y1n,y1k,y2a,y2n,y2k,y3a,y3n,y3k,e1⟩:=Uc (parts 1 (by decide:(1:Nat)<5))
  obtain⟨z0a,z0n,z0k,e2⟩:=Sw (parts 2 (by decide:(2:Nat)<5))
  obtain⟨u0a,u0n,u0k,e3⟩:=Sy (parts 3 (by decide:(3:Nat)<5))
  obtain⟨e0a,e0n,e0k,e1a,e1n,e1k,e4⟩:=lL (parts 4 (by decide:(4:Nat)<5))
  have P0:Io W5.heap.size w8 (V 0) Gi (F 0):=parts 0 (by decide:(0:Nat)<5);have P1:Dy W5.heap.size w8 (V 1) Kw (F 1):=parts 1 (by decide:(1:Nat)<5);have P2:Cs W5.heap.size w8 (V 2) (Dw 2) (F 2):=parts 2 (by decide:(2:Nat)<5);have P3:Cs W5.heap.size w8 (V 3) (Dw 3) (F 3):=parts 3 (by decide:(3:Nat)<5);have P4:Im W5.heap.size w8 (V 4) ⟨[],[]⟩ (F 4):=parts 4 (by decide:(4:Nat)<5)
  have low:∀k,k<5->∀i,i ∈ F k->W5.heap.size<=i/\i<w8.heap.size:=fun k hk i hi=>fQ a b k _ _ _ _ (parts k hk) i hi
  have low:=Lib.hid low
  clear parts hx
  rw[e0] at act P0
  rw[e1] at act P1
  rw[e2] at act P2
  rw[e3] at act P3
  rw[e4] at act P4
  clear e0 e1 e2 e3 e4
  subst act
  simp only[Act.put,Gp]
  clear hy hxy
  refine wpAnyH_take (i:=8) (v:=.agg (([.slice x0a x0n x0k,.slice x1a x1n x1k,.slice x2a x2n x2k,.slice x3a x3n x3k,.int .i64 0,.int .i64 0,.int .i64 0,.slice x4a x4n x4k,.int .i64 0,.int .i64 0,.int .i64 0,.slice x5a x5n x5k,.bool false,.int .i64 0,.int .i64 0,.slice x6a x6n x6k,.slice x7a x7n x7k,.int .i64 0,.slice x8a x8n x8k]:List Value)++(([.slice y0a y0n y0k,.slice y1a y1n y1k,.int .i64 0,.int .i64 0,.slice y2a y2n y2k,.slice y3a y3n y3k,.int .i64 0,.int .i64 0,.int .i64 0,.int .i64 0,.int .i64 0,.int .i64 0]:List Value)++(([.int .i64 2,.int .i64 0,.int .i64 0,.int .i64 0,.int .i64 0,.int .i64 0,.int .i64 0,.slice z0a z0n z0k,.bool false,.int .i64 0,.int .i64 0,.int .i64 0,.int .i64 0,.int .i64 0,.int .i64 0]:List Value)++(([.int .i64 3,.int .i64 0,.int .i64 0,.int .i64 0,.int .i64 0,.int .i64 0,.int .i64 0,.slice u0a u0n u0k,.bool false,.int .i64 0,.int .i64 0,.int .i64 0,.int .i64 0,.int .i64 0,.int .i64 0]:List Value)++(([.int .i64 (Ai 4 a).Id,.slice c0a c0n c0k,.slice c1a c1n c1k,.int .i64 (Ai 4 a).Last]:List Value)++(([.int .i64 (Ai 5 b).Id,.slice d0a d0n d0k,.slice d1a d1n d1k,.int .i64 (Ai 5 b).Last]:List Value)++(([.slice e0a e0n e0k,.slice e1a e1n e1k]:List Value)++(([.slice (some ⟨bx,0,none⟩) 6 6]:List Value)++(([.slice none 0 0]:List Value)++([]:List Value)))))))))).toArray) rfl (by kernel_rfl) (by kernel_rfl) (by kernel_rfl) (fun _ _ _ h=>h) (Or.inl ⟨by rfl,?_⟩) (by first|assumption|exact⟨B6,B7⟩) ?_
  focus(intro w hSw;kernel_rfl)
  simp only[Act.put,Gp]
  refine wr1 9 fun Kz hKz=>?_
  (try simp only[Ab])
  rw[if_pos (by rfl)]
  go_simp
  refine hKz.out _ _ (by(try dsimp only);first|(exact⟨by exact Bv,by exact Bv⟩)|(exact⟨Blk.rowFar B6 oM _,Blk.rowFar B7 oM _⟩)) (fun hHeld=>?_)
  clear hKz Kz
  (try simp only[Ab,Act.put])
  obtain⟨w9,hw9⟩:∃W,W=w8.alloc (.cells Tryz.zeroCells106 106):=⟨_,rfl⟩
  have XE:Ext w8 w9:=by rw[hw9];exact(Ext.refl _).alloc _
  have zE:=XE.size
  have hy1:Blk w9 w8.heap.size 106 Tryz.zeroCells106:=by rw[hw9];exact Blk.new _ _ _
  rw[<-hw9]
  obtain⟨by_,hby⟩:∃n,n=w8.heap.size:=⟨_,rfl⟩
  have hy2:W5.heap.size<=by_:=by rw[hby];exact ext.size
  have hy3:∀k,k<5->by_ ∉ F k:=fun k hk hm=>by have:=(low.out k hk _ hm).2;omega
  have hxy:bx≠by_:=by have:=Re hx1;omega
  have hy3:=Lib.hid hy3
  rw[<-hby] at hy1 ⊢
  clear hw9 hby
  have ext:=ext.trans XE;have X9:=X9.trans XE;have K9:=K9.ext XE;have B6:=B6.ext XE;have B7:=B7.ext XE;have hx1:=Ub hx1 XE
  have P0:=Io.keep P0 (Chg.ext (Chg.refl _ _) XE);have P1:=Dy.keep P1 (Chg.ext (Chg.refl _ _) XE);have P2:=Cs.keep P2 (Chg.ext (Chg.refl _ _) XE);have P3:=Cs.keep P3 (Chg.ext (Chg.refl _ _) XE);have P4:=Im.keep P4 (Chg.ext (Chg.refl _ _) XE)
  have z9:=X9.size;have y9:=ext.size
  refine wr1 10 fun Kz hKz=>?_
  (try simp only[Ab])
  rw[if_pos (by rfl)]
  refine wp_store_row 106 (.tmp 8) (.tmp 22) (by rfl) _ (([.slice x0a x0n x0k,.slice x1a x1n x1k,.slice x2a x2n x2k,.slice x3a x3n x3k,.int .i64 0,.int .i64 0,.int .i64 0,.slice x4a x4n x4k,.int .i64 0,.int .i64 0,.int .i64 0,.slice x5a x5n x5k,.bool false,.int .i64 0,.int .i64 0,.slice x6a x6n x6k,.slice x7a x7n x7k,.int .i64 0,.slice x8a x8n x8k]:List Value)++(([.slice y0a y0n y0k,.slice y1a y1n y1k,.int .i64 0,.int .i64 0,.slice y2a y2n y2k,.slice y3a y3n y3k,.int .i64 0,.int .i64 0,.int .i64 0,.int .i64 0,.int .i64 0,.int .i64 0]:List Value)++(([.int .i64 2,.int .i64 0,.int .i64 0,.int .i64 0,.int .i64 0,.int .i64 0,.int .i64 0,.slice z0a z0n z0k,.bool false,.int .i64 0,.int .i64 0,.int .i64 0,.int .i64 0,.int .i64 0,.int .i64 0]:List Value)++(([.int .i64 3,.int .i64 0,.int .i64 0,.int .i64 0,.int .i64 0,.int .i64 0,.int .i64 0,.slice u0a u0n u0k,.bool false,.int .i64 0,.int .i64 0,.int .i64 0,.int .i64 0,.int .i64 0,.int .i64 0]:List Value)++(([.int .i64 (Ai 4 a).Id,.slice c0a c0n c0k,.slice c1a c1n c1k,.int .i64 (Ai 4 a).Last]:List Value)++(([.int .i64 (Ai 5 b).Id,.slice d0a d0n d0k,.slice d1a d1n d1k,.int .i64 (Ai 5 b).Last]:List Value)++(([.slice e0a e0n e0k,.slice e1a e1n e1k]:List Value)++(([.slice (some ⟨bx,0,none⟩) 6 6]:List Value)++(([.slice none 0 0]:List Value)++([]:List Value)))))))))).toArray (by rfl) (by kernel_rfl) 106 _ (show Blk _ by_ 106 Tryz.zeroCells106 from by exact Bv) (by kernel_rfl) rfl (by kernel_rfl) ?_
  refine hKz.out _ _ (by(try dsimp only);first|(exact⟨by exact Bv,by exact Bv⟩)|(exact⟨Blk.rowFar B6 oM _,Blk.rowFar B7 oM _⟩)) (fun hHeld=>?_)
  clear hKz Kz
  (try simp only[Ab,Act.put])
  refine wpAnyH_done (by kernel_rfl) ?_ _
  obtain⟨R,hR⟩:∃R:List Value,R=(([.slice x0a x0n x0k,.slice x1a x1n x1k,.slice x2a x2n x2k,.slice x3a x3n x3k,.int .i64 0,.int .i64 0,.int .i64 0,.slice x4a x4n x4k,.int .i64 0,.int .i64 0,.int .i64 0,.slice x5a x5n x5k,.bool false,.int .i64 0,.int .i64 0,.slice x6a x6n x6k,.slice x7a x7n x7k,.int .i64 0,.slice x8a x8n x8k]:List Value)++(([.slice y0a y0n y0k,.slice y1a y1n y1k,.int .i64 0,.int .i64 0,.slice y2a y2n y2k,.slice y3a y3n y3k,.int .i64 0,.int .i64 0,.int .i64 0,.int .i64 0,.int .i64 0,.int .i64 0]:List Value)++(([.int .i64 2,.int .i64 0,.int .i64 0,.int .i64 0,.int .i64 0,.int .i64 0,.int .i64 0,.slice z0a z0n z0k,.bool false,.int .i64 0,.int .i64 0,.int .i64 0,.int .i64 0,.int .i64 0,.int .i64 0]:List Value)++(([.int .i64 3,.int .i64 0,.int .i64 0,.int .i64 0,.int .i64 0,.int .i64 0,.int .i64 0,.slice u0a u0n u0k,.bool false,.int .i64 0,.int .i64 0,.int .i64 0,.int .i64 0,.int .i64 0,.int .i64 0]:List Value)++(([.int .i64 (Ai 4 a).Id,.slice c0a c0n c0k,.slice c1a c1n c1k,.int .i64 (Ai 4 a).Last]:List Value)++(([.int .i64 (Ai 5 b).Id,.slice d0a d0n d0k,.slice d1a d1n d1k,.int .i64 (Ai 5 b).Last]:List Value)++(([.slice e0a e0n e0k,.slice e1a e1n e1k]:List Value)++(([.slice (some ⟨bx,0,none⟩) 6 6]:List Value)++([]:List Value))))))))):=⟨_,rfl⟩
  have hRl:R.length=72:=by rw[hR];rfl
  have KB:Bk (w9.setRow by_ (([.slice x0a x0n x0k,.slice x1a x1n x1k,.slice x2a x2n x2k,.slice x3a x3n x3k,.int .i64 0,.int .i64 0,.int .i64 0,.slice x4a x4n x4k,.int .i64 0,.int .i64 0,.int .i64 0,.slice x5a x5n x5k,.bool false,.int .i64 0,.int .i64 0,.slice x6a x6n x6k,.slice x7a x7n x7k,.int .i64 0,.slice x8a x8n x8k]:List Value)++(([.slice y0a y0n y0k,.slice y1a y1n y1k,.int .i64 0,.int .i64 0,.slice y2a y2n y2k,.slice y3a y3n y3k,.int .i64 0,.int .i64 0,.int .i64 0,.int .i64 0,.int .i64 0,.int .i64 0]:List Value)++(([.int .i64 2,.int .i64 0,.int .i64 0,.int .i64 0,.int .i64 0,.int .i64 0,.int .i64 0,.slice z0a z0n z0k,.bool false,.int .i64 0,.int .i64 0,.int .i64 0,.int .i64 0,.int .i64 0,.int .i64 0]:List Value)++(([.int .i64 3,.int .i64 0,.int .i64 0,.int .i64 0,.int .i64 0,.int .i64 0,.int .i64 0,.slice u0a u0n u0k,.bool false,.int .i64 0,.int .i64 0,.int .i64 0,.int .i64 0,.int .i64 0,.int .i64 0]:List Value)++(([.int .i64 (Ai 4 a).Id,.slice c0a c0n c0k,.slice c1a c1n c1k,.int .i64 (Ai 4 a).Last]:List Value)++(([.int .i64 (Ai 5 b).Id,.slice d0a d0n d0k,.slice d1a d1n d1k,.int .i64 (Ai 5 b).Last]:List Value)++(([.slice e0a e0n e0k,.slice e1a e1n e1k]:List Value)++(([.slice (some ⟨bx,0,none⟩) 6 6]:List Value)++(([.slice none 0 0]:List Value)++([]:List Value)))))))))).toArray) by_ 106 (R++[.slice none 0 0]):=Bk.cast (Blk.row hy1 _) (by rw[hR];rfl)
  have lb9:=hy1.lt
  obtain⟨W6,hW6⟩:∃W,W=w9.setRow by_ (([.slice x0a x0n x0k,.slice x1a x1n x1k,.slice x2a x2n x2k,.slice x3a x3n x3k,.int .i64 0,.int .i64 0,.int .i64 0,.slice x4a x4n x4k,.int .i64 0,.int .i64 0,.int .i64 0,.slice x5a x5n x5k,.bool false,.int .i64 0,.int .i64 0,.slice x6a x6n x6k,.slice x7a x7n x7k,.int .i64 0,.slice x8a x8n x8k]:List Value)++(([.slice y0a y0n y0k,.slice y1a y1n y1k,.int .i64 0,.int .i64 0,.slice y2a y2n y2k,.slice y3a y3n y3k,.int .i64 0,.int .i64 0,.int .i64 0,.int .i64 0,.int .i64 0,.int .i64 0]:List Value)++(([.int .i64 2,.int .i64 0,.int .i64 0,.int .i64 0,.int .i64 0,.int .i64 0,.int .i64 0,.slice z0a z0n z0k,.bool false,.int .i64 0,.int .i64 0,.int .i64 0,.int .i64 0,.int .i64 0,.int .i64 0]:List Value)++(([.int .i64 3,.int .i64 0,.int .i64 0,.int .i64 0,.int .i64 0,.int .i64 0,.int .i64 0,.slice u0a u0n u0k,.bool false,.int .i64 0,.int .i64 0,.int .i64 0,.int .i64 0,.int .i64 0,.int .i64 0]:List Value)++(([.int .i64 (Ai 4 a).Id,.slice c0a c0n c0k,.slice c1a c1n c1k,.int .i64 (Ai 4 a).Last]:List Value)++(([.int .i64 (Ai 5 b).Id,.slice d0a d0n d0k,.slice d1a d1n d1k,.int .i64 (Ai 5 b).Last]:List Value)++(([.slice e0a e0n e0k,.slice e1a e1n e1k]:List Value)++(([.slice (some ⟨bx,0,none⟩) 6 6]:List Value)++(([.slice none 0 0]:List Value)++([]:List Value)))))))))).toArray:=⟨_,rfl⟩
  rw[<-hW6] at KB ⊢
  have U6:Upd w9 W6 [by_]:=by rw[hW6];exact⟨rfl,rfl,rfl,by simp,fun k hk hn=>Gj _ _ (fun e=>hn (by simp[e]))⟩
  have K6:Blk W6 w.heap.size 106 Tryz.zeroCells106:=by rw[hW6];exact Blk.rowFar K9 oM _
  have E6:Ext w W6:=by rw[hW6];exact Aa
  clear hW6
  obtain⟨i0,hi,hz0,hz1,hz2⟩:=info_parts bI
  go_wp2_with fail
  go_loopw [9] (fun i wr=>∃k:Nat,k<=6/\i=.int .i64 k/\Ext w wr/\Upd w9 wr [by_]/\Blk wr w.heap.size 106 Tryz.zeroCells106/\∃sl,Own w9.heap.size 4 1 wr sl ((List.replicate k true).map .bool)/\Bk wr by_ 106 (R++[sl])) (fun i _=>6 - (intOf i).toNat)
  case atStart=>exact⟨0,by omega,rfl,E6,U6,K6,_,Own.empty (Af.nil _ 4 1 _) rfl _ rfl,KB⟩
  case round =>
   obtain⟨k,hk,rfl,X6,U7,K7,sl,O7,B8⟩:=hrel
   have Cc:wr.cell? ⟨by_,72,none⟩=some sl:=Bk.cellAt (A:=R) (C:=[]) B8 hRl
   have ll:=B8.lt
   have s9:=U7.size
   have hfoot:=O7.foot
   obtain⟨q1,q2,q3,rfl⟩:=O7.sl.shape
   by_cases hlt:k<6
   .
    go_wp2_with (first|(at_builtin;refine Fg rfl (.tmp 28) (.tmp 29) 63 rfl 4 i0 _ 1 1 Tryz.underlying63 hi hz0 hz1 hz2 rfl dC w9.heap.size _ ((List.replicate k true).map .bool) rfl (Own.ext O7 Aa) (.slice (some ⟨wr.heap.size,0,none⟩) 1 1) [.bool true] rfl (rV wr 4) (by intro u hu;simp at hu;subst hu;rfl) 1000 (by simp;omega) (by unfold maxLen;omega) oM (by simp;omega) w Aa oM ?_;rotate_right;intro v5 w5 O5 E5 G5;obtain⟨r1,r2,r3,rfl⟩:=O5.sl.shape;have B9:Bk w5 by_ 106 (R++[Value.slice q1 q2 q3]):=Blk.grown (Blk.alloc B8 _) G5 (fun e=>by have:=hfoot by_ (List.mem_filterMap.2 ⟨_,List.mem_singleton.2 rfl,e.symm⟩);omega);have N5:=B9.froz 72;have C5:w5.cell? ⟨by_,72,none⟩=_:=Bk.cellAt (A:=R) (C:=[]) B9 hRl;have l5:=B9.lt))
    go_roundw
    case rel =>
     have U8:Upd w9 w5 [by_]:=Upd.own (U7.alloc _) (Own.ext O7 Aa) (Nat.le_refl _) G5
     refine⟨k+1,by omega,by go_num,by exact Aa,U8.setCell (List.mem_singleton.2 rfl) _,Blk.far (K9.upd U8 (by simp;omega)) (by intro e;simp at e;omega) _,_,?_,Bk.setLast B9 hRl _⟩
     rw[<-rW]
     exact Own.upd O5 ((Upd.refl _ _).setCell (List.mem_singleton.2 rfl) _) (fun j hj hm=>by have:=O5.foot j (List.mem_filterMap.2 ⟨_,List.mem_singleton.2 rfl,hj⟩);simp at hm;omega)
    case measure=>simp[intOf];omega
   obtain rfl:k=6:=by omega
   have nb:∀k,k<5->∀i,i ∈ F k->i ∈ [by_]->False:=fun k hk i h1 h2=>by
    rw[List.mem_singleton] at h2;subst h2;exact hy3.out k hk h1
   have Q0:=Io.upd P0 U7 (nb 0 dC)
   have Q1:=Dy.upd P1 U7 (nb 1 dC)
   have Q2:=Cs.upd P2 U7 (nb 2 dC)
   have Q3:=Cs.upd P3 U7 (nb 3 dC)
   have Q4:=Im.upd P4 U7 (nb 4 dC)
   have QA:=Db.upd (Db.keep oA (Chg.ext (Chg.refl _ _) ext)) U7 (fun i h1 h2=>by have:=lA.out i h1;rw[List.mem_singleton] at h2;omega)
   have QB:=Db.upd (Db.keep oB (Chg.ext (Chg.refl _ _) ext)) U7 (fun i h1 h2=>by have:=lB.out i h1;rw[List.mem_singleton] at h2;omega)
   have lx:=Re hx1
   have kx:Blk wr bx 2 #[.int .i64 0,.int .i64 0,.int .i64 0,.int .i64 0,.int .i64 0,.int .i64 0]:=Blk.upd hx1 U7 (fun h=>hxy (List.mem_singleton.1 h))
   have ox:Af (w.heap.size+1) 2 1 wr (.slice (some ⟨bx,0,none⟩) 6 6) (List.replicate 6 0):=Own.of_blk (cap:=6) kx oM rfl rfl (Nat.le_refl _) dC (fun j hj=>by simp[List.replicate])
   have bxA:bx ∉ FA:=fun h=>by have:=lA.out bx h;omega
   have bxB:bx ∉ FB:=fun h=>by have:=lB.out bx h;omega
   have lt9:∀k,k<7->∀i,i ∈ sF F FA FB k->i<w9.heap.size:=uL (fun k hk i hi=>Nat.lt_of_lt_of_le (low.out k hk i hi).2 oM) (fun i hi=>by have:=lA.out i hi;omega) (fun i hi=>by have:=lB.out i hi;omega)
   obtain⟨F9,W9⟩:∃F9,Gz (w.heap.size+1) wr (.agg (R++[Value.slice q1 q2 q3]).toArray) (Hb a b) F9:=by
    refine⟨_,[.slice x0a x0n x0k,.slice x1a x1n x1k,.slice x2a x2n x2k,.slice x3a x3n x3k,.int .i64 0,.int .i64 0,.int .i64 0,.slice x4a x4n x4k,.int .i64 0,.int .i64 0,.int .i64 0,.slice x5a x5n x5k,.bool false,.int .i64 0,.int .i64 0,.slice x6a x6n x6k,.slice x7a x7n x7k,.int .i64 0,.slice x8a x8n x8k],[.slice y0a y0n y0k,.slice y1a y1n y1k,.int .i64 0,.int .i64 0,.slice y2a y2n y2k,.slice y3a y3n y3k,.int .i64 0,.int .i64 0,.int .i64 0,.int .i64 0,.int .i64 0,.int .i64 0],[.int .i64 2,.int .i64 0,.int .i64 0,.int .i64 0,.int .i64 0,.int .i64 0,.int .i64 0,.slice z0a z0n z0k,.bool false,.int .i64 0,.int .i64 0,.int .i64 0,.int .i64 0,.int .i64 0,.int .i64 0],[.int .i64 3,.int .i64 0,.int .i64 0,.int .i64 0,.int .i64 0,.int .i64 0,.int .i64 0,.slice u0a u0n u0k,.bool false,.int .i64 0,.int .i64 0,.int .i64 0,.int .i64 0,.int .i64 0,.int .i64 0],[.int .i64 (Ai 4 a).Id,.slice c0a c0n c0k,.slice c1a c1n c1k,.int .i64 (Ai 4 a).Last],[.int .i64 (Ai 5 b).Id,.slice d0a d0n d0k,.slice d1a d1n d1k,.int .i64 (Ai 5 b).Last],[.slice e0a e0n e0k,.slice e1a e1n e1k],.slice (some ⟨bx,0,none⟩) 6 6,.slice q1 q2 q3,F 0,F 1,F 2,F 3,FA,FB,F 4,Be [.slice (some ⟨bx,0,none⟩) 6 6],Be [Value.slice q1 q2 q3],(by rw[hR];rfl),rfl,rfl,rfl,rfl,rfl,rfl,rfl,Q0.mono oM,Q1.mono oM,Q2.mono oM,Q3.mono oM,QA,QB,Q4.mono oM,⟨ox,rfl⟩,⟨Own.mono O7 oM,rfl⟩,pw9 (F:=sF F FA FB) (vU two.out (fun k hk i hi=>(low.out k hk i hi).1) lA.out lB.out oM) (fun k hk i h1 h2=>?_) (fun k hk i h1 h2=>?_) (fun i h1 h2=>?_),rfl⟩
    .
     have h2:i=bx:=by simpa[Be,Value.ownBlock] using h2
     subst h2;exact rU hx3.out bxA bxB k hk h1
    .
     have:=(hfoot i h2).1;have:=lt9 k hk i h1;omega
    have h1:i=bx:=by simpa[Be,Value.ownBlock] using h1
    have:=(hfoot i h2).1;omega
   have RL:=Bk.ra B8
   have sR:(R++[Value.slice q1 q2 q3]).length=73:=by simp[hRl]
   have a1:(R++[Value.slice q1 q2 q3]).toArray.all (·.oneCell')=true:=by rw[hR];kernel_rfl
   clear hR KB P0 P1 P2 P3 P4 Q0 Q1 Q2 Q3 Q4 QA QB
   obtain⟨L,hL⟩:∃L,L=R++[Value.slice q1 q2 q3]:=⟨_,rfl⟩
   rw[<-hL] at B8 W9 RL sR a1
   clear hL
   have sL:L.toArray.size=73:=by simp[sR]
   go_wp2_with (first|(refine wpList_load_mid rfl 106 _ rfl by_ 0 (by rfl) L _ RL Tryz.underlying106 rfl (by rw[sR];kernel_rfl) ?_))
   refine(Sz (Gz.rd W9)).mono ?_
   rintro e w7⟨rfl,x7⟩
   rw[My]
   have K7:=K7.ext x7;have X7:=X6.trans x7
   have RL:w7.rangeAt by_ 0 L:=Bk.ra (B8.ext x7)
   have l7:=K7.lt
   have wq:∀cs,Chg (w.heap.size+1) wr (w7.setRow w.heap.size cs):=fun cs=>(Chg.ext (Chg.refl _ _) x7).setRow (Or.inl (Nat.lt_succ_self _)) _
   cases q:(Fo a&&Fo b)
   .
    go_wp2_with (first|(refine Fq rfl 106 (.tmp 4) (.tmp 35) rfl rfl rfl _ (show Blk _ w.heap.size 106 Tryz.zeroCells106 from by exact Bv) (by kernel_rfl) rfl (by kernel_rfl) ?_;intro KF))
    refine bodyPost_ret (Ij rfl _ _ w.heap.size _ _ _ _ (.bool false) (by rfl) (by rfl) KF Tryz.underlying106 rfl (by kernel_rfl)) rfl ?_
    obtain⟨FZ,o⟩:=Rw w.heap.size (w7.setRow w.heap.size Tryz.zeroCells106)
    refine⟨_,rfl,by exact Aa,_,by rw[q],FZ,?_⟩
    rw[show Gd a b=Qp from by unfold Gd;rw[q];rfl]
    exact o
   go_wp2_with (first|(refine wpList_load_mid rfl 106 _ rfl by_ 0 (by rfl) L _ RL Tryz.underlying106 rfl (by rw[sR];kernel_rfl) ?_)|(refine Fq rfl 106 (.tmp 4) (.tmp 36) rfl (by rfl) (by rfl) _ (show Blk _ w.heap.size 106 Tryz.zeroCells106 from by exact Bv) (by rw[sL];kernel_rfl) (by rw[sL];kernel_rfl) a1 ?_;intro KF))
   refine bodyPost_ret (Ij rfl _ _ w.heap.size _ _ _ _ (.bool true) (by rfl) (by rfl) KF Tryz.underlying106 rfl (by rw[sL];kernel_rfl)) rfl ?_
   refine⟨_,rfl,by exact Aa,_,by rw[q],F9,?_⟩
   rw[show Gd a b=Hb a b from by unfold Gd;rw[q];rfl]
   exact(Gz.keep W9 (wq _)).mono oM
 intro a9 w9 V F bx by_ hg h
 clear hg
 change wpAnyH _ _ _ _ _ 2 _ _ _
 obtain⟨act,ext,parts,two,hx,hy,hxy⟩:=h
 have hx:w9.heap[bx]?=some (.cells #[.int .i64 0,.int .i64 0,.int .i64 0,.int .i64 0,.int .i64 0,.int .i64 0] 2)/\W5.heap.size<=bx/\∀k,k<5->bx ∉ F k:=hx rfl
 obtain⟨hx1,hx2,hx3⟩:=hx
 have ext:Ext W5 w9:=ext
 have two:=Lib.hid two;have hx3:=Lib.hid hx3
 have X9:Ext w w9:=E5.trans ext
 have K9:Blk w9 (w.heap.size) 106 Tryz.zeroCells106:=K5.ext ext
 have B6:=B6.ext ext;have B7:=B7.ext ext
 simp only[Yo,Rv,Bool.and_false,Bool.and_true,if_true,if_false,Bool.false_eq_true] at act
 obtain⟨x0a,x0n,x0k,x1a,x1n,x1k,x2a,x2n,x2k,x3a,x3n,x3k,x4a,x4n,x4k,x5a,x5n,x5k,x6a,x6n,x6k,x7a,x7n,x7k,x8a,x8n,x8k,e0⟩:=Xv (parts 0 (by decide:(0:Nat)<5))
 obtain⟨y0a,y0n,y0k,y1a,y1n,y1k,y2a,y2n,y2k,y3a,y3n,y3k,e1⟩:=Uc (parts 1 (by decide:(1:Nat)<5))
 obtain⟨z0a,z0n,z0k,e2⟩:=Sw (parts 2 (by decide:(2:Nat)<5))
 obtain⟨u0a,u0n,u0k,e3⟩:=Sy (parts 3 (by decide:(3:Nat)<5))
 obtain⟨e0a,e0n,e0k,e1a,e1n,e1k,e4⟩:=lL (parts 4 (by decide:(4:Nat)<5))
 have P0:Io W5.heap.size w9 (V 0) Gi (F 0):=parts 0 (by decide:(0:Nat)<5);have P1:Dy W5.heap.size w9 (V 1) Kw (F 1):=parts 1 (by decide:(1:Nat)<5);have P2:Cs W5.heap.size w9 (V 2) (Dw 2) (F 2):=parts 2 (by decide:(2:Nat)<5);have P3:Cs W5.heap.size w9 (V 3) (Dw 3) (F 3):=parts 3 (by decide:(3:Nat)<5);have P4:Im W5.heap.size w9 (V 4) ⟨[],[]⟩ (F 4):=parts 4 (by decide:(4:Nat)<5)
 have low:∀k,k<5->∀i,i ∈ F k->W5.heap.size<=i/\i<w9.heap.size:=fun k hk i hi=>fQ a b k _ _ _ _ (parts k hk) i hi
 have low:=Lib.hid low
 clear parts hx
 rw[e0] at act P0
 rw[e1] at act P1
 rw[e2] at act P2
 rw[e3] at act P3
 rw[e4] at act P4
 clear e0 e1 e2 e3 e4
 subst act
 simp only[Act.put,Gp]
 replace hy:Blk w9 by_ 106 Tryz.zeroCells106/\W5.heap.size<=by_/\∀k,k<5->by_ ∉ F k:=hy rfl rfl
 obtain⟨hy1,hy2,hy3⟩:=hy
 replace hxy:bx≠by_:=hxy rfl rfl rfl
 have hy3:=Lib.hid hy3
 have z9:=X9.size;have y9:=ext.size
 refine wpAnyH_take (i:=8) (v:=.agg (([.slice x0a x0n x0k,.slice x1a x1n x1k,.slice x2a x2n x2k,.slice x3a x3n x3k,.int .i64 0,.int .i64 0,.int .i64 0,.slice x4a x4n x4k,.int .i64 0,.int .i64 0,.int .i64 0,.slice x5a x5n x5k,.bool false,.int .i64 0,.int .i64 0,.slice x6a x6n x6k,.slice x7a x7n x7k,.int .i64 0,.slice x8a x8n x8k]:List Value)++(([.slice y0a y0n y0k,.slice y1a y1n y1k,.int .i64 0,.int .i64 0,.slice y2a y2n y2k,.slice y3a y3n y3k,.int .i64 0,.int .i64 0,.int .i64 0,.int .i64 0,.int .i64 0,.int .i64 0]:List Value)++(([.int .i64 2,.int .i64 0,.int .i64 0,.int .i64 0,.int .i64 0,.int .i64 0,.int .i64 0,.slice z0a z0n z0k,.bool false,.int .i64 0,.int .i64 0,.int .i64 0,.int .i64 0,.int .i64 0,.int .i64 0]:List Value)++(([.int .i64 3,.int .i64 0,.int .i64 0,.int .i64 0,.int .i64 0,.int .i64 0,.int .i64 0,.slice u0a u0n u0k,.bool false,.int .i64 0,.int .i64 0,.int .i64 0,.int .i64 0,.int .i64 0,.int .i64 0]:List Value)++(([.int .i64 (Ai 4 a).Id,.slice c0a c0n c0k,.slice c1a c1n c1k,.int .i64 (Ai 4 a).Last]:List Value)++(([.int .i64 (Ai 5 b).Id,.slice d0a d0n d0k,.slice d1a d1n d1k,.int .i64 (Ai 5 b).Last]:List Value)++(([.slice e0a e0n e0k,.slice e1a e1n e1k]:List Value)++(([.slice (some ⟨bx,0,none⟩) 6 6]:List Value)++(([.slice none 0 0]:List Value)++([]:List Value)))))))))).toArray) rfl (by kernel_rfl) (by kernel_rfl) (by kernel_rfl) (fun _ _ _ h=>h) (Or.inl ⟨by rfl,?_⟩) (by first|assumption|exact⟨B6,B7⟩) ?_
 focus(intro w hSw;kernel_rfl)
 simp only[Act.put,Gp]
 refine wr1 10 fun Kz hKz=>?_
 (try simp only[Ab])
 rw[if_pos (by rfl)]
 refine wp_store_row 106 (.tmp 8) (.tmp 22) (by rfl) _ (([.slice x0a x0n x0k,.slice x1a x1n x1k,.slice x2a x2n x2k,.slice x3a x3n x3k,.int .i64 0,.int .i64 0,.int .i64 0,.slice x4a x4n x4k,.int .i64 0,.int .i64 0,.int .i64 0,.slice x5a x5n x5k,.bool false,.int .i64 0,.int .i64 0,.slice x6a x6n x6k,.slice x7a x7n x7k,.int .i64 0,.slice x8a x8n x8k]:List Value)++(([.slice y0a y0n y0k,.slice y1a y1n y1k,.int .i64 0,.int .i64 0,.slice y2a y2n y2k,.slice y3a y3n y3k,.int .i64 0,.int .i64 0,.int .i64 0,.int .i64 0,.int .i64 0,.int .i64 0]:List Value)++(([.int .i64 2,.int .i64 0,.int .i64 0,.int .i64 0,.int .i64 0,.int .i64 0,.int .i64 0,.slice z0a z0n z0k,.bool false,.int .i64 0,.int .i64 0,.int .i64 0,.int .i64 0,.int .i64 0,.int .i64 0]:List Value)++(([.int .i64 3,.int .i64 0,.int .i64 0,.int .i64 0,.int .i64 0,.int .i64 0,.int .i64 0,.slice u0a u0n u0k,.bool false,.int .i64 0,.int .i64 0,.int .i64 0,.int .i64 0,.int .i64 0,.int .i64 0]:List Value)++(([.int .i64 (Ai 4 a).Id,.slice c0a c0n c0k,.slice c1a c1n c1k,.int .i64 (Ai 4 a).Last]:List Value)++(([.int .i64 (Ai 5 b).Id,.slice d0a d0n d0k,.slice d1a d1n d1k,.int .i64 (Ai 5 b).Last]:List Value)++(([.slice e0a e0n e0k,.slice e1a e1n e1k]:List Value)++(([.slice (some ⟨bx,0,none⟩) 6 6]:List Value)++(([.slice none 0 0]:List Value)++([]:List Value)))))))))).toArray (by rfl) (by kernel_rfl) 106 _ (show Blk _ by_ 106 Tryz.zeroCells106 from by exact Bv) (by kernel_rfl) rfl (by kernel_rfl) ?_
 refine hKz.out _ _ (by(try dsimp only);first|(exact⟨by exact Bv,by exact Bv⟩)|(exact⟨Blk.rowFar B6 oM _,Blk.rowFar B7 oM _⟩)) (fun hHeld=>?_)
 clear hKz Kz
 (try simp only[Ab,Act.put])
 refine wpAnyH_done (by kernel_rfl) ?_ _
 obtain⟨R,hR⟩:∃R:List Value,R=(([.slice x0a x0n x0k,.slice x1a x1n x1k,.slice x2a x2n x2k,.slice x3a x3n x3k,.int .i64 0,.int .i64 0,.int .i64 0,.slice x4a x4n x4k,.int .i64 0,.int .i64 0,.int .i64 0,.slice x5a x5n x5k,.bool false,.int .i64 0,.int .i64 0,.slice x6a x6n x6k,.slice x7a x7n x7k,.int .i64 0,.slice x8a x8n x8k]:List Value)++(([.slice y0a y0n y0k,.slice y1a y1n y1k,.int .i64 0,.int .i64 0,.slice y2a y2n y2k,.slice y3a y3n y3k,.int .i64 0,.int .i64 0,.int .i64 0,.int .i64 0,.int .i64 0,.int .i64 0]:List Value)++(([.int .i64 2,.int .i64 0,.int .i64 0,.int .i64 0,.int .i64 0,.int .i64 0,.int .i64 0,.slice z0a z0n z0k,.bool false,.int .i64 0,.int .i64 0,.int .i64 0,.int .i64 0,.int .i64 0,.int .i64 0]:List Value)++(([.int .i64 3,.int .i64 0,.int .i64 0,.int .i64 0,.int .i64 0,.int .i64 0,.int .i64 0,.slice u0a u0n u0k,.bool false,.int .i64 0,.int .i64 0,.int .i64 0,.int .i64 0,.int .i64 0,.int .i64 0]:List Value)++(([.int .i64 (Ai 4 a).Id,.slice c0a c0n c0k,.slice c1a c1n c1k,.int .i64 (Ai 4 a).Last]:List Value)++(([.int .i64 (Ai 5 b).Id,.slice d0a d0n d0k,.slice d1a d1n d1k,.int .i64 (Ai 5 b).Last]:List Value)++(([.slice e0a e0n e0k,.slice e1a e1n e1k]:List Value)++(([.slice (some ⟨bx,0,none⟩) 6 6]:List Value)++([]:List Value))))))))):=⟨_,rfl⟩
 have hRl:R.length=72:=by rw[hR];rfl
 have KB:Bk (w9.setRow by_ (([.slice x0a x0n x0k,.slice x1a x1n x1k,.slice x2a x2n x2k,.slice x3a x3n x3k,.int .i64 0,.int .i64 0,.int .i64 0,.slice x4a x4n x4k,.int .i64 0,.int .i64 0,.int .i64 0,.slice x5a x5n x5k,.bool false,.int .i64 0,.int .i64 0,.slice x6a x6n x6k,.slice x7a x7n x7k,.int .i64 0,.slice x8a x8n x8k]:List Value)++(([.slice y0a y0n y0k,.slice y1a y1n y1k,.int .i64 0,.int .i64 0,.slice y2a y2n y2k,.slice y3a y3n y3k,.int .i64 0,.int .i64 0,.int .i64 0,.int .i64 0,.int .i64 0,.int .i64 0]:List Value)++(([.int .i64 2,.int .i64 0,.int .i64 0,.int .i64 0,.int .i64 0,.int .i64 0,.int .i64 0,.slice z0a z0n z0k,.bool false,.int .i64 0,.int .i64 0,.int .i64 0,.int .i64 0,.int .i64 0,.int .i64 0]:List Value)++(([.int .i64 3,.int .i64 0,.int .i64 0,.int .i64 0,.int .i64 0,.int .i64 0,.int .i64 0,.slice u0a u0n u0k,.bool false,.int .i64 0,.int .i64 0,.int .i64 0,.int .i64 0,.int .i64 0,.int .i64 0]:List Value)++(([.int .i64 (Ai 4 a).Id,.slice c0a c0n c0k,.slice c1a c1n c1k,.int .i64 (Ai 4 a).Last]:List Value)++(([.int .i64 (Ai 5 b).Id,.slice d0a d0n d0k,.slice d1a d1n d1k,.int .i64 (Ai 5 b).Last]:List Value)++(([.slice e0a e0n e0k,.slice e1a e1n e1k]:List Value)++(([.slice (some ⟨bx,0,none⟩) 6 6]:List Value)++(([.slice none 0 0]:List Value)++([]:List Value)))))))))).toArray) by_ 106 (R++[.slice none 0 0]):=Bk.cast (Blk.row hy1 _) (by rw[hR];rfl)
 have lb9:=hy1.lt
 obtain⟨W6,hW6⟩:∃W,W=w9.setRow by_ (([.slice x0a x0n x0k,.slice x1a x1n x1k,.slice x2a x2n x2k,.slice x3a x3n x3k,.int .i64 0,.int .i64 0,.int .i64 0,.slice x4a x4n x4k,.int .i64 0,.int .i64 0,.int .i64 0,.slice x5a x5n x5k,.bool false,.int .i64 0,.int .i64 0,.slice x6a x6n x6k,.slice x7a x7n x7k,.int .i64 0,.slice x8a x8n x8k]:List Value)++(([.slice y0a y0n y0k,.slice y1a y1n y1k,.int .i64 0,.int .i64 0,.slice y2a y2n y2k,.slice y3a y3n y3k,.int .i64 0,.int .i64 0,.int .i64 0,.int .i64 0,.int .i64 0,.int .i64 0]:List Value)++(([.int .i64 2,.int .i64 0,.int .i64 0,.int .i64 0,.int .i64 0,.int .i64 0,.int .i64 0,.slice z0a z0n z0k,.bool false,.int .i64 0,.int .i64 0,.int .i64 0,.int .i64 0,.int .i64 0,.int .i64 0]:List Value)++(([.int .i64 3,.int .i64 0,.int .i64 0,.int .i64 0,.int .i64 0,.int .i64 0,.int .i64 0,.slice u0a u0n u0k,.bool false,.int .i64 0,.int .i64 0,.int .i64 0,.int .i64 0,.int .i64 0,.int .i64 0]:List Value)++(([.int .i64 (Ai 4 a).Id,.slice c0a c0n c0k,.slice c1a c1n c1k,.int .i64 (Ai 4 a).Last]:List Value)++(([.int .i64 (Ai 5 b).Id,.slice d0a d0n d0k,.slice d1a d1n d1k,.int .i64 (Ai 5 b).Last]:List Value)++(([.slice e0a e0n e0k,.slice e1a e1n e1k]:List Value)++(([.slice (some ⟨bx,0,none⟩) 6 6]:List Value)++(([.slice none 0 0]:List Value)++([]:List Value)))))))))).toArray:=⟨_,rfl⟩
 rw[<-hW6] at KB ⊢
 have U6:Upd w9 W6 [by_]:=by rw[hW6];exact⟨rfl,rfl,rfl,by simp,fun k hk hn=>Gj _ _ (fun e=>hn (by simp[e]))⟩
 have K6:Blk W6 w.heap.size 106 Tryz.zeroCells106:=by rw[hW6];exact Blk.rowFar K9 oM _
 have E6:Ext w W6:=by rw[hW6];exact Aa
 clear hW6
 obtain⟨i0,hi,hz0,hz1,hz2⟩:=info_parts bI
 go_wp2_with fail
 go_loopw [9] (fun i wr=>∃k:Nat,k<=6/\i=.int .i64 k/\Ext w wr/\Upd w9 wr [by_]/\Blk wr w.heap.size 106 Tryz.zeroCells106/\∃sl,Own w9.heap.size 4 1 wr sl ((List.replicate k true).map .bool)/\Bk wr by_ 106 (R++[sl])) (fun i _=>6 - (intOf i).toNat)
 case atStart=>exact⟨0,by omega,rfl,E6,U6,K6,_,Own.empty (Af.nil _ 4 1 _) rfl _ rfl,KB⟩
 case round =>
  obtain⟨k,hk,rfl,X6,U7,K7,sl,O7,B8⟩:=hrel
  have Cc:wr.cell? ⟨by_,72,none⟩=some sl:=Bk.cellAt (A:=R) (C:=[]) B8 hRl
  have ll:=B8.lt
  have s9:=U7.size
  have hfoot:=O7.foot
  obtain⟨q1,q2,q3,rfl⟩:=O7.sl.shape
  by_cases hlt:k<6
  .
   go_wp2_with (first|(at_builtin;refine Fg rfl (.tmp 28) (.tmp 29) 63 rfl 4 i0 _ 1 1 Tryz.underlying63 hi hz0 hz1 hz2 rfl dC w9.heap.size _ ((List.replicate k true).map .bool) rfl (Own.ext O7 Aa) (.slice (some ⟨wr.heap.size,0,none⟩) 1 1) [.bool true] rfl (rV wr 4) (by intro u hu;simp at hu;subst hu;rfl) 1000 (by simp;omega) (by unfold maxLen;omega) oM (by simp;omega) w Aa oM ?_;rotate_right;intro v5 w5 O5 E5 G5;obtain⟨r1,r2,r3,rfl⟩:=O5.sl.shape;have B9:Bk w5 by_ 106 (R++[Value.slice q1 q2 q3]):=Blk.grown (Blk.alloc B8 _) G5 (fun e=>by have:=hfoot by_ (List.mem_filterMap.2 ⟨_,List.mem_singleton.2 rfl,e.symm⟩);omega);have N5:=B9.froz 72;have C5:w5.cell? ⟨by_,72,none⟩=_:=Bk.cellAt (A:=R) (C:=[]) B9 hRl;have l5:=B9.lt))
   go_roundw
   case rel =>
    have U8:Upd w9 w5 [by_]:=Upd.own (U7.alloc _) (Own.ext O7 Aa) (Nat.le_refl _) G5
    refine⟨k+1,by omega,by go_num,by exact Aa,U8.setCell (List.mem_singleton.2 rfl) _,Blk.far (K9.upd U8 (by simp;omega)) (by intro e;simp at e;omega) _,_,?_,Bk.setLast B9 hRl _⟩
    rw[<-rW]
    exact Own.upd O5 ((Upd.refl _ _).setCell (List.mem_singleton.2 rfl) _) (fun j hj hm=>by have:=O5.foot j (List.mem_filterMap.2 ⟨_,List.mem_singleton.2 rfl,hj⟩);simp at hm;omega)
   case measure=>simp[intOf];omega
  obtain rfl:k=6:=by omega
  have nb:∀k,k<5->∀i,i ∈ F k->i ∈ [by_]->False:=fun k hk i h1 h2=>by
   rw[List.mem_singleton] at h2;subst h2;exact hy3.out k hk h1
  have Q0:=Io.upd P0 U7 (nb 0 dC)
  have Q1:=Dy.upd P1 U7 (nb 1 dC)
  have Q2:=Cs.upd P2 U7 (nb 2 dC)
  have Q3:=Cs.upd P3 U7 (nb 3 dC)
  have Q4:=Im.upd P4 U7 (nb 4 dC)
  have QA:=Db.upd (Db.keep oA (Chg.ext (Chg.refl _ _) ext)) U7 (fun i h1 h2=>by have:=lA.out i h1;rw[List.mem_singleton] at h2;omega)
  have QB:=Db.upd (Db.keep oB (Chg.ext (Chg.refl _ _) ext)) U7 (fun i h1 h2=>by have:=lB.out i h1;rw[List.mem_singleton] at h2;omega)
  have lx:=Re hx1
  have kx:Blk wr bx 2 #[.int .i64 0,.int .i64 0,.int .i64 0,.int .i64 0,.int .i64 0,.int .i64 0]:=Blk.upd hx1 U7 (fun h=>hxy (List.mem_singleton.1 h))
  have ox:Af (w.heap.size+1) 2 1 wr (.slice (some ⟨bx,0,none⟩) 6 6) (List.replicate 6 0):=Own.of_blk (cap:=6) kx oM rfl rfl (Nat.le_refl _) dC (fun j hj=>by simp[List.replicate])
  have bxA:bx ∉ FA:=fun h=>by have:=lA.out bx h;omega
  have bxB:bx ∉ FB:=fun h=>by have:=lB.out bx h;omega
  have lt9:∀k,k<7->∀i,i ∈ sF F FA FB k->i<w9.heap.size:=uL (fun k hk i hi=>Nat.lt_of_lt_of_le (low.out k hk i hi).2 oM) (fun i hi=>by have:=lA.out i hi;omega) (fun i hi=>by have:=lB.out i hi;omega)
  obtain⟨F9,W9⟩:∃F9,Gz (w.heap.size+1) wr (.agg (R++[Value.slice q1 q2 q3]).toArray) (Hb a b) F9:=by
   refine⟨_,[.slice x0a x0n x0k,.slice x1a x1n x1k,.slice x2a x2n x2k,.slice x3a x3n x3k,.int .i64 0,.int .i64 0,.int .i64 0,.slice x4a x4n x4k,.int .i64 0,.int .i64 0,.int .i64 0,.slice x5a x5n x5k,.bool false,.int .i64 0,.int .i64 0,.slice x6a x6n x6k,.slice x7a x7n x7k,.int .i64 0,.slice x8a x8n x8k],[.slice y0a y0n y0k,.slice y1a y1n y1k,.int .i64 0,.int .i64 0,.slice y2a y2n y2k,.slice y3a y3n y3k,.int .i64 0,.int .i64 0,.int .i64 0,.int .i64 0,.int .i64 0,.int .i64 0],[.int .i64 2,.int .i64 0,.int .i64 0,.int .i64 0,.int .i64 0,.int .i64 0,.int .i64 0,.slice z0a z0n z0k,.bool false,.int .i64 0,.int .i64 0,.int .i64 0,.int .i64 0,.int .i64 0,.int .i64 0],[.int .i64 3,.int .i64 0,.int .i64 0,.int .i64 0,.int .i64 0,.int .i64 0,.int .i64 0,.slice u0a u0n u0k,.bool false,.int .i64 0,.int .i64 0,.int .i64 0,.int .i64 0,.int .i64 0,.int .i64 0],[.int .i64 (Ai 4 a).Id,.slice c0a c0n c0k,.slice c1a c1n c1k,.int .i64 (Ai 4 a).Last],[.int .i64 (Ai 5 b).Id,.slice d0a d0n d0k,.slice d1a d1n d1k,.int .i64 (Ai 5 b).Last],[.slice e0a e0n e0k,.slice e1a e1n e1k],.slice (some ⟨bx,0,none⟩) 6 6,.slice q1 q2 q3,F 0,F 1,F 2,F 3,FA,FB,F 4,Be [.slice (some ⟨bx,0,none⟩) 6 6],Be [Value.slice q1 q2 q3],(by rw[hR];rfl),rfl,rfl,rfl,rfl,rfl,rfl,rfl,Q0.mono oM,Q1.mono oM,Q2.mono oM,Q3.mono oM,QA,QB,Q4.mono oM,⟨ox,rfl⟩,⟨Own.mono O7 oM,rfl⟩,pw9 (F:=sF F FA FB) (vU two.out (fun k hk i hi=>(low.out k hk i hi).1) lA.out lB.out oM) (fun k hk i h1 h2=>?_) (fun k hk i h1 h2=>?_) (fun i h1 h2=>?_),rfl⟩
   .
    have h2:i=bx:=by simpa[Be,Value.ownBlock] using h2
    subst h2;exact rU hx3.out bxA bxB k hk h1
   .
    have:=(hfoot i h2).1;have:=lt9 k hk i h1;omega
   have h1:i=bx:=by simpa[Be,Value.ownBlock] using h1
   have:=(hfoot i h2).1;omega
  have RL:=Bk.ra B8
  have sR:(R++[Value.slice q1 q2 q3]).length=73:=by simp[hRl]
  have a1:(R++[Value.slice q1 q2 q3]).toArray.all (·.oneCell')=true:=by rw[hR];kernel_rfl
  clear hR KB P0 P1 P2 P3 P4 Q0 Q1 Q2 Q3 Q4 QA QB
  obtain⟨L,hL⟩:∃L,L=R++[Value.slice q1 q2 q3]:=⟨_,rfl⟩
  rw[<-hL] at B8 W9 RL sR a1
  clear hL
  have sL:L.toArray.size=73:=by simp[sR]
  go_wp2_with (first|(refine wpList_load_mid rfl 106 _ rfl by_ 0 (by rfl) L _ RL Tryz.underlying106 rfl (by rw[sR];kernel_rfl) ?_))
  refine(Sz (Gz.rd W9)).mono ?_
  rintro e w7⟨rfl,x7⟩
  rw[My]
  have K7:=K7.ext x7;have X7:=X6.trans x7
  have RL:w7.rangeAt by_ 0 L:=Bk.ra (B8.ext x7)
  have l7:=K7.lt
  have wq:∀cs,Chg (w.heap.size+1) wr (w7.setRow w.heap.size cs):=fun cs=>(Chg.ext (Chg.refl _ _) x7).setRow (Or.inl (Nat.lt_succ_self _)) _
  cases q:(Fo a&&Fo b)
  .
   go_wp2_with (first|(refine Fq rfl 106 (.tmp 4) (.tmp 35) rfl rfl rfl _ (show Blk _ w.heap.size 106 Tryz.zeroCells106 from by exact Bv) (by kernel_rfl) rfl (by kernel_rfl) ?_;intro KF))
   refine bodyPost_ret (Ij rfl _ _ w.heap.size _ _ _ _ (.bool false) (by rfl) (by rfl) KF Tryz.underlying106 rfl (by kernel_rfl)) rfl ?_
   obtain⟨FZ,o⟩:=Rw w.heap.size (w7.setRow w.heap.size Tryz.zeroCells106)
   refine⟨_,rfl,by exact Aa,_,by rw[q],FZ,?_⟩
   rw[show Gd a b=Qp from by unfold Gd;rw[q];rfl]
   exact o
  go_wp2_with (first|(refine wpList_load_mid rfl 106 _ rfl by_ 0 (by rfl) L _ RL Tryz.underlying106 rfl (by rw[sR];kernel_rfl) ?_)|(refine Fq rfl 106 (.tmp 4) (.tmp 36) rfl (by rfl) (by rfl) _ (show Blk _ w.heap.size 106 Tryz.zeroCells106 from by exact Bv) (by rw[sL];kernel_rfl) (by rw[sL];kernel_rfl) a1 ?_;intro KF))
  refine bodyPost_ret (Ij rfl _ _ w.heap.size _ _ _ _ (.bool true) (by rfl) (by rfl) KF Tryz.underlying106 rfl (by rw[sL];kernel_rfl)) rfl ?_
  refine⟨_,rfl,by exact Aa,_,by rw[q],F9,?_⟩
  rw[show Gd a b=Hb a b from by unfold Gd;rw[q];rfl]
  exact(Gz.keep W9 (wq _)).mono oM
end Go.Proofs.YtkpmbocbbgocbaaGreat
