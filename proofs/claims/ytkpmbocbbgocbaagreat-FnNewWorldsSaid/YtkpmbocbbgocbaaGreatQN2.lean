/- FL NK NL0. -/
import Derived.Test.YtkpmbocbbgocbaaGreatQN1
import Derived.Test.YtkpmbocbbgocbaaGreatQN0
import Derived.Test.YtkpmbocbbgocbaaGreatQB9
set_option linter.unusedSimpArgs false
set_option linter.unusedVariables false
set_option maxHeartbeats 8000000
set_option maxRecDepth 100000
namespace Go.Proofs.YtkpmbocbbgocbaaGreat
open Go.RowKit Go.G8
def Rv(sl:Nat->Nat)(V:Nat->Value):Nat->Act->Act
 | 0,a=>a
 | j+1,a=>(Rv sl V j a).put (some (sl j)) (V j)
def Yo(b:Bool)(s:Nat)(v:Value)(a:Act):Act:=if b then a.put (some s) v else a
structure FlR where
 Pk:Nat->Nat->World->Value->List Nat->Prop
 W0:World
 a0:Act
 m:Nat
 sl:Nat->Nat
 sx:Nat
 sy:Nat
 vx:Nat->Value
 vy:Nat->Value
 ox:Obj
 oy:Obj
 yy:Bool
structure FlS (R:FlR) (j:Nat) (f g:Bool) (V:Nat->Value) (F:Nat->List Nat) (bx by_:Nat) (a:Act) (w:World):Prop where
 act:a=Yo (g&&R.yy) R.sy (R.vy by_) (Yo f R.sx (R.vx bx) (Rv R.sl V j R.a0))
 ext:Ext R.W0 w
 parts:∀k,k<j->R.Pk k R.W0.heap.size w (V k) (F k)
 two:∀k l,k<l->l<j->∀i,i ∈ F k->i ∈ F l->False
 hx:f=true->w.heap[bx]?=some R.ox/\R.W0.heap.size<=bx/\∀k,k<j->bx ∉ F k
 hy:g=true->R.yy=true->w.heap[by_]?=some R.oy/\R.W0.heap.size<=by_/\∀k,k<j->by_ ∉ F k
 hxy:f=true->g=true->R.yy=true->bx≠by_
structure FlK (R:FlR):Prop where
 kext:∀k B w w' v F,R.Pk k B w v F->Ext w w'->R.Pk k B w' v F
 kmono:∀k B B' w v F,R.Pk k B w v F->B'<=B->R.Pk k B' w v F
 klow:∀k B w v F,R.Pk k B w v F->∀i,i ∈ F->B<=i/\i<w.heap.size
 nx:∀k,k<R.m->R.sl k≠R.sx
 ny:∀k,k<R.m->R.sl k≠R.sy
 nxy:R.sx≠R.sy
theorem Re{w:World}{b:Nat}{o:Obj}(h:w.heap[b]?=some o):b<w.heap.size:=by
 rcases Nat.lt_or_ge b w.heap.size with h1|h1
 .
  exact h1
 rw[Array.getElem?_eq_none h1] at h;cases h
theorem Ub{w w':World}{b:Nat}{o:Obj}(h:w.heap[b]?=some o)(x:Ext w w'):w'.heap[b]?=some o:=(Below.block x b (Re h)).trans h
theorem rJ{x y:Nat}(h:x≠y)(a:Act)(v u:Value):(a.put (some x) v).put (some y) u=(a.put (some y) u).put (some x) v :=
 Act.put_comm (x:=some x) (y:=some y) a v u (fun d hd e=>h ((Option.some.inj hd).trans (Option.some.inj e).symm))
theorem mX{d i:Nat}(h:d≠i)(a:Act)(v:Value):(a.put (some d) v).eval (.tmp i)=a.eval (.tmp i) :=
 Act.eval_put (dst:=some d) (x:=.tmp i) (fun e he hx=>h (by injection hx with hx;rw[hx];exact Option.some.inj he))
theorem dN{sl:Nat->Nat}{V:Nat->Value}{v:Value}{j:Nat}{a:Act}:∀i,i<=j->Rv sl (fun k=>if k=j then v else V k) i a=Rv sl V i a
 | 0,_=>rfl
 | i+1,h=>by
  simp only[Rv]
  rw[dN i oM,if_neg oM]
section
variable {R:FlR} {j:Nat} {f g:Bool} {V:Nat->Value} {F:Nat->List Nat} {bx by_:Nat} {a:Act} {w:World}
theorem FlS.chain(K:FlK R)(h:FlS R j f g V F bx by_ a w)(hj:j<R.m){v:Value}{w':World}{G:List Nat}(x:Ext w w')(hp:R.Pk j w.heap.size w' v G):FlS R (j+1) f g (fun k=>if k=j then v else V k) (fun k=>if k=j then G else F k) bx by_ (a.put (some (R.sl j)) v) w':=by
 have hG:=K.klow _ _ _ _ _ hp
 refine⟨?_,h.ext.trans x,fun k hk=>?_,fun k l hkl hl i h1 h2=>?_,fun hf=>?_,fun hg hz=>?_,h.hxy⟩
 .
  rw[h.act]
  have e:Rv R.sl (fun k=>if k=j then v else V k) (j+1) R.a0=(Rv R.sl V j R.a0).put (some (R.sl j)) v:=by
   simp only[Rv,if_true];rw[dN j (Nat.le_refl _)]
  rw[e]
  have c1:∀(b:Bool) (s:Nat) (u:Value) (c:Act),R.sl j≠s->Yo b s u (c.put (some (R.sl j)) v)=(Yo b s u c).put (some (R.sl j)) v:=by
   intro b s u c hn
   cases b
   .
    rfl
   exact rJ hn c v u
  rw[c1 f _ _ _ (K.nx j hj),c1 (g&&R.yy) _ _ _ (K.ny j hj)]
 .
  by_cases hkj:k=j
  .
   subst hkj;simp only[if_true];exact K.kmono _ _ _ _ _ _ hp h.ext.size
  simp only[if_neg hkj];exact K.kext _ _ _ _ _ _ (h.parts k oM) x
 .
  by_cases hlj:l=j
  .
   subst hlj
   simp only[if_neg (show ¬ k=l by omega)] at h1
   simp only[if_true] at h2
   have:=(K.klow _ _ _ _ _ (h.parts k hkl) i h1).2;have:=(hG i h2).1;omega
  simp only[if_neg hlj] at h2
  simp only[if_neg (show ¬ k=j by omega)] at h1
  exact h.two k l hkl oM i h1 h2
 .
  obtain⟨e1,e2,e3⟩:=h.hx hf
  refine⟨Ub e1 x,e2,fun k hk hm=>?_⟩
  by_cases hkj:k=j
  .
   simp only[if_pos hkj] at hm;have:=(hG _ hm).1;have:=Re e1;omega
  simp only[if_neg hkj] at hm;exact e3 k oM hm
 obtain⟨e1,e2,e3⟩:=h.hy hg hz
 refine⟨Ub e1 x,e2,fun k hk hm=>?_⟩
 by_cases hkj:k=j
 .
  simp only[if_pos hkj] at hm;have:=(hG _ hm).1;have:=Re e1;omega
 simp only[if_neg hkj] at hm;exact e3 k oM hm
theorem FlS.layX(K:FlK R)(h:FlS R j false g V F bx by_ a w):FlS R j true g V F w.heap.size by_ (a.put (some R.sx) (R.vx w.heap.size)) (w.alloc R.ox):=by
 refine⟨?_,h.ext.alloc _,fun k hk=>K.kext _ _ _ _ _ _ (h.parts k hk) ((Ext.refl _).alloc _),h.two,fun _=>⟨heap_alloc_new w _,h.ext.size,fun k hk hm=>?_⟩,fun hg hz=>?_,fun _ hg hz=>?_⟩
 .
  rw[h.act]
  cases (g&&R.yy)
  .
   rfl
  exact rJ (fun e=>K.nxy e.symm) _ _ _
 .
  have:=(K.klow _ _ _ _ _ (h.parts k hk) _ hm).2;omega
 .
  obtain⟨e1,e2,e3⟩:=h.hy hg hz
  exact⟨Ub e1 ((Ext.refl _).alloc _),e2,e3⟩
 have:=Re (h.hy hg hz).1;omega
theorem FlS.layY(K:FlK R)(hz:R.yy=true)(h:FlS R j f false V F bx by_ a w):FlS R j f true V F bx w.heap.size (a.put (some R.sy) (R.vy w.heap.size)) (w.alloc R.oy):=by
 refine⟨?_,h.ext.alloc _,fun k hk=>K.kext _ _ _ _ _ _ (h.parts k hk) ((Ext.refl _).alloc _),h.two,fun hf=>?_,fun _ _=>⟨heap_alloc_new w _,h.ext.size,fun k hk hm=>?_⟩,fun hf _ _=>?_⟩
 .
  rw[h.act,hz];rfl
 .
  obtain⟨e1,e2,e3⟩:=h.hx hf
  exact⟨Ub e1 ((Ext.refl _).alloc _),e2,e3⟩
 .
  have:=(K.klow _ _ _ _ _ (h.parts k hk) _ hm).2;omega
 have:=Re (h.hx hf).1;omega
theorem FlS.keeps(h:FlS R j f g V F bx by_ a w)(i:Nat)(hj:j<=R.m)(h1:∀k,k<R.m->R.sl k≠i)(h2:R.sx≠i)(h3:R.sy≠i):a.eval (.tmp i)=R.a0.eval (.tmp i):=by
 rw[h.act]
 have c:∀(b:Bool) (s:Nat) (u:Value) (c:Act),s≠i->(Yo b s u c).eval (.tmp i)=c.eval (.tmp i):=by
  intro b s u c hs
  cases b
  .
   rfl
  exact mX hs _ _
 rw[c _ _ _ _ h3,c _ _ _ _ h2]
 have:∀q,q<=R.m->(Rv R.sl V q R.a0).eval (.tmp i)=R.a0.eval (.tmp i):=by
  intro q
  induction q with
  | zero=>intro _;rfl
  | succ q ih =>
   intro hq
   simp only[Rv]
   rw[mX (h1 q oM)]
   exact ih oM
 exact this j hj
end
theorem fO{P:Program}{md:Region.Mode}{ops:Array Oper}{Q:Exit->Act->World->Prop}{S:World->Prop}(R:FlR)(hS:∀w,Ext R.W0 w->S w)(K:FlK R)(ci:Nat->Nat)(x y:Nat)(L:Nat->Bool->Bool->Array Bool)
  (hR:∀j f g,j<=R.m->(R.yy=false->g=true)->(j<R.m\/f=false)->(Region.ready md ops (L j f g)).all (fun i=>(i == ci j&&decide (j<R.m))||((i == x&&!f)||(i == y&&!g)))=true)
  (hN:∀j f g,j<=R.m->(R.yy=false->g=true)->(j<R.m\/f=false)->Region.ready md ops (L j f g)≠[])
  (hL:∀j f g,j<R.m->(L j f g).setIfInBounds (ci j) true=L (j+1) f g)
  (hX:∀j g,j<=R.m->(L j false g).setIfInBounds x true=L j true g)
  (hY:∀j f,j<=R.m->R.yy=true->(L j f false).setIfInBounds y true=L j f true)
  (hc:∀j a w,j<R.m->Ext R.W0 w->(∀i,(∀k,k<R.m->R.sl k≠i)->R.sx≠i->R.sy≠i->a.eval (.tmp i)=R.a0.eval (.tmp i))->∀K':Act->World->Prop,(∀v w' G,Ext w w'->R.Pk j w.heap.size w' v G->K' (a.put (some (R.sl j)) v) w')->wpOp P ops Q (ci j) K' a w)
  (hx:∀a w,∀K':Act->World->Prop,K' (a.put (some R.sx) (R.vx w.heap.size)) (w.alloc R.ox)->wpOp P ops Q x K' a w)
  (hy:R.yy=true->∀a w,∀K':Act->World->Prop,K' (a.put (some R.sy) (R.vy w.heap.size)) (w.alloc R.oy)->wpOp P ops Q y K' a w)
  (N:Nat) (hE:∀g a w V F bx by_,(R.yy=false->g=true)->FlS R R.m true g V F bx by_ a w->wpAnyH P md ops Q S ((if g then 0 else 1)+N) (L R.m true g) a w) :
  ∀(n j:Nat) (f g:Bool) (V:Nat->Value) (F:Nat->List Nat) (bx by_:Nat) (a:Act) (w:World),j<=R.m->(R.yy=false->g=true)->n=(R.m - j)+(if f then 0 else 1)+(if g then 0 else 1)->FlS R j f g V F bx by_ a w->wpAnyH P md ops Q S (n+N) (L j f g) a w:=by
 intro n
 induction n with
 | zero =>
  intro j f g V F bx by_ a w hj hg hn h
  have hjm:j=R.m:=by omega
  cases f
  .
   exact absurd hn (by simp;omega)
  cases g
  .
   exact absurd hn (by simp)
  subst hjm
  exact hE true a w V F bx by_ hg h
 | succ n ih =>
  intro j f g V F bx by_ a w hj hg hn h
  by_cases hd:j=R.m/\f=true
  .
   obtain⟨rfl,rfl⟩:=hd
   rw[hn]
   simpa using hE g a w V F bx by_ hg h
  rw[show n+1+N=(n+N)+1 by omega]
  have hne:j<R.m\/f=false:=by
   cases f
   .
    exact Or.inr rfl
   exact Or.inl (Nat.lt_of_le_of_ne hj (fun e=>hd ⟨e,rfl⟩))
  refine wpAnyH_all rfl (hN j f g hj hg hne) (fun i hi=>?_)
  have hall:=List.all_eq_true.1 (hR j f g hj hg hne) i hi
  simp only[Bool.or_eq_true,Bool.and_eq_true,beq_iff_eq,decide_eq_true_eq,Bool.not_eq_true'] at hall
  rcases hall with⟨rfl,hjm⟩|⟨rfl,rfl⟩|⟨rfl,rfl⟩
  .
   refine hc j a w hjm h.ext (fun i h1 h2 h3=>h.keeps i hj h1 h2 h3) _ (fun v w' G x hp=>⟨hS _ (h.ext.trans x),?_⟩)
   rw[hL j f g hjm]
   exact ih (j+1) f g _ _ bx by_ _ _ oM hg oM (h.chain K hjm x hp)
  .
   refine hx a w _ ⟨hS _ (h.ext.alloc _),?_⟩
   rw[hX j g hj]
   exact ih j true g V F _ by_ _ _ hj hg (by simp at hn ⊢;omega) (h.layX K)
  have hg0:R.yy=true:=by cases hz:R.yy;exact absurd (hg hz) (by simp);rfl
  refine hy hg0 a w _ ⟨hS _ (h.ext.alloc _),?_⟩
  rw[hY j f hj hg0]
  exact ih j f true V F bx _ _ _ hj (fun _=>rfl) (by simp at hn ⊢;omega) (h.layY K hg0)
theorem Va{P:Program}{md:Region.Mode}{ops:Array Oper}{Q:Exit->Act->World->Prop}{S:World->Prop}(R:FlR)(hS:∀w,Ext R.W0 w->S w)(K:FlK R)(ci:Nat->Nat)(x y:Nat)(L:Nat->Bool->Bool->Array Bool)(N:Nat)
  {fuel:Nat} {listed:Array Bool} {a:Act} {w:World} (hact:a=R.a0) (hw:Ext R.W0 w) (hl:listed=L 0 false (!R.yy)) (hf:fuel=R.m+1+(if R.yy then 1 else 0)+N)
  (hR:∀j f g,j<=R.m->(R.yy=false->g=true)->(j<R.m\/f=false)->(Region.ready md ops (L j f g)).all (fun i=>(i == ci j&&decide (j<R.m))||((i == x&&!f)||(i == y&&!g)))=true)
  (hN:∀j f g,j<=R.m->(R.yy=false->g=true)->(j<R.m\/f=false)->Region.ready md ops (L j f g)≠[])
  (hL:∀j f g,j<R.m->(L j f g).setIfInBounds (ci j) true=L (j+1) f g)
  (hX:∀j g,j<=R.m->(L j false g).setIfInBounds x true=L j true g)
  (hY:∀j f,j<=R.m->R.yy=true->(L j f false).setIfInBounds y true=L j f true)
  (hc:∀j a w,j<R.m->Ext R.W0 w->(∀i,(∀k,k<R.m->R.sl k≠i)->R.sx≠i->R.sy≠i->a.eval (.tmp i)=R.a0.eval (.tmp i))->∀K':Act->World->Prop,(∀v w' G,Ext w w'->R.Pk j w.heap.size w' v G->K' (a.put (some (R.sl j)) v) w')->wpOp P ops Q (ci j) K' a w)
  (hx:∀a w,∀K':Act->World->Prop,K' (a.put (some R.sx) (R.vx w.heap.size)) (w.alloc R.ox)->wpOp P ops Q x K' a w)
  (hy:R.yy=true->∀a w,∀K':Act->World->Prop,K' (a.put (some R.sy) (R.vy w.heap.size)) (w.alloc R.oy)->wpOp P ops Q y K' a w)
  (hE:∀g a w V F bx by_,(R.yy=false->g=true)->FlS R R.m true g V F bx by_ a w->wpAnyH P md ops Q S ((if g then 0 else 1)+N) (L R.m true g) a w):wpAnyH P md ops Q S fuel listed a w:=by
 subst hl
 have hn:fuel=(R.m - 0)+(if false then 0 else 1)+(if (!R.yy) then 0 else 1)+N:=by rw[hf];cases R.yy <;> simp <;> omega
 rw[hn]
 refine fO R hS K ci x y L hR hN hL hX hY hc hx hy N hE _ 0 false (!R.yy) (fun _=>undef) (fun _=>[]) 0 0 a w (Nat.zero_le _) (fun h=>by rw[h];rfl) rfl ⟨?_,hw,fun k hk=>absurd hk oM,fun k l _ hl=>absurd hl oM,fun h=>by simp at h,fun h h2=>by rw[h2] at h;simp at h,fun h=>by simp at h⟩
 rw[hact]
 cases R.yy <;> rfl
theorem Lv{P:Program}{w:World}{o:Oper}{a:Act}{K:Act->World->Prop}{Q:Exit->Act->World->Prop}(s x:Operand)(t:TypeId)
  (ho:o.op=.call { callee:=.builtin .append,args:=#[s,x],argTypes:=#[t,t] })
  (e:TypeId) (i:TypeInfo) (z:Value) (size bytes:Nat) (ht:P.underlying t=some (.slice e)) (hi:P.info? e=some i) (hz:i.zero=some z)
  (hsize:i.size=size) (hby:i.bytes=bytes) (hzs:z.cells.size=size) (hsz:0<size)
  (B:Nat) (v:Value) (cs:List Value) (hs:a.eval s=v) (hown:Own B e size w v cs) (u:Value) (news:List Value) (hx:a.eval x=u) (hsl:Sl size w u news) (h1:∀u ∈ news,u.oneCell'=true)
  (n:Nat) (hlen:cs.length+news.length<=n*size) (hn:n<=maxLen) (hbytes:n*bytes<=140737488355328) (hbase:B<=w.heap.size)
  (h:∀v' w',Own B e size w' v' (cs++news)->w.grownBy w' v.ownBlock->K (a.put o.dst v') w'):o.wp P a w K Q:=by
 obtain⟨len,ho'⟩:=hown
 obtain⟨ad,m,c,rfl,hl,hmc,hcm,hnil,hcell⟩:=hsl
 have hl0:cs.length=len*size:=ho'.1
 have hle:len+m<=n:=by
  have:(len+m)*size<=n*size:=by rw[Nat.add_mul];omega
  exact Nat.le_of_mul_le_mul_right this hsz
 cases ad with
 | none =>
  have hc0:=hnil rfl
  subst hc0
  have hm0:m=0:=by omega
  subst hm0
  have:news=[]:=List.eq_nil_of_length_eq_zero (by simpa using hl)
  subst this
  have hrun:=run_append_owned_none (P:=P) (w:=w) B t o.type e i size ht hi v len cs ho'
  unfold Oper.wp
  simp[execOp,ho,resolve,invoke,builtin,hs,hx,hrun,Result.andThen]
  exact h v w ⟨len,by simpa using ho'⟩ (World.grownBy.refl w _)
 | some ad =>
  refine wp_append_own w s x t ho B e i z size bytes ht hi hz hsize hby hzs hsz v len cs hs ho' ad m c news hx hl (fun j u hu=>?_) h1 (Nat.le_trans hle hn) (Nat.le_trans (Nat.mul_le_mul_right _ hle) hbytes) hbase (fun v' w' h2 h3 _=>h v' w' ⟨_,h2⟩ h3)
  have hm0:0<m:=by
   rcases Nat.eq_zero_or_pos m with h0|h0
   .
    subst h0
    have:news=[]:=List.eq_nil_of_length_eq_zero (by simpa using hl)
    subst this;simp at hu
   exact h0
  obtain⟨b,off,sp⟩:=ad
  obtain⟨rfl,_,h8⟩:=hcell b off sp rfl hm0
  rw[Jz]
  exact h8 j u hu
theorem Own.none0{B:Nat}{e:TypeId}{n:Nat}{w:World}{g:Nat}(h:Blk w g e #[])(hB:B<=g):Own B e n w (.slice (some ⟨g,0,none⟩) 0 0) [] :=
 Own.of_blk (cap:=0) h hB (by simp) (by simp) (Nat.le_refl _) dC (by simpa using Pre.zero _ _)
theorem Own.fromS{w w':World}{B B':Nat}{t e:TypeId}{n m:Nat}{v u:Value}{cs xs:List Value}(h:Own B' t m w u cs)(ho:Own B e n w v xs)(ht:t≠e)(hg:w.grownBy w' v.ownBlock):Own B' t m w' u cs:=by
 refine h.kept hg ?_
 rcases hu:u.ownBlock with _|X
 .
  exact Or.inl rfl
 refine Or.inr (fun e1=>?_)
 obtain⟨c1,k1⟩:=h.typed hu
 obtain⟨c2,k2⟩:=ho.typed e1.symm
 exact ht (k1.same k2)
def Ai(id:Int)(l:List Da):El:=if Dm ⟨id,l,[],0⟩ then⟨id,l,[],0⟩ else⟨0,[],[],0⟩
theorem lK{w:World}{v:Value}{c:El}(h:Gk w v c)(e1:c.Todo.length<=1048576)(e2:c.Gots.length<=1048576):Calls Tryz.prog 172 #[v] w (Ret w fun r w'=>∃F,Db w.heap.size w' r c F):=by
 obtain⟨t1,t2,rfl,h1,h2⟩:=h
 obtain⟨a1,n1,k1,rfl⟩:=h1.shape
 obtain⟨a2,n2,k2,rfl⟩:=h2.shape
 obtain⟨i0,ii,iz0,iz1,iz2⟩:=info_parts Uj
 obtain⟨j0,ji,jz0,jz1,jz2⟩:=info_parts pT
 show Calls _ _ #[.agg #[.int .i64 c.Id,.slice a1 n1 k1,.slice a2 n2 k2,.int .i64 c.Last]] _ _
 obtain⟨W1,hW1⟩:∃W1,W1=(w.alloc (.cells #[.int .i64 c.Id,.slice a1 n1 k1,.slice a2 n2 k2,.int .i64 c.Last] 100)).alloc (.cells #[.int .i64 0,.slice none 0 0,.slice none 0 0,.int .i64 0] 100):=⟨_,rfl⟩
 have E1:Ext w W1:=by rw[hW1];exact((Ext.refl _).alloc _).alloc _
 have K1:Blk W1 w.heap.size 100 #[.int .i64 c.Id,.slice a1 n1 k1,.slice a2 n2 k2,.int .i64 c.Last]:=by rw[hW1];exact(Blk.new _ _ _).alloc _
 have KR1:Blk W1 (w.heap.size+1) 100 #[.int .i64 0,.slice none 0 0,.slice none 0 0,.int .i64 0]:=by rw[hW1];exact Blk.new2 _ _ _ _
 have z1:W1.heap.size=w.heap.size+1+1:=by rw[hW1];simp
 have z2:=Nat.le_of_eq z1;have z3:=Nat.le_of_eq z1.symm;clear z1
 have HW1:=Lib.hid hW1
 clear hW1
 go_enter Tryz.func172,Tryz.ntmps172
 go_wp2_with fail
 rw[<-HW1.out]
 refine wp_region_held_drew (S:=fun w'=>Ext w w'/\Blk w' w.heap.size 100 #[.int .i64 c.Id,.slice a1 n1 k1,.slice a2 n2 k2,.int .i64 c.Last]) (by kernel_rfl) (by(try dsimp only);exact⟨by exact Aa,by exact Bv⟩) (fun hHeld=>?_)
 refine wt 0 ?_
 (try simp only[Ab,Act.put])
 refine wtq 1 (fun _ h=>h.2.cell) ?_
 (try simp only[Ab,Act.put])
 refine wt 3 ?_
 (try simp only[Ab,Act.put])
 refine wtq 4 (fun _ h=>h.2.cell) ?_
 (try simp only[Ab,Act.put])
 refine wt 7 ?_
 (try simp only[Ab,Act.put])
 refine wtq 8 (fun _ h=>h.2.cell) ?_
 (try simp only[Ab,Act.put])
 refine wt 10 ?_
 (try simp only[Ab,Act.put])
 refine wtq 11 (fun _ h=>h.2.cell) ?_
 (try simp only[Ab,Act.put])
 refine wr2 2 6 (fun Kz hKz=>?_) fun Kz hKz=>?_
 .
  (try simp only[Ab])
  go_simp
  refine hKz.out _ _ (by(try dsimp only);exact⟨by exact Aa,by exact Bv⟩) (fun hHeld=>?_)
  clear hKz Kz
  (try simp only[Ab,Act.put])
  refine wr2 5 6 (fun Kz hKz=>?_) fun Kz hKz=>?_
  .
   (try simp only[Ab])
   rw[if_pos (by rfl)]
   refine Lv (.tmp 5) (.tmp 7) 97 (by rfl) 161 i0 _ 7 56 Tryz.underlying97 ii iz0 iz1 iz2 rfl dC W1.heap.size _ [] (by rfl) (Own.none0 (e:=161) (n:=7) (B:=W1.heap.size) (by exact Bv) (by first|exact Nat.le_refl _|omega|(simp only[Dj,World.size_alloc];omega)|(simp;done)|(simp;omega))) _ ((Fw c.Todo).map (.int .i64)) (by rfl) (Sl.ext h1 (by exact Ext.trans E1 Aa)) (ints_oneCell _ _) 1048576 (by have:=Lf c.Todo;simp;omega) (by unfold maxLen;omega) oM (by first|exact Nat.le_refl _|omega|(simp only[Dj,World.size_alloc];omega)|(simp;done)|(simp;omega)) ?_
   intro v5 w5 o5 y5
   have X5:Ext W1 w5:=Ext.own (a:=W1) Aa (Own.none0 (e:=161) (n:=7) (B:=W1.heap.size) (by exact Bv) (by first|exact Nat.le_refl _|omega|(simp only[Dj,World.size_alloc];omega)|(simp;done)|(simp;omega))) (Nat.le_refl _) y5
   have K5:=K1.ext X5
   obtain⟨t5,m5,c5,rfl⟩:=(Own.sl o5).shape
   skip
   refine hKz.out _ _ (by(try dsimp only);exact⟨by exact Aa,by exact Bv⟩) (fun hHeld=>?_)
   clear hKz Kz
   (try simp only[Ab,Act.put])
   refine wr1 6 fun Kz hKz=>?_
   (try simp only[Ab])
   go_simp
   refine hKz.out _ _ (by(try dsimp only);exact⟨by exact Aa,by exact Bv⟩) (fun hHeld=>?_)
   clear hKz Kz
   (try simp only[Ab,Act.put])
   refine wr1 9 fun Kz hKz=>?_
   (try simp only[Ab])
   rw[if_pos (by rfl)]
   have z5:=X5.size
   refine Lv (.tmp 9) (.tmp 11) 98 (by rfl) 276 j0 _ 4 32 Tryz.underlying98 ji jz0 jz1 jz2 rfl dC W1.heap.size _ [] (by rfl) (Own.none0 (e:=276) (n:=4) (B:=W1.heap.size) (by exact Bv) (by first|exact Nat.le_refl _|omega|(simp only[Dj,World.size_alloc];omega)|(simp;done)|(simp;omega))) _ ((Tb c.Gots).map (.int .i64)) (by rfl) (Sl.ext h2 (by exact Ext.trans E1 Aa)) (ints_oneCell _ _) 1048576 (by have:=Rx c.Gots;simp;omega) (by unfold maxLen;omega) oM (by first|omega|(simp only[Dj,World.size_alloc];omega)) ?_
   intro v9 w9 o9 y9
   have X9:Ext W1 w9:=Ext.own (a:=W1) Aa (Own.none0 (e:=276) (n:=4) (B:=W1.heap.size) (by exact Bv) (by first|exact Nat.le_refl _|omega|(simp only[Dj,World.size_alloc];omega)|(simp;done)|(simp;omega))) (Nat.le_refl _) y9
   have p5:Own W1.heap.size 161 7 w9 (.slice t5 m5 c5) _:=Own.fromS (Own.ext o5 Aa) (Own.none0 (e:=276) (n:=4) (B:=W1.heap.size) (by exact Bv) (by first|exact Nat.le_refl _|omega|(simp only[Dj,World.size_alloc];omega)|(simp;done)|(simp;omega))) dC y9
   have K9:=K1.ext X9
   obtain⟨t9,m9,c9,rfl⟩:=(Own.sl o9).shape
   refine hKz.out _ _ (by(try dsimp only);exact⟨by exact Aa,by exact Bv⟩) (fun hHeld=>?_)
   clear hKz Kz
   (try simp only[Ab,Act.put])
   refine wt 12 ?_
   (try simp only[Ab,Act.put])
   refine wr1 13 fun Kz hKz=>?_
   (try simp only[Ab])
   rw[if_pos (by rfl)]
   have KR9:Blk w9 (w.heap.size+1) 100 #[.int .i64 0,.slice none 0 0,.slice none 0 0,.int .i64 0]:=KR1.ext X9
   refine wp_store_row 100 (.tmp 2) (.tmp 15) (by rfl) _ #[.int .i64 c.Id,.slice t5 m5 c5,.slice t9 m9 c9,.int .i64 c.Last] (by rfl) (by rfl) 100 _ (show Blk _ (w.heap.size+1) 100 #[.int .i64 0,.slice none 0 0,.slice none 0 0,.int .i64 0] from by exact Bv) (by kernel_rfl) rfl (by kernel_rfl) ?_
   refine hKz.out _ _ (by(try dsimp only);exact⟨by exact Aa,by exact Bv⟩) (fun hHeld=>?_)
   clear hKz Kz
   (try simp only[Ab,Act.put])
   refine wpAnyH_done (by kernel_rfl) ?_ _
   go_wp2_with fail
   have LR9:=KR9.lt
   refine bodyPost_ret (v:=.agg #[.int .i64 c.Id,.slice t5 m5 c5,.slice t9 m9 c9,.int .i64 c.Last]) (by first|exact results_cell_row rfl _ _ (w.heap.size+1) _ _ _ _ (by rfl) (Blk.row (show Blk _ (w.heap.size+1) 100 #[.int .i64 0,.slice none 0 0,.slice none 0 0,.int .i64 0] from by exact Bv) _) Tryz.underlying100 rfl (by kernel_rfl)) rfl ?_
   have q5:Af W1.heap.size 161 7 w9 (.slice t5 m5 c5) (Fw c.Todo):=p5
   have q9:Af W1.heap.size 276 4 w9 (.slice t9 m9 c9) (Tb c.Gots):=by simpa[Af] using o9
   refine⟨_,rfl,by exact Aa,_,.slice t5 m5 c5,.slice t9 m9 c9,_,_,rfl,⟨?_,rfl⟩,⟨?_,rfl⟩,?_,rfl⟩
   .
    exact Af.mono (Af.keep q5 Hx) oM
   .
    exact Af.mono (Af.keep q9 Hx) oM
   refine List.Pairwise.cons (fun b hb k hk hk2=>?_) (List.Pairwise.cons (fun b hb=>by cases hb) List.Pairwise.nil)
   simp only[List.mem_cons,List.not_mem_nil,or_false] at hb
   subst hb
   exact eE q5 q9 dC k hk hk2
  (try simp only[Ab])
  go_simp
  refine hKz.out _ _ (by(try dsimp only);exact⟨by exact Aa,by exact Bv⟩) (fun hHeld=>?_)
  clear hKz Kz
  (try simp only[Ab,Act.put])
  refine wr1 5 fun Kz hKz=>?_
  (try simp only[Ab])
  rw[if_pos (by rfl)]
  refine Lv (.tmp 5) (.tmp 7) 97 (by rfl) 161 i0 _ 7 56 Tryz.underlying97 ii iz0 iz1 iz2 rfl dC W1.heap.size _ [] (by rfl) (Own.none0 (e:=161) (n:=7) (B:=W1.heap.size) (by exact Bv) (by first|exact Nat.le_refl _|omega|(simp only[Dj,World.size_alloc];omega)|(simp;done)|(simp;omega))) _ ((Fw c.Todo).map (.int .i64)) (by rfl) (Sl.ext h1 (by exact Ext.trans E1 Aa)) (ints_oneCell _ _) 1048576 (by have:=Lf c.Todo;simp;omega) (by unfold maxLen;omega) oM (by first|exact Nat.le_refl _|omega|(simp only[Dj,World.size_alloc];omega)|(simp;done)|(simp;omega)) ?_
  intro v5 w5 o5 y5
  have X5:Ext W1 w5:=Ext.own (a:=W1) Aa (Own.none0 (e:=161) (n:=7) (B:=W1.heap.size) (by exact Bv) (by first|exact Nat.le_refl _|omega|(simp only[Dj,World.size_alloc];omega)|(simp;done)|(simp;omega))) (Nat.le_refl _) y5
  have K5:=K1.ext X5
  obtain⟨t5,m5,c5,rfl⟩:=(Own.sl o5).shape
  have og:Own W1.heap.size 276 4 w5 (.slice (some ⟨W1.heap.size+1,0,none⟩) 0 0) []:=Own.fromS (Own.none0 (e:=276) (n:=4) (B:=W1.heap.size) (by exact Bv) (by first|exact Nat.le_refl _|omega|(simp only[Dj,World.size_alloc];omega)|(simp;done)|(simp;omega))) (Own.none0 (e:=161) (n:=7) (B:=W1.heap.size) (by exact Bv) (by first|exact Nat.le_refl _|omega|(simp only[Dj,World.size_alloc];omega)|(simp;done)|(simp;omega))) dC y5
  refine hKz.out _ _ (by(try dsimp only);exact⟨by exact Aa,by exact Bv⟩) (fun hHeld=>?_)
  clear hKz Kz
  (try simp only[Ab,Act.put])
  refine wr1 9 fun Kz hKz=>?_
  (try simp only[Ab])
  rw[if_pos (by rfl)]
  have z5:=X5.size
  refine Lv (.tmp 9) (.tmp 11) 98 (by rfl) 276 j0 _ 4 32 Tryz.underlying98 ji jz0 jz1 jz2 rfl dC W1.heap.size _ [] (by rfl) (Own.ext og Aa) _ ((Tb c.Gots).map (.int .i64)) (by rfl) (Sl.ext h2 (by exact Ext.trans E1 Aa)) (ints_oneCell _ _) 1048576 (by have:=Rx c.Gots;simp;omega) (by unfold maxLen;omega) oM (by first|omega|(simp only[Dj,World.size_alloc];omega)) ?_
  intro v9 w9 o9 y9
  have X9:Ext W1 w9:=Ext.own (a:=W1) Aa (Own.ext og Aa) (Nat.le_refl _) y9
  have p5:Own W1.heap.size 161 7 w9 (.slice t5 m5 c5) _:=Own.fromS (Own.ext o5 Aa) (Own.ext og Aa) dC y9
  have K9:=K1.ext X9
  obtain⟨t9,m9,c9,rfl⟩:=(Own.sl o9).shape
  refine hKz.out _ _ (by(try dsimp only);exact⟨by exact Aa,by exact Bv⟩) (fun hHeld=>?_)
  clear hKz Kz
  (try simp only[Ab,Act.put])
  refine wt 12 ?_
  (try simp only[Ab,Act.put])
  refine wr1 13 fun Kz hKz=>?_
  (try simp only[Ab])
  rw[if_pos (by rfl)]
  have KR9:Blk w9 (w.heap.size+1) 100 #[.int .i64 0,.slice none 0 0,.slice none 0 0,.int .i64 0]:=KR1.ext X9
  refine wp_store_row 100 (.tmp 2) (.tmp 15) (by rfl) _ #[.int .i64 c.Id,.slice t5 m5 c5,.slice t9 m9 c9,.int .i64 c.Last] (by rfl) (by rfl) 100 _ (show Blk _ (w.heap.size+1) 100 #[.int .i64 0,.slice none 0 0,.slice none 0 0,.int .i64 0] from by exact Bv) (by kernel_rfl) rfl (by kernel_rfl) ?_
  refine hKz.out _ _ (by(try dsimp only);exact⟨by exact Aa,by exact Bv⟩) (fun hHeld=>?_)
  clear hKz Kz
  (try simp only[Ab,Act.put])
  refine wpAnyH_done (by kernel_rfl) ?_ _
  go_wp2_with fail
  have LR9:=KR9.lt
  refine bodyPost_ret (v:=.agg #[.int .i64 c.Id,.slice t5 m5 c5,.slice t9 m9 c9,.int .i64 c.Last]) (by first|exact results_cell_row rfl _ _ (w.heap.size+1) _ _ _ _ (by rfl) (Blk.row (show Blk _ (w.heap.size+1) 100 #[.int .i64 0,.slice none 0 0,.slice none 0 0,.int .i64 0] from by exact Bv) _) Tryz.underlying100 rfl (by kernel_rfl)) rfl ?_
  have q5:Af W1.heap.size 161 7 w9 (.slice t5 m5 c5) (Fw c.Todo):=p5
  have q9:Af W1.heap.size 276 4 w9 (.slice t9 m9 c9) (Tb c.Gots):=by simpa[Af] using o9
  refine⟨_,rfl,by exact Aa,_,.slice t5 m5 c5,.slice t9 m9 c9,_,_,rfl,⟨?_,rfl⟩,⟨?_,rfl⟩,?_,rfl⟩
  .
   exact Af.mono (Af.keep q5 Hx) oM
  .
   exact Af.mono (Af.keep q9 Hx) oM
  refine List.Pairwise.cons (fun b hb k hk hk2=>?_) (List.Pairwise.cons (fun b hb=>by cases hb) List.Pairwise.nil)
  simp only[List.mem_cons,List.not_mem_nil,or_false] at hb
  subst hb
  exact eE q5 q9 dC k hk hk2
 (try simp only[Ab])
 go_simp
 refine hKz.out _ _ (by(try dsimp only);exact⟨by exact Aa,by exact Bv⟩) (fun hHeld=>?_)
 clear hKz Kz
 (try simp only[Ab,Act.put])
 refine wr1 2 fun Kz hKz=>?_
 (try simp only[Ab])
 go_simp
 refine hKz.out _ _ (by(try dsimp only);exact⟨by exact Aa,by exact Bv⟩) (fun hHeld=>?_)
 clear hKz Kz
 (try simp only[Ab,Act.put])
 refine wr1 5 fun Kz hKz=>?_
 (try simp only[Ab])
 rw[if_pos (by rfl)]
 refine Lv (.tmp 5) (.tmp 7) 97 (by rfl) 161 i0 _ 7 56 Tryz.underlying97 ii iz0 iz1 iz2 rfl dC W1.heap.size _ [] (by rfl) (Own.none0 (e:=161) (n:=7) (B:=W1.heap.size) (by exact Bv) (by first|exact Nat.le_refl _|omega|(simp only[Dj,World.size_alloc];omega)|(simp;done)|(simp;omega))) _ ((Fw c.Todo).map (.int .i64)) (by rfl) (Sl.ext h1 (by exact Ext.trans E1 Aa)) (ints_oneCell _ _) 1048576 (by have:=Lf c.Todo;simp;omega) (by unfold maxLen;omega) oM (by first|exact Nat.le_refl _|omega|(simp only[Dj,World.size_alloc];omega)|(simp;done)|(simp;omega)) ?_
 intro v5 w5 o5 y5
 have X5:Ext W1 w5:=Ext.own (a:=W1) Aa (Own.none0 (e:=161) (n:=7) (B:=W1.heap.size) (by exact Bv) (by first|exact Nat.le_refl _|omega|(simp only[Dj,World.size_alloc];omega)|(simp;done)|(simp;omega))) (Nat.le_refl _) y5
 have K5:=K1.ext X5
 obtain⟨t5,m5,c5,rfl⟩:=(Own.sl o5).shape
 have og:Own W1.heap.size 276 4 w5 (.slice (some ⟨W1.heap.size,0,none⟩) 0 0) []:=Own.fromS (Own.none0 (e:=276) (n:=4) (B:=W1.heap.size) (by exact Bv) (by first|exact Nat.le_refl _|omega|(simp only[Dj,World.size_alloc];omega)|(simp;done)|(simp;omega))) (Own.none0 (e:=161) (n:=7) (B:=W1.heap.size) (by exact Bv) (by first|exact Nat.le_refl _|omega|(simp only[Dj,World.size_alloc];omega)|(simp;done)|(simp;omega))) dC y5
 refine hKz.out _ _ (by(try dsimp only);exact⟨by exact Aa,by exact Bv⟩) (fun hHeld=>?_)
 clear hKz Kz
 (try simp only[Ab,Act.put])
 refine wr1 9 fun Kz hKz=>?_
 (try simp only[Ab])
 rw[if_pos (by rfl)]
 have z5:=X5.size
 refine Lv (.tmp 9) (.tmp 11) 98 (by rfl) 276 j0 _ 4 32 Tryz.underlying98 ji jz0 jz1 jz2 rfl dC W1.heap.size _ [] (by rfl) (Own.ext og Aa) _ ((Tb c.Gots).map (.int .i64)) (by rfl) (Sl.ext h2 (by exact Ext.trans E1 Aa)) (ints_oneCell _ _) 1048576 (by have:=Rx c.Gots;simp;omega) (by unfold maxLen;omega) oM (by first|omega|(simp only[Dj,World.size_alloc];omega)) ?_
 intro v9 w9 o9 y9
 have X9:Ext W1 w9:=Ext.own (a:=W1) Aa (Own.ext og Aa) (Nat.le_refl _) y9
 have p5:Own W1.heap.size 161 7 w9 (.slice t5 m5 c5) _:=Own.fromS (Own.ext o5 Aa) (Own.ext og Aa) dC y9
 have K9:=K1.ext X9
 obtain⟨t9,m9,c9,rfl⟩:=(Own.sl o9).shape
 refine hKz.out _ _ (by(try dsimp only);exact⟨by exact Aa,by exact Bv⟩) (fun hHeld=>?_)
 clear hKz Kz
 (try simp only[Ab,Act.put])
 refine wt 12 ?_
 (try simp only[Ab,Act.put])
 refine wr1 13 fun Kz hKz=>?_
 (try simp only[Ab])
 rw[if_pos (by rfl)]
 have KR9:Blk w9 (w.heap.size+1) 100 #[.int .i64 0,.slice none 0 0,.slice none 0 0,.int .i64 0]:=KR1.ext X9
 refine wp_store_row 100 (.tmp 2) (.tmp 15) (by rfl) _ #[.int .i64 c.Id,.slice t5 m5 c5,.slice t9 m9 c9,.int .i64 c.Last] (by rfl) (by rfl) 100 _ (show Blk _ (w.heap.size+1) 100 #[.int .i64 0,.slice none 0 0,.slice none 0 0,.int .i64 0] from by exact Bv) (by kernel_rfl) rfl (by kernel_rfl) ?_
 refine hKz.out _ _ (by(try dsimp only);exact⟨by exact Aa,by exact Bv⟩) (fun hHeld=>?_)
 clear hKz Kz
 (try simp only[Ab,Act.put])
 refine wpAnyH_done (by kernel_rfl) ?_ _
 go_wp2_with fail
 have LR9:=KR9.lt
 refine bodyPost_ret (v:=.agg #[.int .i64 c.Id,.slice t5 m5 c5,.slice t9 m9 c9,.int .i64 c.Last]) (by first|exact results_cell_row rfl _ _ (w.heap.size+1) _ _ _ _ (by rfl) (Blk.row (show Blk _ (w.heap.size+1) 100 #[.int .i64 0,.slice none 0 0,.slice none 0 0,.int .i64 0] from by exact Bv) _) Tryz.underlying100 rfl (by kernel_rfl)) rfl ?_
 have q5:Af W1.heap.size 161 7 w9 (.slice t5 m5 c5) (Fw c.Todo):=p5
 have q9:Af W1.heap.size 276 4 w9 (.slice t9 m9 c9) (Tb c.Gots):=by simpa[Af] using o9
 refine⟨_,rfl,by exact Aa,_,.slice t5 m5 c5,.slice t9 m9 c9,_,_,rfl,⟨?_,rfl⟩,⟨?_,rfl⟩,?_,rfl⟩
 .
  exact Af.mono (Af.keep q5 Hx) oM
 .
  exact Af.mono (Af.keep q9 Hx) oM
 refine List.Pairwise.cons (fun b hb k hk hk2=>?_) (List.Pairwise.cons (fun b hb=>by cases hb) List.Pairwise.nil)
 simp only[List.mem_cons,List.not_mem_nil,or_false] at hb
 subst hb
 exact eE q5 q9 dC k hk hk2
theorem Us(B:Nat)(w:World):Db B w (.agg #[.int .i64 0,.slice none 0 0,.slice none 0 0,.int .i64 0]) ⟨0,[],[],0⟩ []:=⟨.slice none 0 0,.slice none 0 0,[],[],rfl,⟨Af.nil _ _ _ _,rfl⟩,⟨Af.nil _ _ _ _,rfl⟩,by simp,rfl⟩
theorem Wr{w:World}{v:Value}{l:List Da}(h:Gy w v l)(id:Int)(e1:l.length<=1048576):Calls Tryz.prog 76 #[.int .i64 id,v] w (Ret w fun r w'=>∃F,Db w.heap.size w' r (Ai id l) F):=by
 obtain⟨a,n,k,rfl⟩:=h.shape
 go_enter Tryz.func76,Tryz.ntmps76
 go_wp2_with fail
 obtain⟨W2,hW2⟩:∃W2,W2=(w.alloc (.cells #[.int .i64 0,.slice none 0 0,.slice none 0 0,.int .i64 0] 100)).alloc (.cells #[.int .i64 id,.slice a n k,.slice none 0 0,.int .i64 0] 100):=⟨_,rfl⟩
 rw[<-hW2]
 have X2:Ext w W2:=by rw[hW2];exact Aa
 have KA2:Blk W2 (w.heap.size+1) 100 #[.int .i64 id,.slice a n k,.slice none 0 0,.int .i64 0]:=by rw[hW2];exact Blk.cast (by exact Bv) (by first|rfl|simp)
 have KR2:Blk W2 w.heap.size 100 #[.int .i64 0,.slice none 0 0,.slice none 0 0,.int .i64 0]:=by rw[hW2];exact Bv
 have z2:W2.heap.size=w.heap.size+1+1:=by rw[hW2];simp
 clear hW2
 have hc:Gk W2 (.agg #[.int .i64 id,.slice a n k,.slice none 0 0,.int .i64 0]) ⟨id,l,[],0⟩:=⟨.slice a n k,.slice none 0 0,rfl,Gy.ext h X2,(Af.nil 0 276 _ _).ints⟩
 refine(Tz hc).mono ?_
 rintro e w3⟨rfl,x3⟩
 have X3:=X2.trans x3;have z3:=x3.size
 have KA3:=Blk.ext KA2 x3;have KR3:=Blk.ext KR2 x3
 have CA3:=KA3.cell;have FA3:=KA3.frozen;have LA3:=KA3.lt;have CR3:=KR3.cell;have FR3:=KR3.frozen;have LR3:=KR3.lt
 cases q:Dm ⟨id,l,[],0⟩
 .
  go_wp2_with fail
  refine bodyPost_ret (by simp[results,Tryz.results76,go_sem,CR3,FR3,LR3];try rfl) rfl ?_
  refine⟨_,rfl,by exact Aa,[],?_⟩
  rw[show Ai id l=⟨0,[],[],0⟩ from by unfold Ai;rw[q];rfl]
  exact Us _ _
 have hcl:=hc.ext x3
 go_wp2_with fail
 refine(lK hcl e1 (by simp)).mono ?_
 rintro e w4⟨_,rfl,x4,F,o4⟩
 have X4:=X3.trans x4;have z4:=x4.size
 obtain⟨t1,t2,F1,F2,rfl,o1,o2,hd,hF⟩:=o4
 obtain⟨b1,m1,j1,rfl⟩:=o1.rd.shape
 obtain⟨b2,m2,j2,rfl⟩:=o2.rd.shape
 have KR4:=KR3.ext x4;have CR4:=KR4.cell;have FR4:=KR4.frozen;have LR4:=KR4.lt
 clear CA3 FA3 LA3 CR3 FR3 LR3
 go_wp2_with fail
 refine bodyPost_ret (by simp[results,Tryz.results76,go_sem,CR4,FR4,LR4];try rfl) rfl ?_
 refine⟨_,rfl,by exact Aa,F,?_⟩
 rw[show Ai id l=⟨id,l,[],0⟩ from by unfold Ai;rw[q];rfl]
 exact⟨.slice b1 m1 j1,.slice b2 m2 j2,F1,F2,rfl,(Kv.keep (o1.mono (B':=w.heap.size+1) oM) Hx).mono oM,(Mq.keep (o2.mono (B':=w.heap.size+1) oM) Hx).mono oM,hd,hF⟩
theorem Yp{w:World}{v:Value}{l:List Da}(h:Gy w v l)(id:Int)(e1:l.length<=1048576):Calls Tryz.prog 74 #[.int .i64 id,v] w (Ret w fun r w'=>∃F,Db w.heap.size w' r (Ai id l) F):=by
 obtain⟨a,n,k,rfl⟩:=h.shape
 obtain⟨i0,ii,iz0,iz1,iz2⟩:=info_parts Uj
 go_enter Tryz.func74,Tryz.ntmps74
 go_wp2_with (first|(at_builtin;refine Kx rfl (.tmp 7) (.tmp 8) 97 rfl 161 i0 _ 7 56 Tryz.underlying97 ii iz0 iz1 iz2 rfl dC (w.heap.size+1) (by simp) rfl (.slice a n k) ((Fw l).map (.int .i64)) rfl (Sl.ext h ((Ext.refl _).alloc _)) (ints_oneCell _ _) 1048576 (by have:=Lf l;simp;omega) (by unfold maxLen;omega) oM ?_;rotate_right;intro t5 w1 g5 hx1;obtain⟨t5,m5,c5,rfl⟩:=g5.sl.shape))
 have X1:Ext w w1:=Ext.trans ((Ext.refl _).alloc _) hx1
 have KR1:Blk w1 w.heap.size 100 #[.int .i64 0,.slice none 0 0,.slice none 0 0,.int .i64 0]:=(Blk.new _ _ _).ext hx1
 have z1:=hx1.size;simp only[World.size_alloc] at z1
 obtain⟨W2,hW2⟩:∃W2,W2=w1.alloc (.cells #[.int .i64 id,.slice t5 m5 c5,.slice none 0 0,.int .i64 0] 100):=⟨_,rfl⟩
 rw[<-hW2]
 have X2:Ext w1 W2:=by rw[hW2];exact Aa
 have KA2:Blk W2 w1.heap.size 100 #[.int .i64 id,.slice t5 m5 c5,.slice none 0 0,.int .i64 0]:=by rw[hW2];exact Blk.cast (by exact Bv) (by first|rfl|simp)
 have KR2:Blk W2 w.heap.size 100 #[.int .i64 0,.slice none 0 0,.slice none 0 0,.int .i64 0]:=KR1.ext X2
 have z2:W2.heap.size=w1.heap.size+1:=by rw[hW2];simp
 clear hW2
 have g2:Af (w.heap.size+1) 161 7 W2 (.slice t5 m5 c5) (Fw l):=Own.ext g5 X2
 have hc:Gk W2 (.agg #[.int .i64 id,.slice t5 m5 c5,.slice none 0 0,.int .i64 0]) ⟨id,l,[],0⟩:=⟨.slice t5 m5 c5,.slice none 0 0,rfl,g2.ints,(Af.nil 0 276 _ _).ints⟩
 refine(Wb hc).mono ?_
 rintro e w3⟨rfl,x3⟩
 have X3:=X1.trans (X2.trans x3);have z3:=x3.size
 have KA3:=Blk.ext KA2 x3;have KR3:=Blk.ext KR2 x3
 have CA3:=KA3.cell;have FA3:=KA3.frozen;have LA3:=KA3.lt;have CR3:=KR3.cell;have FR3:=KR3.frozen;have LR3:=KR3.lt
 cases q:Dm ⟨id,l,[],0⟩
 .
  go_wp2_with fail
  refine bodyPost_ret (by simp[results,Tryz.results74,go_sem,CR3,FR3,LR3];try rfl) rfl ?_
  refine⟨_,rfl,by exact Aa,[],?_⟩
  rw[show Ai id l=⟨0,[],[],0⟩ from by unfold Ai;rw[q];rfl]
  exact Us _ _
 have g3:Af (w.heap.size+1) 161 7 w3 (.slice t5 m5 c5) (Fw l):=Own.ext g2 x3
 go_wp2_with fail
 refine bodyPost_ret (by simp[results,Tryz.results74,go_sem,CR3,FR3,LR3];try rfl) rfl ?_
 refine⟨_,rfl,by exact Aa,Be [.slice t5 m5 c5]++[],?_⟩
 rw[show Ai id l=⟨id,l,[],0⟩ from by unfold Ai;rw[q];rfl]
 exact⟨.slice t5 m5 c5,.slice none 0 0,_,[],rfl,⟨Af.mono (Af.keep g3 Hx) oM,rfl⟩,⟨Af.nil _ _ _ _,rfl⟩,by simp,rfl⟩
def Kw:It:=⟨Gb 8,⟨0,0,[],[],⟨0,0,0⟩⟩,0,0,0⟩
def mY:El:=⟨0,[],[],0⟩
def uK:Di:=⟨0,0,0,[]⟩
def fP:De:=⟨0,0,⟨⟨0,0,0,0,0,[]⟩⟩,false,⟨0,0,0,0,0⟩,0⟩
def Qp:Fb:=⟨⟨⟨⟨[],[]⟩,⟨[],[]⟩⟩,uK,uK,false,⟨0,0,[]⟩,[],0,[]⟩,⟨⟨[],[]⟩,⟨0,0,[],[],⟨0,0,0⟩⟩,0,0,0⟩,fP,fP,mY,mY,⟨[],[]⟩,[],[]⟩
noncomputable def Hb(a b:List Da):Fb:=⟨Gi,Kw,Dw 2,Dw 3,Ai 4 a,Ai 5 b,⟨[],[]⟩,List.replicate 6 0,List.replicate 6 true⟩
noncomputable def Gd(a b:List Da):Fb:=if Fo a&&Fo b then Hb a b else Qp
theorem Ij{P:Program}{fn:Func}{p q:Tmp}{ty:TypeId}(h:fn.results=#[.cell p ty,.tmp q])(tmps:Array Value)(w:World)(g:Nat)(t:TypeId)(cs:Array Value)(fr:Nat × Nat)(d:TypeDesc)(v:Value)
  (hp:tmps.getD p undef=.pointer (some ⟨g,0,none⟩)) (hv:tmps.getD q undef=v) (hg:w.heap[g]?=some (.cells cs t fr))
  (hu:P.underlying ty=some d) (hd:(match d with|.struct _|.array _ _=>true|_=>false)=true) (hi:(P.info? ty).map (·.size)=some cs.size) :
  (results fn tmps).run P w=.ok (.tuple #[.agg cs,v]) w:=by
 have hp':tmps[p]?.getD undef=.pointer (some ⟨g,0,none⟩):=by simpa using hp
 have hv':tmps[q]?.getD undef=v:=by simpa using hv
 simp[results,h,hp',hv',asAddr,run_loadVar_row w g t ty cs fr d hg hu hd hi]
theorem pw9{F:Nat->List Nat}{x y:List Nat}(two:∀k l,k<l->l<7->∀i,i ∈ F k->i ∈ F l->False)(hx:∀k,k<7->∀i,i ∈ F k->i ∈ x->False)(hy:∀k,k<7->∀i,i ∈ F k->i ∈ y->False)(hxy:∀i,i ∈ x->i ∈ y->False):[F 0,F 1,F 2,F 3,F 4,F 5,F 6,x,y].Pairwise (fun a b=>∀k,k ∈ a->k ∈ b->False):=by
 have c:∀(k:Nat) (l:List (List Nat)),k<7->(∀z,z ∈ l->(∃j,k<j/\j<7/\z=F j)\/z=x\/z=y)->∀z,z ∈ l->∀i,i ∈ F k->i ∈ z->False:=by
  intro k l hk h z hz i h1 h2
  rcases h z hz with⟨j,hj,hj2,rfl⟩|rfl|rfl
  .
   exact two k j hj hj2 i h1 h2
  .
   exact hx k hk i h1 h2
  exact hy k hk i h1 h2
 refine List.Pairwise.cons (c 0 _ dC ?_) (List.Pairwise.cons (c 1 _ dC ?_) (List.Pairwise.cons (c 2 _ dC ?_) (List.Pairwise.cons (c 3 _ dC ?_) (List.Pairwise.cons (c 4 _ dC ?_) (List.Pairwise.cons (c 5 _ dC ?_) (List.Pairwise.cons (c 6 _ dC ?_) (List.Pairwise.cons ?_ (List.Pairwise.cons ?_ List.Pairwise.nil))))))))
 case _=>intro z hz;simp only[List.mem_cons,List.not_mem_nil,or_false] at hz;rcases hz with rfl|rfl|rfl|rfl|rfl|rfl|rfl|rfl;exact .inl ⟨1,by decide,by decide,rfl⟩;exact .inl ⟨2,by decide,by decide,rfl⟩;exact .inl ⟨3,by decide,by decide,rfl⟩;exact .inl ⟨4,by decide,by decide,rfl⟩;exact .inl ⟨5,by decide,by decide,rfl⟩;exact .inl ⟨6,by decide,by decide,rfl⟩;exact .inr (.inl rfl);exact .inr (.inr rfl)
 case _=>intro z hz;simp only[List.mem_cons,List.not_mem_nil,or_false] at hz;rcases hz with rfl|rfl|rfl|rfl|rfl|rfl|rfl;exact .inl ⟨2,by decide,by decide,rfl⟩;exact .inl ⟨3,by decide,by decide,rfl⟩;exact .inl ⟨4,by decide,by decide,rfl⟩;exact .inl ⟨5,by decide,by decide,rfl⟩;exact .inl ⟨6,by decide,by decide,rfl⟩;exact .inr (.inl rfl);exact .inr (.inr rfl)
 case _=>intro z hz;simp only[List.mem_cons,List.not_mem_nil,or_false] at hz;rcases hz with rfl|rfl|rfl|rfl|rfl|rfl;exact .inl ⟨3,by decide,by decide,rfl⟩;exact .inl ⟨4,by decide,by decide,rfl⟩;exact .inl ⟨5,by decide,by decide,rfl⟩;exact .inl ⟨6,by decide,by decide,rfl⟩;exact .inr (.inl rfl);exact .inr (.inr rfl)
 case _=>intro z hz;simp only[List.mem_cons,List.not_mem_nil,or_false] at hz;rcases hz with rfl|rfl|rfl|rfl|rfl;exact .inl ⟨4,by decide,by decide,rfl⟩;exact .inl ⟨5,by decide,by decide,rfl⟩;exact .inl ⟨6,by decide,by decide,rfl⟩;exact .inr (.inl rfl);exact .inr (.inr rfl)
 case _=>intro z hz;simp only[List.mem_cons,List.not_mem_nil,or_false] at hz;rcases hz with rfl|rfl|rfl|rfl;exact .inl ⟨5,by decide,by decide,rfl⟩;exact .inl ⟨6,by decide,by decide,rfl⟩;exact .inr (.inl rfl);exact .inr (.inr rfl)
 case _=>intro z hz;simp only[List.mem_cons,List.not_mem_nil,or_false] at hz;rcases hz with rfl|rfl|rfl;exact .inl ⟨6,by decide,by decide,rfl⟩;exact .inr (.inl rfl);exact .inr (.inr rfl)
 case _=>intro z hz;simp only[List.mem_cons,List.not_mem_nil,or_false] at hz;rcases hz with rfl|rfl;exact .inr (.inl rfl);exact .inr (.inr rfl)
 case _=>intro z hz;simp only[List.mem_cons,List.not_mem_nil,or_false] at hz;subst hz;exact hxy
 case _=>intro z hz;cases hz
theorem Xv{B:Nat}{w:World}{v:Value}{F:List Nat}(h:Io B w v Gi F):∃x0a x0n x0k x1a x1n x1k x2a x2n x2k x3a x3n x3k x4a x4n x4k x5a x5n x5k x6a x6n x6k x7a x7n x7k x8a x8n x8k,v=.agg #[.slice x0a x0n x0k,.slice x1a x1n x1k,.slice x2a x2n x2k,.slice x3a x3n x3k,.int .i64 0,.int .i64 0,.int .i64 0,.slice x4a x4n x4k,.int .i64 0,.int .i64 0,.int .i64 0,.slice x5a x5n x5k,.bool false,.int .i64 0,.int .i64 0,.slice x6a x6n x6k,.slice x7a x7n x7k,.int .i64 0,.slice x8a x8n x8k]:=by
 obtain⟨p0,p1,p2,p4,t5,t7,F0,F1,F2,F4,F5,F7,rfl,l0,l1,l2,l4,g0,g1,g2,g4,g5,g7,hd,hF⟩:=h
 obtain⟨q0,q1,G0,G1,e,m0,m1,gA,gB,_,_⟩:=g0;obtain rfl:=Ct e
 obtain⟨a0,a1,a2,a3,a4,a5,e⟩:=gA.rd.shape;obtain rfl:=Ct (M:=[_,_]) e
 obtain⟨b0,b1,b2,b3,b4,b5,e⟩:=gB.rd.shape;obtain rfl:=Ct (M:=[_,_]) e
 obtain⟨t3,G3,e,hs,_,_⟩:=g1;obtain rfl:=Ct e;obtain⟨s0,s1,s2,rfl⟩:=hs.rd.shape
 obtain⟨t3,G3,e,hs,_,_⟩:=g2;obtain rfl:=Ct e;obtain⟨n0,n1,n2,rfl⟩:=hs.rd.shape
 obtain⟨t2,G2,e,he,_,_⟩:=g4;obtain rfl:=Ct e;obtain⟨e0,e1,e2,rfl⟩:=he.rd.shape
 obtain⟨v0,v1,v2,rfl⟩:=g5.rd.shape
 obtain⟨o0,o1,o2,rfl⟩:=g7.rd.shape
 exact⟨a0,a1,a2,a3,a4,a5,b0,b1,b2,b3,b4,b5,s0,s1,s2,n0,n1,n2,e0,e1,e2,v0,v1,v2,o0,o1,o2,rfl⟩
theorem Uc{B:Nat}{w:World}{v:Value}{F:List Nat}(h:Dy B w v Kw F):∃x0a x0n x0k x1a x1n x1k x2a x2n x2k x3a x3n x3k,v=.agg #[.slice x0a x0n x0k,.slice x1a x1n x1k,.int .i64 0,.int .i64 0,.slice x2a x2n x2k,.slice x3a x3n x3k,.int .i64 0,.int .i64 0,.int .i64 0,.int .i64 0,.int .i64 0,.int .i64 0]:=by
 obtain⟨t0,t1,t4,t5,s0,s1,rfl,h0,h1,h4,h5,hd,hF⟩:=h
 obtain⟨a0,a1,a2,rfl⟩:=h0.nest.shape;obtain⟨b0,b1,b2,rfl⟩:=h1.nest.shape;obtain⟨c0,c1,c2,rfl⟩:=h4.shape;obtain⟨d0,d1,d2,rfl⟩:=h5.shape
 exact⟨a0,a1,a2,b0,b1,b2,c0,c1,c2,d0,d1,d2,rfl⟩
theorem Sw{B:Nat}{w:World}{v:Value}{F:List Nat}(h:Cs B w v (Dw 2) F):∃x0a x0n x0k,v=.agg #[.int .i64 2,.int .i64 0,.int .i64 0,.int .i64 0,.int .i64 0,.int .i64 0,.int .i64 0,.slice x0a x0n x0k,.bool false,.int .i64 0,.int .i64 0,.int .i64 0,.int .i64 0,.int .i64 0,.int .i64 0]:=by
 obtain⟨t7,rfl,h7,hF⟩:=h
 rw[Kk (i:=2) dC] at h7 ⊢
 obtain⟨a0,a1,a2,rfl⟩:=h7.shape
 exact⟨a0,a1,a2,rfl⟩
theorem Sy{B:Nat}{w:World}{v:Value}{F:List Nat}(h:Cs B w v (Dw 3) F):∃x0a x0n x0k,v=.agg #[.int .i64 3,.int .i64 0,.int .i64 0,.int .i64 0,.int .i64 0,.int .i64 0,.int .i64 0,.slice x0a x0n x0k,.bool false,.int .i64 0,.int .i64 0,.int .i64 0,.int .i64 0,.int .i64 0,.int .i64 0]:=by
 obtain⟨t7,rfl,h7,hF⟩:=h
 rw[Kk (i:=3) dC] at h7 ⊢
 obtain⟨a0,a1,a2,rfl⟩:=h7.shape
 exact⟨a0,a1,a2,rfl⟩
theorem Ut{B:Nat}{w:World}{v:Value}{F:List Nat}{c:El}(h:Db B w v c F):∃x0a x0n x0k x1a x1n x1k,v=.agg #[.int .i64 c.Id,.slice x0a x0n x0k,.slice x1a x1n x1k,.int .i64 c.Last]:=by
 obtain⟨t1,t2,F1,F2,rfl,h1,h2,hd,hF⟩:=h
 obtain⟨a0,a1,a2,rfl⟩:=h1.rd.shape;obtain⟨b0,b1,b2,rfl⟩:=h2.rd.shape
 exact⟨a0,a1,a2,b0,b1,b2,rfl⟩
theorem lL{B:Nat}{w:World}{v:Value}{F:List Nat}{c:Lu}(h:Im B w v c F):∃x0a x0n x0k x1a x1n x1k,v=.agg #[.slice x0a x0n x0k,.slice x1a x1n x1k]:=by
 obtain⟨t1,t2,F1,F2,rfl,h1,h2,hd,hF⟩:=h
 obtain⟨a0,a1,a2,rfl⟩:=(show Tp w t1 c.Flight from h1.rd).shape;obtain⟨b0,b1,b2,rfl⟩:=h2.rd.shape
 exact⟨a0,a1,a2,b0,b1,b2,rfl⟩
def PkI(a b:List Da)(k:Nat)(B:Nat)(w:World)(v:Value)(F:List Nat):Prop :=
 match k with
 | 0=>Io B w v Gi F
 | 1=>Dy B w v Kw F
 | 2=>Cs B w v (Dw 2) F
 | 3=>Cs B w v (Dw 3) F
 | 4=>Db B w v (Ai 4 a) F
 | 5=>Db B w v (Ai 5 b) F
 | _=>Im B w v ⟨[],[]⟩ F
theorem tX(a b:List Da)(k B:Nat)(w w':World)(v:Value)(F:List Nat)(h:PkI a b k B w v F)(x:Ext w w'):PkI a b k B w' v F:=by
 have c:Chg B w w':=Chg.ext (Chg.refl _ _) x
 match k,h with
 | 0,h=>exact Io.keep h c
 | 1,h=>exact Dy.keep h c
 | 2,h=>exact Cs.keep h c
 | 3,h=>exact Cs.keep h c
 | 4,h=>exact Db.keep h c
 | 5,h=>exact Db.keep h c
 | _+6,h=>exact Im.keep h c
theorem rK(a b:List Da)(k B B':Nat)(w:World)(v:Value)(F:List Nat)(h:PkI a b k B w v F)(x:B'<=B):PkI a b k B' w v F:=by
 match k,h with
 | 0,h=>exact Io.mono h x
 | 1,h=>exact Dy.mono h x
 | 2,h=>exact Cs.mono h x
 | 3,h=>exact Cs.mono h x
 | 4,h=>exact Db.mono h x
 | 5,h=>exact Db.mono h x
 | _+6,h=>exact Im.mono h x
theorem mZ(a b:List Da)(k B:Nat)(w:World)(v:Value)(F:List Nat)(h:PkI a b k B w v F):∀i,i ∈ F->B<=i/\i<w.heap.size:=by
 match k,h with
 | 0,h=>exact Io.low h
 | 1,h=>exact Dy.low h
 | 2,h=>exact Cs.low h
 | 3,h=>exact Cs.low h
 | 4,h=>exact Db.low h
 | 5,h=>exact Db.low h
 | _+6,h=>exact Im.low h
def PkS(a b:List Da)(k:Nat)(B:Nat)(w:World)(v:Value)(F:List Nat):Prop :=
 match k with
 | 0=>Io B w v Gi F
 | 1=>Dy B w v Kw F
 | 2=>Cs B w v (Dw 2) F
 | 3=>Cs B w v (Dw 3) F
 | _=>Im B w v ⟨[],[]⟩ F
theorem tY(a b:List Da)(k B:Nat)(w w':World)(v:Value)(F:List Nat)(h:PkS a b k B w v F)(x:Ext w w'):PkS a b k B w' v F:=by
 have c:Chg B w w':=Chg.ext (Chg.refl _ _) x
 match k,h with
 | 0,h=>exact Io.keep h c
 | 1,h=>exact Dy.keep h c
 | 2,h=>exact Cs.keep h c
 | 3,h=>exact Cs.keep h c
 | _+4,h=>exact Im.keep h c
theorem rL(a b:List Da)(k B B':Nat)(w:World)(v:Value)(F:List Nat)(h:PkS a b k B w v F)(x:B'<=B):PkS a b k B' w v F:=by
 match k,h with
 | 0,h=>exact Io.mono h x
 | 1,h=>exact Dy.mono h x
 | 2,h=>exact Cs.mono h x
 | 3,h=>exact Cs.mono h x
 | _+4,h=>exact Im.mono h x
theorem fQ(a b:List Da)(k B:Nat)(w:World)(v:Value)(F:List Nat)(h:PkS a b k B w v F):∀i,i ∈ F->B<=i/\i<w.heap.size:=by
 match k,h with
 | 0,h=>exact Io.low h
 | 1,h=>exact Dy.low h
 | 2,h=>exact Cs.low h
 | 3,h=>exact Cs.low h
 | _+4,h=>exact Im.low h
theorem rM(B:Nat)(w:World):∃F,Gz B w (.agg ([Value.slice none 0 0,Value.slice none 0 0,Value.slice none 0 0,Value.slice none 0 0,Value.int .i64 0,Value.int .i64 0,Value.int .i64 0,Value.slice none 0 0,Value.int .i64 0,Value.int .i64 0,Value.int .i64 0,Value.slice none 0 0,Value.bool false,Value.int .i64 0,Value.int .i64 0,Value.slice none 0 0,Value.slice none 0 0,Value.int .i64 0,Value.slice none 0 0,Value.slice none 0 0,Value.slice none 0 0,Value.int .i64 0,Value.int .i64 0,Value.slice none 0 0,Value.slice none 0 0,Value.int .i64 0,Value.int .i64 0,Value.int .i64 0,Value.int .i64 0,Value.int .i64 0,Value.int .i64 0,Value.int .i64 0,Value.int .i64 0,Value.int .i64 0,Value.int .i64 0,Value.int .i64 0,Value.int .i64 0,Value.int .i64 0,Value.slice none 0 0,Value.bool false,Value.int .i64 0,Value.int .i64 0,Value.int .i64 0,Value.int .i64 0,Value.int .i64 0,Value.int .i64 0,Value.int .i64 0,Value.int .i64 0,Value.int .i64 0,Value.int .i64 0,Value.int .i64 0,Value.int .i64 0,Value.int .i64 0,Value.slice none 0 0,Value.bool false,Value.int .i64 0,Value.int .i64 0,Value.int .i64 0,Value.int .i64 0,Value.int .i64 0,Value.int .i64 0,Value.int .i64 0,Value.slice none 0 0,Value.slice none 0 0,Value.int .i64 0,Value.int .i64 0,Value.slice none 0 0,Value.slice none 0 0,Value.int .i64 0,Value.slice none 0 0,Value.slice none 0 0,Value.slice none 0 0,Value.slice none 0 0]:List Value).toArray) Qp F:=by
 have hD:Dc B w (.agg ([.slice none 0 0,.slice none 0 0]:List Value).toArray) ⟨[],[]⟩ _:=⟨_,_,[],[],rfl,by simpa[Ac] using Bi.nil B 62 2 0 w,by simpa[Ah] using Bi.nil B 312 2 1 w,by simp[Be,Value.ownBlock],rfl⟩
 have hT:Hm B w (.agg ([.slice none 0 0,.slice none 0 0,.slice none 0 0,.slice none 0 0]:List Value).toArray) ⟨⟨[],[]⟩,⟨[],[]⟩⟩ _:=⟨[_,_],[_,_],_,_,rfl,rfl,rfl,hD,hD,by simp[Be,Value.ownBlock],rfl⟩
 have hL:Io B w (.agg ([.slice none 0 0,.slice none 0 0,.slice none 0 0,.slice none 0 0,.int .i64 0,.int .i64 0,.int .i64 0,.slice none 0 0,.int .i64 0,.int .i64 0,.int .i64 0,.slice none 0 0,.bool false,.int .i64 0,.int .i64 0,.slice none 0 0,.slice none 0 0,.int .i64 0,.slice none 0 0]:List Value).toArray) Qp.Log _:=⟨[_,_,_,_],[_,_,_,_],[_,_,_,_],[_,_,_],_,_,_,[],[],[],[],[],rfl,rfl,rfl,rfl,rfl,hT,Uq _ _,Uq _ _,fK _ _,⟨Af.nil _ _ _ _,rfl⟩,⟨Af.nil _ _ _ _,rfl⟩,by simp[Be,Value.ownBlock],rfl⟩
 have hS:Dy B w (.agg ([.slice none 0 0,.slice none 0 0,.int .i64 0,.int .i64 0,.slice none 0 0,.slice none 0 0,.int .i64 0,.int .i64 0,.int .i64 0,.int .i64 0,.int .i64 0,.int .i64 0]:List Value).toArray) Qp.Store _:=⟨_,_,_,_,[],[],rfl,(show Bi B 62 2 0 w _ (Ac []) [] from by simpa[Ac] using Bi.nil B 62 2 0 w),(show Bi B 312 2 1 w _ (Ah []) [] from by simpa[Ah] using Bi.nil B 312 2 1 w),Af.nil _ _ _ _,Af.nil _ _ _ _,by simp[Be,Value.ownBlock],rfl⟩
 have hC:Cs B w (.agg ([.int .i64 0,.int .i64 0,.int .i64 0,.int .i64 0,.int .i64 0,.int .i64 0,.int .i64 0,.slice none 0 0,.bool false,.int .i64 0,.int .i64 0,.int .i64 0,.int .i64 0,.int .i64 0,.int .i64 0]:List Value).toArray) fP _:=⟨_,rfl,Af.nil _ _ _ _,rfl⟩
 have hN:Im B w (.agg ([.slice none 0 0,.slice none 0 0]:List Value).toArray) ⟨[],[]⟩ _:=⟨_,_,[],[],rfl,⟨[],by simpa[Ji] using Bi.nil _ _ _ _ _,rfl⟩,⟨Af.nil _ _ _ _,rfl⟩,by simp,rfl⟩
 exact⟨_,[_,_,_,_,_,_,_,_,_,_,_,_,_,_,_,_,_,_,_],[_,_,_,_,_,_,_,_,_,_,_,_],[_,_,_,_,_,_,_,_,_,_,_,_,_,_,_],[_,_,_,_,_,_,_,_,_,_,_,_,_,_,_],[_,_,_,_],[_,_,_,_],[_,_],_,_,_,_,_,_,_,_,_,[],[],rfl,rfl,rfl,rfl,rfl,rfl,rfl,rfl,hL,hS,hC,hC,Us _ _,Us _ _,hN,⟨Af.nil _ _ _ _,rfl⟩,⟨Own.empty (Af.nil B 4 1 w) rfl _ rfl,rfl⟩,by simp[Be,Value.ownBlock],rfl⟩
theorem Rw(B:Nat)(w:World):∃F,Gz B w (.agg Tryz.zeroCells106) Qp F:=by
 have e:Tryz.zeroCells106=([Value.slice none 0 0,Value.slice none 0 0,Value.slice none 0 0,Value.slice none 0 0,Value.int .i64 0,Value.int .i64 0,Value.int .i64 0,Value.slice none 0 0,Value.int .i64 0,Value.int .i64 0,Value.int .i64 0,Value.slice none 0 0,Value.bool false,Value.int .i64 0,Value.int .i64 0,Value.slice none 0 0,Value.slice none 0 0,Value.int .i64 0,Value.slice none 0 0,Value.slice none 0 0,Value.slice none 0 0,Value.int .i64 0,Value.int .i64 0,Value.slice none 0 0,Value.slice none 0 0,Value.int .i64 0,Value.int .i64 0,Value.int .i64 0,Value.int .i64 0,Value.int .i64 0,Value.int .i64 0,Value.int .i64 0,Value.int .i64 0,Value.int .i64 0,Value.int .i64 0,Value.int .i64 0,Value.int .i64 0,Value.int .i64 0,Value.slice none 0 0,Value.bool false,Value.int .i64 0,Value.int .i64 0,Value.int .i64 0,Value.int .i64 0,Value.int .i64 0,Value.int .i64 0,Value.int .i64 0,Value.int .i64 0,Value.int .i64 0,Value.int .i64 0,Value.int .i64 0,Value.int .i64 0,Value.int .i64 0,Value.slice none 0 0,Value.bool false,Value.int .i64 0,Value.int .i64 0,Value.int .i64 0,Value.int .i64 0,Value.int .i64 0,Value.int .i64 0,Value.int .i64 0,Value.slice none 0 0,Value.slice none 0 0,Value.int .i64 0,Value.int .i64 0,Value.slice none 0 0,Value.slice none 0 0,Value.int .i64 0,Value.slice none 0 0,Value.slice none 0 0,Value.slice none 0 0,Value.slice none 0 0]:List Value).toArray:=by kernel_rfl
 rw[e]
 exact rM B w
end Go.Proofs.YtkpmbocbbgocbaaGreat
