/- NU0 NU1 NU3. -/
import Derived.Test.YtkpmbocbbgocbaaGreatQB8
set_option linter.unusedSimpArgs false
set_option linter.unusedVariables false
set_option maxHeartbeats 8000000
set_option maxRecDepth 100000
namespace Go.Proofs.YtkpmbocbbgocbaaGreat
open Go.RowKit Go.G8
structure Stp (Xs:List Nat) (w w':World) (F F':List Nat):Prop where
 upd:Upd w w' (Xs++F)
 new:∀k,k ∈ F'->k ∈ F\/w.heap.size<=k
section
variable {Xs F F1 F2:List Nat} {a b c w w':World}
theorem Stp.refl(Xs:List Nat)(w:World)(F:List Nat):Stp Xs w w F F:=⟨Upd.refl _ _,fun _ h=>Or.inl h⟩
theorem Stp.trans(h:Stp Xs a b F F1)(k:Stp Xs b c F1 F2):Stp Xs a c F F2 :=
 ⟨⟨k.upd.os.trans h.upd.os,k.upd.tape.trans h.upd.tape,k.upd.output.trans h.upd.output,Nat.le_trans h.upd.size k.upd.size,fun i hi hn=>by
  refine(k.upd.block i (Nat.lt_of_lt_of_le hi h.upd.size) (fun hm=>hn ?_)).trans (h.upd.block i hi hn)
  rcases List.mem_append.1 hm with hm|hm
  .
   exact List.mem_append.2 (Or.inl hm)
  .
   rcases h.new i hm with h1|h1
   .
    exact List.mem_append.2 (Or.inr h1)
   omega⟩,fun x hx=>by
  rcases k.new x hx with h1|h1
  .
   exact h.new x h1
  exact Or.inr (Nat.le_trans h.upd.size h1)⟩
theorem Stp.ext(h:Stp Xs a b F F1)(x:Ext b c):Stp Xs a c F F1:=⟨h.upd.ext x,h.new⟩
theorem Stp.pre(x:Ext a b)(h:Stp Xs b c F F1):Stp Xs a c F F1:=⟨(x.upd _).trans h.upd,fun k hk=>(h.new k hk).imp id (Nat.le_trans x.size)⟩
theorem Stp.data(h:Stp Xs w w' F F1)(x:Ext a w)(hs:∀k,k ∈ Xs++F->a.heap.size<=k):Ext a w' :=
 ⟨h.upd.os.trans x.os,h.upd.tape.trans x.tape,h.upd.output.trans x.output,Nat.le_trans x.size h.upd.size,fun i hi=>(h.upd.block i (Nat.lt_of_lt_of_le hi x.size) (fun hm=>by have:=hs i hm;omega)).trans (x.block i hi)⟩
def Bx(Xs:List Nat)(w:World)(F:List Nat)(g:Nat)(t:TypeId)(cs:Array Value):Prop:=Blk w g t cs/\g ∉ Xs++F
theorem Bx.go{g:Nat}{t:TypeId}{cs:Array Value}(h:Bx Xs w F g t cs)(k:Stp Xs w w' F F1):Bx Xs w' F1 g t cs:=by
 refine⟨h.1.upd k.upd h.2,fun hm=>h.2 ?_⟩
 rcases List.mem_append.1 hm with hm|hm
 .
  exact List.mem_append.2 (Or.inl hm)
 rcases k.new g hm with h1|h1
 .
  exact List.mem_append.2 (Or.inr h1)
 have:=h.1.lt;omega
theorem Bx.mk{g:Nat}{t:TypeId}{cs:Array Value}(h:Blk w g t cs)(hn:g ∉ Xs++F):Bx Xs w F g t cs:=⟨h,hn⟩
theorem Bx.ext{g:Nat}{t:TypeId}{cs:Array Value}(h:Bx Xs w F g t cs)(x:Ext w w'):Bx Xs w' F g t cs:=⟨h.1.ext x,h.2⟩
def Dx(Xs:List Nat)(w:World)(F:List Nat)(P:World->Prop):Prop:=∀w' F',Stp Xs w w' F F'->P w'
theorem Dx.go{P:World->Prop}(h:Dx Xs w F P)(k:Stp Xs w w' F F1):Dx Xs w' F1 P:=fun _ _ g=>h _ _ (k.trans g)
theorem Dx.pre{P:World->Prop}(h:Dx Xs w F P)(x:Ext w w'):Dx Xs w' F P:=fun _ _ g=>h _ _ (Stp.pre x g)
theorem Dx.now{P:World->Prop}(h:Dx Xs w F P):P w:=h _ _ (Stp.refl _ _ _)
theorem Dx.own{B:Nat}{e:TypeId}{n:Nat}{v:Value}{ys:List Int}(h:Af B e n w v ys)(hB:∀k,k ∈ Xs++F->k<B):Dx Xs w F (fun w'=>Aj n w' v ys):=fun w' F' g =>
 (Af.upd' h g.upd (fun k h1 h2=>by have:=hB k h2;have:=(Af.foot h k h1).1;omega)).ints
end
theorem Gv{P:Program}{w:World}{o:Oper}{a:Act}{K:Act->World->Prop}{Q:Exit->Act->World->Prop}(s x:Operand)(t:TypeId)
  (ho:o.op=.call { callee:=.builtin .append,args:=#[s,x],argTypes:=#[t,t] })
  (e:TypeId) (i:TypeInfo) (z:Value) (ht:P.underlying t=some (.slice e)) (hi:P.info? e=some i) (hz:i.zero=some z)
  (hsize:i.size=1) (hby:i.bytes=8) (hzs:z.cells.size=1)
  (B:Nat) (v:Value) (xs:List Int) (hs:a.eval s=v) (hown:Af B e 1 w v xs) (u:Value) (ys:List Int) (hx:a.eval x=u) (hsl:Aj 1 w u ys)
  (hlen:xs.length+ys.length<=1000000000) (hbase:B<=w.heap.size)
  (h:∀v' w',Af B e 1 w' v' (xs++ys)->Stp [] w w' (Be [v]) (Be [v'])->K (a.put o.dst v') w'):o.wp P a w K Q:=by
 obtain⟨ad,m,c,rfl,hl,hmc,hcm,hnil,hcell⟩:=hsl
 obtain⟨len,ho'⟩:=hown
 have hl0:=ho'.1
 simp only[List.length_map,Nat.mul_one] at hl0 hl
 cases ad with
 | none =>
  have hc0:=hnil rfl
  subst hc0
  have hm0:m=0:=by omega
  subst hm0
  have:ys=[]:=List.eq_nil_of_length_eq_zero hl
  subst this
  have hrun:=run_append_owned_none (P:=P) (w:=w) B t o.type e i 1 ht hi v len _ ho'
  unfold Oper.wp
  simp[execOp,ho,resolve,invoke,builtin,hs,hx,hrun,Result.andThen]
  exact h v w ⟨len,by simpa using ho'⟩ (Stp.refl _ _ _)
 | some ad =>
  obtain⟨v',w',hr,h2,h3,_,h4⟩:=run_append_own_at (P:=P) w B t o.type e i z 1 8 ht hi hz hsize hby hzs dC v len _ ho' ad m c (ys.map (.int .i64)) (by simp[hl]) (fun j u hu=>by
   have hm0:0<m:=by
    rcases Nat.eq_zero_or_pos m with h0|h0
    .
     have:ys=[]:=List.eq_nil_of_length_eq_zero oM
     subst this;simp at hu
    exact h0
   obtain⟨b,off,sp⟩:=ad
   obtain⟨rfl,_,h8⟩:=hcell b off sp rfl hm0
   rw[Jz]
   exact h8 j u hu) (ints_oneCell _ _) (by unfold maxLen;omega) oM hbase
  unfold Oper.wp execOp
  simp only[ho,resolve,invoke,builtin,Sem.run_bind,Sem.run_pure,Result.andThen_ok,List.map_toArray,List.map_cons,List.map_nil,hs,hx,hr]
  refine h v' w' ⟨_,by simpa using h2⟩ ⟨Upd.grown h3 (fun k hk=>by simp[Be,hk]),fun k hk=>?_⟩
  have hk':v'.ownBlock=some k:=by
   rcases hv:v'.ownBlock with _|y
   .
    simp[Be,hv] at hk
   simp[Be,hv] at hk;rw[hk]
  rcases h4 with h4|h4
  .
   left;rw[hk'] at h4;simp[Be,<-h4]
  right;rw[hk'] at h4;injection h4 with h4;omega
theorem Ci{P:Program}{w:World}{ops:Array Oper}{rest:List Oper}{o:Oper}{a:Act}{Q:Exit->Act->World->Prop}(hgd:o.guard=none)(s x:Operand)(t:TypeId)
  (ho:o.op=.call { callee:=.builtin .append,args:=#[s,x],argTypes:=#[t,t] })
  (e:TypeId) (i:TypeInfo) (z:Value) (ht:P.underlying t=some (.slice e)) (hi:P.info? e=some i) (hz:i.zero=some z)
  (hsize:i.size=1) (hby:i.bytes=8) (hzs:z.cells.size=1)
  (B:Nat) (v:Value) (xs:List Int) (hs:a.eval s=v) (hown:Af B e 1 w v xs) (u:Value) (ys:List Int) (hx:a.eval x=u) (hsl:Aj 1 w u ys)
  (hlen:xs.length+ys.length<=1000000000) (hbase:B<=w.heap.size)
  (h:∀v' w',Af B e 1 w' v' (xs++ys)->Stp [] w w' (Be [v]) (Be [v'])->wpList P ops Q rest (a.put o.dst v') w'):wpList P ops Q (o::rest) a w :=
 wpList_plain hgd fun _ hK=>Gv s x t ho e i z ht hi hz hsize hby hzs B v xs hs hown u ys hx hsl hlen hbase (fun v' w' h1 h2=>hK _ _ (h v' w' h1 h2))
theorem Ib(w:World)(e:TypeId)(xs:List Int)(h:xs.length<=1000)(g:Nat)(hg:g=w.heap.size):Aj 1 (w.alloc (.cells (xs.map (Value.int .i64)).toArray e)) (.slice (some ⟨g,0,none⟩) xs.length xs.length) xs:=by subst hg;exact(Af.lit w e xs h).ints
theorem Hf{α:Type}(f:α->List Int){l:List α}{k:Nat}{x:α}(h:l[k]?=some x):(l.take (k+1)).flatMap f=(l.take k).flatMap f++f x:=by rw[Ic h];simp
theorem Jm{α:Type}(f:α->List Int){l:List α}{k:Nat}{x:α}(h:l[k]?=some x):((l.take k).flatMap f).length+(f x).length<=(l.flatMap f).length:=by
 have h1:l.flatMap f=(l.take (k+1)).flatMap f++(l.drop (k+1)).flatMap f:=by rw[<-List.flatMap_append,List.take_append_drop]
 rw[h1,Hf f h];simp only[List.length_append];omega
def Ow(b:Bool):Int:=if b then 1 else 0
def Bu(l:List Int):List Int:=(l.length:Int)::l
def wrN(x:Eb):List Int:=x.At::Bu x.Row
def Hr(d:Ez):List Int:=(d.Kept.length:Int)::(d.Kept.flatMap Bu++((d.Wait.length:Int)::d.Wait.flatMap wrN))
def Ox(l:List Ar):List Int:=(l.length:Int)::l.flatMap Ar.ints
def Lr(h:Di):List Int:=[h.Num,h.Base,h.Time]++Ox h.Seen
def opN(o:DOp):List Int:=[o.Kind,o.A,o.B,o.C,o.D]
def Mg(n:Ap):List Int:=Hr n.Two.A++(Hr n.Two.B++(Lr n.Head++(Lr n.Next++([Ow n.More,n.Book.Base,n.Book.Time,(n.Book.Entries.length:Int)]++(n.Book.Entries.flatMap Aq.ints++(Ox n.Seen++([n.Durable,(n.Owe.length:Int)]++n.Owe.flatMap Is.ints)))))))
def Hk(s:De):List Int:=[s.Id,s.Seq,s.View.Jobs.Index,s.View.Jobs.Time,s.View.Jobs.Holder,s.View.Jobs.Epoch,s.View.Jobs.Until,(s.View.Jobs.Open.length:Int)]++(s.View.Jobs.Open.flatMap Hu.ints++([Ow s.Busy]++(opN s.Op++[s.Index])))
def Fa(c:El):List Int:=[c.Id,(c.Todo.length:Int)]++(c.Todo.flatMap Da.ints++((c.Gots.length:Int)::(c.Gots.flatMap Jd.ints++[c.Last])))
def Xt(m:Qs):List Int:=[m.From,m.To]++Bu m.Row
def Qo(n:Lu):List Int:=(n.Flight.length:Int)::(n.Flight.flatMap Xt++((n.Cuts.length:Int)::n.Cuts.flatMap Gf.ints))
noncomputable def Hq(s:It):List Int:=Hr s.Disk++(Bu (Eg s.State)++[s.Num,s.Last,s.Busy])
noncomputable def Du(w:Fb):List Int:=Mg w.Log++(Hq w.Store++(Hk w.Left++(Hk w.Right++(Fa w.Ann++(Fa w.Bob++(Qo w.Net++(Bu w.Clocks++((w.Up.length:Int)::w.Up.flatMap (fun b=>[Ow b])))))))))
def Cu(a:World)(X:Nat)(w:World)(F:List Nat)(xs:List Int):Prop:=Ext a w/\a.heap.size<=X/\∃v,Blk w X 212 #[v,.int .i64 0]/\Af (X+1) 2 1 w v xs/\F=Be [v]
def CuR(a:World)(X:Nat)(w:World)(F:List Nat)(xs:List Int)(e:Ending)(w':World):Prop:=∃r,e=.returned r/\∃F',Cu a X w' F' xs/\Stp [X] w w' F F'
section
variable {a w w':World} {X:Nat} {F F':List Nat} {xs ys:List Int}
theorem Cu.e(h:Cu a X w F xs):Ext a w:=h.1
theorem Cu.ext(h:Cu a X w F xs)(x:Ext w w'):Cu a X w' F xs:=let ⟨e,hX,v,hb,ho,hF⟩:=h;⟨e.trans x,hX,v,hb.ext x,Own.ext ho x,hF⟩
theorem Cu.cast(h:Cu a X w F xs)(e:xs=ys):Cu a X w F ys:=e ▸ h
theorem Cu.low(h:Cu a X w F xs):∀k,k ∈ [X]++F->X<=k/\k<w.heap.size:=by
 obtain⟨e,hX,v,hb,ho,rfl⟩:=h
 intro k hk
 rcases List.mem_append.1 hk with hk|hk
 .
  rw[List.mem_singleton.1 hk];exact⟨Nat.le_refl _,hb.lt⟩
 have:=Af.foot ho k hk;omega
theorem Cu.box(h:Cu a X w F xs)(t:TypeId)(cs:Array Value):Bx [X] (w.alloc (.cells cs t)) F w.heap.size t cs:=⟨Blk.new _ _ _,fun hm=>by have:=(h.low _ hm).2;omega⟩
theorem CuR.pre{w0:World}{e:Ending}(x:Ext w0 w)(h:CuR a X w F xs e w'):CuR a X w0 F xs e w':=let ⟨r,he,F',h1,h2⟩:=h;⟨r,he,F',h1,Stp.pre x h2⟩
theorem Dx.of{P:World->Prop}(C:Cu a X w F xs)(hP:∀w',Ext a w'->P w'):Dx [X] w F P:=fun w' _ g=>hP w' (g.data C.e (fun k hk=>Nat.le_trans C.2.1 (C.low k hk).1))
end
def Ou(a w:World)(v:Value)(xs:List Int):Prop:=Ext a w/\Af a.heap.size 2 1 w v xs
def OuR(a w:World)(v:Value)(xs:List Int)(e:Ending)(w':World):Prop:=∃r,e=.returned r/\Ou a w' r xs/\Stp [] w w' (Be [v]) (Be [r])
section
variable {a w w':World} {v:Value} {F':List Nat} {xs ys:List Int}
theorem Ou.ext(h:Ou a w v xs)(x:Ext w w'):Ou a w' v xs:=⟨h.1.trans x,Own.ext h.2 x⟩
theorem Ou.cast(h:Ou a w v xs)(e:xs=ys):Ou a w v ys:=e ▸ h
theorem Ou.low(h:Ou a w v xs):∀k,k ∈ []++Be [v]->a.heap.size<=k/\k<w.heap.size:=fun k hk=>Af.foot h.2 k hk
theorem Ou.go(h:Ou a w v xs){v':Value}(o:Af a.heap.size 2 1 w' v' ys)(g:Stp [] w w' (Be [v]) F'):Ou a w' v' ys:=⟨g.data h.1 (fun k hk=>(h.low k hk).1),o⟩
theorem Ou.box(h:Ou a w v xs)(t:TypeId)(cs:Array Value):Bx [] (w.alloc (.cells cs t)) (Be [v]) w.heap.size t cs:=⟨Blk.new _ _ _,fun hm=>by have:=(h.low _ hm).2;omega⟩
theorem Ou.shape(h:Ou a w v xs):∃p n k,v=.slice p n k:=h.2.shape
end
theorem Jh{a w:World}{X:Nat}{F:List Nat}{xs ys:List Int}{u:Value}(C:Cu a X w F xs)(h:Aj 1 w u ys)(hl:xs.length+ys.length<=1000000000):Calls Tryz.prog 135 #[.pointer (some ⟨X,0,none⟩),u] w (CuR a X w F (xs++ys)):=by
 have hlow:=C.low
 obtain⟨e,hX,v,hK,ho,rfl⟩:=C
 obtain⟨a0,n0,k0,rfl⟩:=ho.shape
 obtain⟨a1,n1,k1,rfl⟩:=h.shape
 obtain⟨i0,hi,hz0,hz1,hz2⟩:=info_parts Ec
 have CK:=hK.cell;have FK:=hK.frozen;have LK:=hK.lt
 have hn:X ∉ []++Be [Value.slice a0 n0 k0]:=fun hm=>by have:=(Af.foot ho X hm).1;omega
 go_enter Tryz.func135,Tryz.ntmps135
 go_wp2_with (first|(at_builtin;refine Ci rfl (.tmp 8) (.tmp 9) 62 rfl 2 i0 _ Tryz.underlying62 hi hz0 hz1 hz2 rfl (X+1) _ xs rfl ho _ ys rfl h hl oM ?_;rotate_right;intro v1 wa o1 g1;obtain⟨ta,tn,tc,rfl⟩:=o1.shape;have KA:Blk wa X _ _:=hK.upd g1.upd hn;have CKA:=KA.cell;have FKA:=KA.frozen;have LKA:=KA.lt))
 refine bodyPost_end (by simp[results,Tryz.results135,go_sem];try rfl) rfl ?_
 refine⟨_,rfl,_,⟨Ext.setCell (g1.data e (fun k hk=>Nat.le_trans hX (hlow k (List.mem_append.2 (Or.inr hk))).1)) hX _,hX,_,Blk.cast (KA.set_ 0 _) (by first|rfl|simp),Af.keep o1 ((Chg.refl _ _).setLow oM _),rfl⟩,⟨(g1.upd.more (fun x hx=>List.mem_append.2 (Or.inr hx))).setCell (by simp) _,g1.new⟩⟩
theorem Ru{a w:World}{X:Nat}{F:List Nat}{xs:List Int}{l:List Int}{u:Value}(C:Cu a X w F xs)(h:Dx [X] w F (fun w'=>Aj 1 w' u l))(hl:xs.length+(Bu l).length<=1000000000):Calls Tryz.prog 133 #[.pointer (some ⟨X,0,none⟩),u] w (CuR a X w F (xs++Bu l)):=by
 obtain⟨a1,cap,rfl,hcap,hm,-⟩:=h.now.one
 unfold maxLen at hm
 simp only[Bu,Cx] at hl
 go_enter Tryz.func133,Tryz.ntmps133
 have E0:Ext w w:=Ext.refl _
 have G:Stp [X] w w F F:=Stp.refl _ _ _
 go_wp2_with fail
 refine(Jh (C.ext Aa) (Ib _ 2 [(l.length:Int)] (by simp) _ rfl) (by(try simp only[Bu,Cx]);omega)).mono ?_
 rintro e w1⟨_,rfl,F1,C1,g⟩
 have g:=Stp.pre (a:=w) Aa g
 have G:=G.trans g
 clear g
 have h:=h.go G
 go_wp2_with fail
 refine(Jh (C1.ext Aa) (Aj.ext h.now Aa) (by(try simp only[Bu,Cx]);omega)).mono ?_
 rintro e w2⟨_,rfl,F2,C2,g⟩
 have g:=Stp.pre (a:=w1) Aa g
 have G:=G.trans g
 clear g
 go_wp2_with fail
 refine bodyPost_end (by simp[results,Tryz.results133,go_sem];try rfl) rfl ?_
 exact⟨_,rfl,_,C2.cast (by simp only[Bu,List.append_assoc,List.cons_append,List.nil_append,List.append_nil]),Stp.pre E0 G⟩
theorem dL{a w:World}{X:Nat}{F:List Nat}{xs:List Int}{l:List Ar}{u:Value}(C:Cu a X w F xs)(h:Ni a u l)(hl:xs.length+(Ox l).length<=1000000000):Calls Tryz.prog 240 #[.pointer (some ⟨X,0,none⟩),u] w (CuR a X w F (xs++Ox l)):=by
 obtain⟨sA,cA,rfl,kA,mA,hA⟩:=Aj.recs (f:=Ar.ints) (fun _=>rfl) dC (show Aj 3 a _ (l.flatMap Ar.ints) from h)
 have HA:=Lib.hid hA;clear hA;unfold maxLen at mA
 simp only[Ox,Cx] at hl
 go_enter Tryz.func240,Tryz.ntmps240
 have E0:Ext w w:=Ext.refl _
 have G:Stp [X] w w F F:=Stp.refl _ _ _
 go_wp2_with fail
 refine(Jh (C.ext Aa) (Ib _ 2 [(l.length:Int)] (by simp) _ rfl) (by(try simp only[Ox,Cx]);omega)).mono ?_
 rintro e w1⟨_,rfl,F1,C1,g⟩
 have g:=Stp.pre (a:=w) Aa g
 have G:=G.trans g
 clear g
 go_wp2_with fail
 go_loopw [13] (fun i wr=>∃k:Nat,k<=l.length/\i=.int .i64 k/\∃Fr,Cu a X wr Fr ((xs++[(l.length:Int)])++(l.take k).flatMap Ar.ints)/\Stp [X] w1 wr F1 Fr) (fun i _=>l.length - (intOf i).toNat)
 case atStart=>exact⟨0,Nat.zero_le _,rfl,_,C1.cast (by simp),Stp.refl _ _ _⟩
 case round =>
  obtain⟨k,hk,rfl,Fr,Cr,Gr⟩:=hrel
  by_cases hlt:k<l.length
  .
   obtain⟨d,b1,q1,hd,rfl,hb1,c⟩:=HA.out k hlt
   have d0:=Cr.e.cell (c 0 _ dC rfl)
   have d1:=Cr.e.cell (c 1 _ dC rfl)
   have d2:=Cr.e.cell (c 2 _ dC rfl)
   (try simp only[Nat.add_zero] at d0)
   clear c
   have hfm:=Jm Ar.ints hd;have HD:=Lib.hid hd;clear hd
   simp only[Ar.ints,Cx] at hfm
   go_wp2_with fail
   refine(Jh (Cr.ext Aa) (Ib _ 2 [d.Client,d.Seq,d.Index] (by simp) (wr.heap.size+1) (by simp)) (by(try simp only[Ox,Cx]);omega)).mono ?_
   rintro e w3⟨_,rfl,F3,C3,g⟩
   have g:=Stp.pre (a:=wr) Aa g
   have G:=(Stp.refl [X] wr Fr).trans g
   clear g
   go_wp2_with fail
   go_roundw
   case rel=>exact⟨k+1,by omega,by go_num,_,C3.cast (by rw[Hf _ HD.out];simp only[Ar.ints,List.append_assoc,List.cons_append,List.nil_append,List.append_nil]),Gr.trans G⟩
   case measure=>simp[intOf];omega
  obtain rfl:k=l.length:=by omega
  rw[List.take_length] at Cr
  clear hk hlt
  obtain⟨w2,hV⟩:∃V,V=wr:=⟨_,rfl⟩
  subst hV
  have C2:=Cr;clear Cr;have G:=G.trans Gr;clear Gr
  obtain⟨F2,hV⟩:∃V,V=Fr:=⟨_,rfl⟩
  subst hV
  go_wp2_with fail
  refine bodyPost_end (by simp[results,Tryz.results240,go_sem];try rfl) rfl ?_
  exact⟨_,rfl,_,C2.cast (by simp only[Ox,List.append_assoc,List.cons_append,List.nil_append,List.append_nil]),Stp.pre E0 G⟩
theorem dM{a w:World}{X:Nat}{F:List Nat}{xs:List Int}{d:Di}{u:Value}(C:Cu a X w F xs)(h:Mb a u d)(hl:xs.length+(Lr d).length<=1000000000):Calls Tryz.prog 238 #[.pointer (some ⟨X,0,none⟩),u] w (CuR a X w F (xs++Lr d)):=by
 obtain⟨t3,rfl,h3⟩:=h
 obtain⟨s0,s1,s2,rfl⟩:=h3.shape
 simp only[Lr,Cx] at hl
 show Calls _ _ #[_,.agg #[.int .i64 d.Num,.int .i64 d.Base,.int .i64 d.Time,.slice s0 s1 s2]] _ _
 obtain⟨W0,hW0⟩:∃W0,W0=w.alloc (.cells #[.int .i64 d.Num,.int .i64 d.Base,.int .i64 d.Time,.slice s0 s1 s2] 75):=⟨_,rfl⟩
 have E0:Ext w W0:=by rw[hW0];exact(Ext.refl _).alloc _
 have B0:Bx [X] W0 F w.heap.size 75 #[.int .i64 d.Num,.int .i64 d.Base,.int .i64 d.Time,.slice s0 s1 s2]:=by rw[hW0];exact C.box _ _
 go_enter Tryz.func238,Tryz.ntmps238
 go_upto_region 1 with(fail)
 rw[<-hW0];clear hW0
 have C:=C.ext E0
 have G:Stp [X] W0 W0 F F:=Stp.refl _ _ _
 have K0:=B0.1.cell;have K0l:=B0.1.lt
 go_wp2_with fail
 refine(Jh (C.ext Aa) (Ib _ 2 [d.Num,d.Base,d.Time] (by simp) _ rfl) (by(try simp only[Lr,Cx]);omega)).mono ?_
 rintro e w1⟨_,rfl,F1,C1,g⟩
 have g:=Stp.pre (a:=W0) Aa g
 have G:=G.trans g
 have B0:=B0.go g;clear K0 K0l
 clear g
 have K0:=B0.1.cell;have K0l:=B0.1.lt
 go_wp2_with fail
 refine(dL (l:=d.Seen) (C1.ext Aa) h3 (by(try simp only[Lr,Cx]);omega)).mono ?_
 rintro e w2⟨_,rfl,F2,C2,g⟩
 have g:=Stp.pre (a:=w1) Aa g
 have G:=G.trans g
 have B0:=B0.go g;clear K0 K0l
 clear g
 have K0:=B0.1.cell;have K0l:=B0.1.lt
 go_wp2_with fail
 refine bodyPost_end (by simp[results,Tryz.results238,go_sem];try rfl) rfl ?_
 exact⟨_,rfl,_,C2.cast (by simp only[Lr,List.append_assoc,List.cons_append,List.nil_append,List.append_nil]),Stp.pre E0 G⟩
theorem Xu{a w:World}{X:Nat}{F:List Nat}{xs:List Int}{d:Ez}{u:Value}(C:Cu a X w F xs)(h:Gw a u d)(hl:xs.length+(Hr d).length<=1000000000):Calls Tryz.prog 132 #[.pointer (some ⟨X,0,none⟩),u] w (CuR a X w F (xs++Hr d)):=by
 obtain⟨t0,t1,rfl,h0,h1⟩:=h
 obtain⟨sA,cA,rfl,kA,mA,hA⟩:=Ck.rows h0
 obtain⟨sB,cB,rfl,kB,mB,hB⟩:=Ck.writes h1
 have HA:=Lib.hid hA;have HB:=Lib.hid hB;clear hA hB;unfold maxLen at mA mB
 simp only[Hr,Bu,Cx] at hl
 show Calls _ _ #[_,.agg #[.slice sA d.Kept.length cA,.slice sB d.Wait.length cB]] _ _
 obtain⟨W0,hW0⟩:∃W0,W0=w.alloc (.cells #[.slice sA d.Kept.length cA,.slice sB d.Wait.length cB] 70):=⟨_,rfl⟩
 have E0:Ext w W0:=by rw[hW0];exact(Ext.refl _).alloc _
 have B0:Bx [X] W0 F w.heap.size 70 #[.slice sA d.Kept.length cA,.slice sB d.Wait.length cB]:=by rw[hW0];exact C.box _ _
 go_enter Tryz.func132,Tryz.ntmps132
 go_upto_region 1 with(fail)
 rw[<-hW0];clear hW0
 have C:=C.ext E0
 have G:Stp [X] W0 W0 F F:=Stp.refl _ _ _
 have K0:=B0.1.cell;have K0l:=B0.1.lt
 go_wp2_with fail
 refine(Jh (C.ext Aa) (Ib _ 2 [(d.Kept.length:Int)] (by simp) _ rfl) (by(try simp only[Hr,Bu,Cx]);omega)).mono ?_
 rintro e w1⟨_,rfl,F1,C1,g⟩
 have g:=Stp.pre (a:=W0) Aa g
 have G:=G.trans g
 have B0:=B0.go g;clear K0 K0l
 clear g
 have K0:=B0.1.cell;have K0l:=B0.1.lt
 go_wp2_with fail
 go_loopw [17] (fun i wr=>∃k:Nat,k<=d.Kept.length/\i=.int .i64 k/\∃Fr,Cu a X wr Fr ((xs++[(d.Kept.length:Int)])++(d.Kept.take k).flatMap Bu)/\Stp [X] w1 wr F1 Fr) (fun i _=>d.Kept.length - (intOf i).toNat)
 case atStart=>exact⟨0,Nat.zero_le _,rfl,_,C1.cast (by simp),Stp.refl _ _ _⟩
 case round =>
  obtain⟨k,hk,rfl,Fr,Cr,Gr⟩:=hrel
  have B0:=B0.go Gr;clear K0 K0l
  have K0:=B0.1.cell;have K0l:=B0.1.lt
  by_cases hlt:k<d.Kept.length
  .
   obtain⟨r,b1,q1,sa,sn,sc,hd,rfl,hb1,c0,hin⟩:=HA.out k hlt
   have d0:=Cr.e.cell c0;clear c0
   have hfm:=Jm Bu hd;have HD:=Lib.hid hd;clear hd
   simp only[Bu,Cx] at hfm
   go_wp2_with fail
   refine(Ru (l:=r) (Cr.ext Aa) (Dx.of (Cr.ext Aa) (fun _ e=>Aj.ext hin e)) (by(try simp only[Hr,Bu,Cx]);omega)).mono ?_
   rintro e w3⟨_,rfl,F3,C3,g⟩
   have g:=Stp.pre (a:=wr) Aa g
   have G:=(Stp.refl [X] wr Fr).trans g
   have B0:=B0.go g;clear K0 K0l
   clear g
   have K0:=B0.1.cell;have K0l:=B0.1.lt
   go_wp2_with fail
   go_roundw
   case rel=>exact⟨k+1,by omega,by go_num,_,C3.cast (by rw[Hf _ HD.out];simp only[Bu,List.append_assoc,List.cons_append,List.nil_append,List.append_nil]),Gr.trans G⟩
   case measure=>simp[intOf];omega
  obtain rfl:k=d.Kept.length:=by omega
  rw[List.take_length] at Cr
  clear hk hlt
  obtain⟨w2,hV⟩:∃V,V=wr:=⟨_,rfl⟩
  subst hV
  have C2:=Cr;clear Cr;have G:=G.trans Gr;clear Gr
  obtain⟨F2,hV⟩:∃V,V=Fr:=⟨_,rfl⟩
  subst hV
  go_wp2_with fail
  refine(Jh (C2.ext Aa) (Ib _ 2 [(d.Wait.length:Int)] (by simp) _ rfl) (by(try simp only[Hr,Bu,Cx]);omega)).mono ?_
  rintro e w4⟨_,rfl,F4,C4,g⟩
  have g:=Stp.pre (a:=w2) Aa g
  have G:=G.trans g
  have B0:=B0.go g;clear K0 K0l
  clear g
  have K0:=B0.1.cell;have K0l:=B0.1.lt
  go_wp2_with fail
  go_loopw [34] (fun i wr=>∃k:Nat,k<=d.Wait.length/\i=.int .i64 k/\∃Fr,Cu a X wr Fr ((((xs++[(d.Kept.length:Int)])++d.Kept.flatMap Bu)++[(d.Wait.length:Int)])++(d.Wait.take k).flatMap wrN)/\Stp [X] w4 wr F4 Fr) (fun i _=>d.Wait.length - (intOf i).toNat)
  case atStart=>exact⟨0,Nat.zero_le _,rfl,_,C4.cast (by simp),Stp.refl _ _ _⟩
  case round =>
   obtain⟨k,hk,rfl,Fr,Cr,Gr⟩:=hrel
   have B0:=B0.go Gr;clear K0 K0l
   have K0:=B0.1.cell;have K0l:=B0.1.lt
   by_cases hlt:k<d.Wait.length
   .
    obtain⟨x,b1,q1,sa,sn,sc,hd,rfl,hb1,c0,c1,hin⟩:=HB.out k hlt
    have d0:=Cr.e.cell c0;have d1:=Cr.e.cell c1;clear c0 c1
    have hfm:=Jm wrN hd;have HD:=Lib.hid hd;clear hd
    simp only[wrN,Bu,Cx] at hfm
    go_wp2_with fail
    refine(Jh (Cr.ext Aa) (Ib _ 2 [x.At] (by simp) (wr.heap.size+1) (by simp)) (by(try simp only[Hr,Bu,Cx]);omega)).mono ?_
    rintro e w6⟨_,rfl,F6,C6,g⟩
    have Bq:Bx [X] w6 F6 (wr.heap.size) 312 #[.int .i64 x.At,.slice sa sn sc]:=Bx.go (Bx.mk (by exact Blk.cast (by exact Bv) (by first|rfl|simp)) (fun hm=>by have:=(Cr.low _ hm).2;omega)) g
    have g:=Stp.pre (a:=wr) Aa g
    have G:=(Stp.refl [X] wr Fr).trans g
    have B0:=B0.go g;clear K0 K0l
    clear g
    have K0:=B0.1.cell;have K0l:=B0.1.lt
    have Kq:=Bq.1.cell;have Kql:=Bq.1.lt
    go_wp2_with fail
    refine(Ru (l:=x.Row) (C6.ext Aa) (Dx.of (C6.ext Aa) (fun _ e=>Aj.ext hin e)) (by(try simp only[Hr,Bu,Cx]);omega)).mono ?_
    rintro e w7⟨_,rfl,F7,C7,g⟩
    have g:=Stp.pre (a:=w6) Aa g
    have G:=G.trans g
    have B0:=B0.go g;clear K0 K0l
    have Bq:=Bq.go g;clear Kq Kql
    clear g
    have K0:=B0.1.cell;have K0l:=B0.1.lt
    have Kq:=Bq.1.cell;have Kql:=Bq.1.lt
    go_wp2_with fail
    go_roundw
    case rel=>exact⟨k+1,by omega,by go_num,_,C7.cast (by rw[Hf _ HD.out];simp only[wrN,Bu,List.append_assoc,List.cons_append,List.nil_append,List.append_nil]),Gr.trans G⟩
    case measure=>simp[intOf];omega
   obtain rfl:k=d.Wait.length:=by omega
   rw[List.take_length] at Cr
   clear hk hlt
   obtain⟨w5,hV⟩:∃V,V=wr:=⟨_,rfl⟩
   subst hV
   have C5:=Cr;clear Cr;have G:=G.trans Gr;clear Gr
   obtain⟨F5,hV⟩:∃V,V=Fr:=⟨_,rfl⟩
   subst hV
   go_wp2_with fail
   refine bodyPost_end (by simp[results,Tryz.results132,go_sem];try rfl) rfl ?_
   exact⟨_,rfl,_,C5.cast (by simp only[Hr,Bu,List.append_assoc,List.cons_append,List.nil_append,List.append_nil]),Stp.pre E0 G⟩
theorem rH(w:World)(b:Bool):Calls Tryz.prog 139 #[.bool b] w (fun e w'=>e=.returned (.int .i64 (Ow b))/\w=w'):=by
 cases b <;> (go_enter Tryz.func139,Tryz.ntmps139;go_wp2;go_ret;exact⟨rfl,rfl⟩)
theorem lJ(w:World)(b:Bool):Calls Tryz.prog 118 #[.bool b] w (fun e w'=>e=.returned (.int .i64 (Ow b))/\w=w'):=by
 cases b <;> (go_enter Tryz.func118,Tryz.ntmps118;go_wp2;go_ret;exact⟨rfl,rfl⟩)
theorem bA(w:World)(x0 x1 x2 x3 x4:Int):Calls Tryz.prog 245 #[.agg #[.int .i64 x0,.int .i64 x1,.int .i64 x2,.int .i64 x3,.int .i64 x4]] w (Ret w fun r w'=>Af w.heap.size 2 1 w' r [x0,x1,x2,x3,x4]):=by
 go_enter Tryz.func245,Tryz.ntmps245
 go_wp2_with fail
 go_ret
 have h9:=Af.lit (w.alloc (.cells #[.int .i64 x0,.int .i64 x1,.int .i64 x2,.int .i64 x3,.int .i64 x4] 94)) 2 [x0,x1,x2,x3,x4] (by simp)
 simp only[World.size_alloc] at h9
 exact⟨_,rfl,by exact Aa,h9.mono oM⟩
theorem bB{a w:World}{X:Nat}{F:List Nat}{xs:List Int}{d:De}{u:Value}(C:Cu a X w F xs)(h:Hz a u d)(hl:xs.length+(Hk d).length<=1000000000):Calls Tryz.prog 136 #[.pointer (some ⟨X,0,none⟩),u] w (CuR a X w F (xs++Hk d)):=by
 obtain⟨t7,rfl,h7⟩:=h
 obtain⟨sA,cA,rfl,kA,mA,hA⟩:=Aj.recs (f:=Hu.ints) (fun _=>rfl) dC (show Aj 2 a _ (d.View.Jobs.Open.flatMap Hu.ints) from h7)
 have HA:=Lib.hid hA;clear hA;unfold maxLen at mA
 simp only[Hk,opN,Cx] at hl
 show Calls _ _ #[_,.agg #[.int .i64 d.Id,.int .i64 d.Seq,.int .i64 d.View.Jobs.Index,.int .i64 d.View.Jobs.Time,.int .i64 d.View.Jobs.Holder,.int .i64 d.View.Jobs.Epoch,.int .i64 d.View.Jobs.Until,.slice sA d.View.Jobs.Open.length cA,.bool d.Busy,.int .i64 d.Op.Kind,.int .i64 d.Op.A,.int .i64 d.Op.B,.int .i64 d.Op.C,.int .i64 d.Op.D,.int .i64 d.Index]] _ _
 obtain⟨W0,hW0⟩:∃W0,W0=w.alloc (.cells #[.int .i64 d.Id,.int .i64 d.Seq,.int .i64 d.View.Jobs.Index,.int .i64 d.View.Jobs.Time,.int .i64 d.View.Jobs.Holder,.int .i64 d.View.Jobs.Epoch,.int .i64 d.View.Jobs.Until,.slice sA d.View.Jobs.Open.length cA,.bool d.Busy,.int .i64 d.Op.Kind,.int .i64 d.Op.A,.int .i64 d.Op.B,.int .i64 d.Op.C,.int .i64 d.Op.D,.int .i64 d.Index] 96):=⟨_,rfl⟩
 have E0:Ext w W0:=by rw[hW0];exact(Ext.refl _).alloc _
 have B0:Bx [X] W0 F w.heap.size 96 #[.int .i64 d.Id,.int .i64 d.Seq,.int .i64 d.View.Jobs.Index,.int .i64 d.View.Jobs.Time,.int .i64 d.View.Jobs.Holder,.int .i64 d.View.Jobs.Epoch,.int .i64 d.View.Jobs.Until,.slice sA d.View.Jobs.Open.length cA,.bool d.Busy,.int .i64 d.Op.Kind,.int .i64 d.Op.A,.int .i64 d.Op.B,.int .i64 d.Op.C,.int .i64 d.Op.D,.int .i64 d.Index]:=by rw[hW0];exact C.box _ _
 go_enter Tryz.func136,Tryz.ntmps136
 go_upto_region 1 with(fail)
 rw[<-hW0];clear hW0
 have C:=C.ext E0
 have G:Stp [X] W0 W0 F F:=Stp.refl _ _ _
 have K0:=B0.1.cell;have K0l:=B0.1.lt
 go_wp2_with fail
 refine(Jh (C.ext Aa) (Ib _ 2 [d.Id,d.Seq,d.View.Jobs.Index,d.View.Jobs.Time,d.View.Jobs.Holder,d.View.Jobs.Epoch,d.View.Jobs.Until,(d.View.Jobs.Open.length:Int)] (by simp) (W0.heap.size+1) (by simp)) (by(try simp only[Hk,opN,Cx]);omega)).mono ?_
 rintro e w1⟨_,rfl,F1,C1,g⟩
 have Bq:Bx [X] w1 F1 (W0.heap.size) 91 #[.int .i64 d.View.Jobs.Index,.int .i64 d.View.Jobs.Time,.int .i64 d.View.Jobs.Holder,.int .i64 d.View.Jobs.Epoch,.int .i64 d.View.Jobs.Until,.slice sA d.View.Jobs.Open.length cA]:=Bx.go (Bx.mk (by exact Blk.cast (by exact Bv) (by first|rfl|simp)) (fun hm=>by have:=(C.low _ hm).2;omega)) g
 have g:=Stp.pre (a:=W0) Aa g
 have G:=G.trans g
 have B0:=B0.go g;clear K0 K0l
 clear g
 have K0:=B0.1.cell;have K0l:=B0.1.lt
 have Kq:=Bq.1.cell;have Kql:=Bq.1.lt
 go_wp2_with fail
 go_loopw [33] (fun i wr=>∃k:Nat,k<=d.View.Jobs.Open.length/\i=.int .i64 k/\∃Fr,Cu a X wr Fr ((xs++[d.Id,d.Seq,d.View.Jobs.Index,d.View.Jobs.Time,d.View.Jobs.Holder,d.View.Jobs.Epoch,d.View.Jobs.Until,(d.View.Jobs.Open.length:Int)])++(d.View.Jobs.Open.take k).flatMap Hu.ints)/\Stp [X] w1 wr F1 Fr) (fun i _=>d.View.Jobs.Open.length - (intOf i).toNat)
 case atStart=>exact⟨0,Nat.zero_le _,rfl,_,C1.cast (by simp),Stp.refl _ _ _⟩
 case round =>
  obtain⟨k,hk,rfl,Fr,Cr,Gr⟩:=hrel
  have B0:=B0.go Gr;clear K0 K0l
  have Bq:=Bq.go Gr;clear Kq Kql
  have K0:=B0.1.cell;have K0l:=B0.1.lt
  have Kq:=Bq.1.cell;have Kql:=Bq.1.lt
  by_cases hlt:k<d.View.Jobs.Open.length
  .
   obtain⟨d9,b1,q1,hd,rfl,hb1,c⟩:=HA.out k hlt
   have d0:=Cr.e.cell (c 0 _ dC rfl)
   have d1:=Cr.e.cell (c 1 _ dC rfl)
   (try simp only[Nat.add_zero] at d0)
   clear c
   have hfm:=Jm Hu.ints hd;have HD:=Lib.hid hd;clear hd
   simp only[Hu.ints,Cx] at hfm
   go_wp2_with fail
   refine(Jh (Cr.ext Aa) (Ib _ 2 [d9.Id,d9.Due] (by simp) (wr.heap.size+1) (by simp)) (by(try simp only[Hk,opN,Cx]);omega)).mono ?_
   rintro e w3⟨_,rfl,F3,C3,g⟩
   have g:=Stp.pre (a:=wr) Aa g
   have G:=(Stp.refl [X] wr Fr).trans g
   have B0:=B0.go g;clear K0 K0l
   have Bq:=Bq.go g;clear Kq Kql
   clear g
   have K0:=B0.1.cell;have K0l:=B0.1.lt
   have Kq:=Bq.1.cell;have Kql:=Bq.1.lt
   go_wp2_with fail
   go_roundw
   case rel=>exact⟨k+1,by omega,by go_num,_,C3.cast (by rw[Hf _ HD.out];simp only[Hu.ints,List.append_assoc,List.cons_append,List.nil_append,List.append_nil]),Gr.trans G⟩
   case measure=>simp[intOf];omega
  obtain rfl:k=d.View.Jobs.Open.length:=by omega
  rw[List.take_length] at Cr
  clear hk hlt
  obtain⟨w2,hV⟩:∃V,V=wr:=⟨_,rfl⟩
  subst hV
  have C2:=Cr;clear Cr;have G:=G.trans Gr;clear Gr
  obtain⟨F2,hV⟩:∃V,V=Fr:=⟨_,rfl⟩
  subst hV
  go_wp2_with (first|(go_at_call 139;refine(rH _ _).mono ?_;rintro e9 w9 ⟨rfl,rfl⟩))
  refine(Jh (C2.ext Aa) (Ib _ 2 [Ow d.Busy] (by simp) _ rfl) (by(try simp only[Hk,opN,Cx]);omega)).mono ?_
  rintro e w4⟨_,rfl,F4,C4,g⟩
  have g:=Stp.pre (a:=w2) Aa g
  have G:=G.trans g
  have B0:=B0.go g;clear K0 K0l
  have Bq:=Bq.go g;clear Kq Kql
  clear g
  have K0:=B0.1.cell;have K0l:=B0.1.lt
  have Kq:=Bq.1.cell;have Kql:=Bq.1.lt
  go_wp2_with fail
  refine(bA _ d.Op.Kind d.Op.A d.Op.B d.Op.C d.Op.D).mono ?_
  rintro e v5⟨_,rfl,hx,o⟩
  have hx:Ext w4 v5:=Ext.trans Aa hx
  obtain⟨p0,p1,p2,rfl⟩:=o.shape
  have B0:=B0.ext hx;clear K0 K0l;have K0:=B0.1.cell;have K0l:=B0.1.lt
  have Bq:=Bq.ext hx;clear Kq Kql;have Kq:=Bq.1.cell;have Kql:=Bq.1.lt
  go_wp2_with fail
  refine(Jh (C4.ext hx) (ys:=[d.Op.Kind,d.Op.A,d.Op.B,d.Op.C,d.Op.D]) o.ints (by(try simp only[Hk,opN,Cx]);omega)).mono ?_
  rintro e w5⟨_,rfl,F5,C5,g⟩
  have B0:=B0.go g;clear K0 K0l
  have Bq:=Bq.go g;clear Kq Kql
  have g:=Stp.pre hx g
  have G:=G.trans g
  clear g
  have K0:=B0.1.cell;have K0l:=B0.1.lt
  have Kq:=Bq.1.cell;have Kql:=Bq.1.lt
  go_wp2_with fail
  refine(Jh (C5.ext Aa) (Ib _ 2 [d.Index] (by simp) _ rfl) (by(try simp only[Hk,opN,Cx]);omega)).mono ?_
  rintro e w6⟨_,rfl,F6,C6,g⟩
  have g:=Stp.pre (a:=w5) Aa g
  have G:=G.trans g
  have B0:=B0.go g;clear K0 K0l
  have Bq:=Bq.go g;clear Kq Kql
  clear g
  have K0:=B0.1.cell;have K0l:=B0.1.lt
  have Kq:=Bq.1.cell;have Kql:=Bq.1.lt
  go_wp2_with fail
  refine bodyPost_end (by simp[results,Tryz.results136,go_sem];try rfl) rfl ?_
  exact⟨_,rfl,_,C6.cast (by simp only[Hk,opN,List.append_assoc,List.cons_append,List.nil_append,List.append_nil]),Stp.pre E0 G⟩
theorem Yn{a w:World}{X:Nat}{F:List Nat}{xs:List Int}{d:El}{u:Value}(C:Cu a X w F xs)(h:Gk a u d)(hl:xs.length+(Fa d).length<=1000000000):Calls Tryz.prog 137 #[.pointer (some ⟨X,0,none⟩),u] w (CuR a X w F (xs++Fa d)):=by
 obtain⟨t1,t2,rfl,h1,h2⟩:=h
 obtain⟨sA,cA,rfl,kA,mA,hA⟩:=Aj.recs (f:=Da.ints) (fun _=>rfl) dC (show Aj 7 a _ (d.Todo.flatMap Da.ints) from h1)
 have HA:=Lib.hid hA;clear hA;unfold maxLen at mA
 obtain⟨sB,cB,rfl,kB,mB,hB⟩:=Aj.recs (f:=Jd.ints) (fun _=>rfl) dC (show Aj 4 a _ (d.Gots.flatMap Jd.ints) from h2)
 have HB:=Lib.hid hB;clear hB;unfold maxLen at mB
 simp only[Fa,Cx] at hl
 show Calls _ _ #[_,.agg #[.int .i64 d.Id,.slice sA d.Todo.length cA,.slice sB d.Gots.length cB,.int .i64 d.Last]] _ _
 obtain⟨W0,hW0⟩:∃W0,W0=w.alloc (.cells #[.int .i64 d.Id,.slice sA d.Todo.length cA,.slice sB d.Gots.length cB,.int .i64 d.Last] 100):=⟨_,rfl⟩
 have E0:Ext w W0:=by rw[hW0];exact(Ext.refl _).alloc _
 have B0:Bx [X] W0 F w.heap.size 100 #[.int .i64 d.Id,.slice sA d.Todo.length cA,.slice sB d.Gots.length cB,.int .i64 d.Last]:=by rw[hW0];exact C.box _ _
 go_enter Tryz.func137,Tryz.ntmps137
 go_upto_region 1 with(fail)
 rw[<-hW0];clear hW0
 have C:=C.ext E0
 have G:Stp [X] W0 W0 F F:=Stp.refl _ _ _
 have K0:=B0.1.cell;have K0l:=B0.1.lt
 go_wp2_with fail
 refine(Jh (C.ext Aa) (Ib _ 2 [d.Id,(d.Todo.length:Int)] (by simp) _ rfl) (by(try simp only[Fa,Cx]);omega)).mono ?_
 rintro e w1⟨_,rfl,F1,C1,g⟩
 have g:=Stp.pre (a:=W0) Aa g
 have G:=G.trans g
 have B0:=B0.go g;clear K0 K0l
 clear g
 have K0:=B0.1.cell;have K0l:=B0.1.lt
 go_wp2_with fail
 go_loopw [19] (fun i wr=>∃k:Nat,k<=d.Todo.length/\i=.int .i64 k/\∃Fr,Cu a X wr Fr ((xs++[d.Id,(d.Todo.length:Int)])++(d.Todo.take k).flatMap Da.ints)/\Stp [X] w1 wr F1 Fr) (fun i _=>d.Todo.length - (intOf i).toNat)
 case atStart=>exact⟨0,Nat.zero_le _,rfl,_,C1.cast (by simp),Stp.refl _ _ _⟩
 case round =>
  obtain⟨k,hk,rfl,Fr,Cr,Gr⟩:=hrel
  have B0:=B0.go Gr;clear K0 K0l
  have K0:=B0.1.cell;have K0l:=B0.1.lt
  by_cases hlt:k<d.Todo.length
  .
   obtain⟨d9,b1,q1,hd,rfl,hb1,c⟩:=HA.out k hlt
   have d0:=Cr.e.cell (c 0 _ dC rfl)
   have d1:=Cr.e.cell (c 1 _ dC rfl)
   have d2:=Cr.e.cell (c 2 _ dC rfl)
   have d3:=Cr.e.cell (c 3 _ dC rfl)
   have d4:=Cr.e.cell (c 4 _ dC rfl)
   have d5:=Cr.e.cell (c 5 _ dC rfl)
   have d6:=Cr.e.cell (c 6 _ dC rfl)
   (try simp only[Nat.add_zero] at d0)
   clear c
   have hfm:=Jm Da.ints hd;have HD:=Lib.hid hd;clear hd
   simp only[Da.ints,Cx] at hfm
   go_wp2_with fail
   refine(Jh (Cr.ext Aa) (Ib _ 2 [d9.Kind] (by simp) (wr.heap.size+1) (by simp)) (by(try simp only[Fa,Cx]);omega)).mono ?_
   rintro e w3⟨_,rfl,F3,C3,g⟩
   have Bq:Bx [X] w3 F3 (wr.heap.size) 161 #[.int .i64 d9.Kind,.int .i64 d9.Op.Kind,.int .i64 d9.Op.A,.int .i64 d9.Op.B,.int .i64 d9.Op.C,.int .i64 d9.Op.D,.int .i64 d9.Key]:=Bx.go (Bx.mk (by exact Blk.cast (by exact Bv) (by first|rfl|simp)) (fun hm=>by have:=(Cr.low _ hm).2;omega)) g
   have g:=Stp.pre (a:=wr) Aa g
   have G:=(Stp.refl [X] wr Fr).trans g
   have B0:=B0.go g;clear K0 K0l
   clear g
   have K0:=B0.1.cell;have K0l:=B0.1.lt
   have Kq:=Bq.1.cell;have Kql:=Bq.1.lt
   go_wp2_with fail
   refine(bA _ d9.Op.Kind d9.Op.A d9.Op.B d9.Op.C d9.Op.D).mono ?_
   rintro e v4⟨_,rfl,hx,o⟩
   have hx:Ext w3 v4:=Ext.trans Aa hx
   obtain⟨p0,p1,p2,rfl⟩:=o.shape
   have B0:=B0.ext hx;clear K0 K0l;have K0:=B0.1.cell;have K0l:=B0.1.lt
   have Bq:=Bq.ext hx;clear Kq Kql;have Kq:=Bq.1.cell;have Kql:=Bq.1.lt
   go_wp2_with fail
   refine(Jh (C3.ext hx) (ys:=[d9.Op.Kind,d9.Op.A,d9.Op.B,d9.Op.C,d9.Op.D]) o.ints (by(try simp only[Fa,Cx]);omega)).mono ?_
   rintro e w4⟨_,rfl,F4,C4,g⟩
   have B0:=B0.go g;clear K0 K0l
   have Bq:=Bq.go g;clear Kq Kql
   have g:=Stp.pre hx g
   have G:=G.trans g
   clear g
   have K0:=B0.1.cell;have K0l:=B0.1.lt
   have Kq:=Bq.1.cell;have Kql:=Bq.1.lt
   go_wp2_with fail
   refine(Jh (C4.ext Aa) (Ib _ 2 [d9.Key] (by simp) _ rfl) (by(try simp only[Fa,Cx]);omega)).mono ?_
   rintro e w5⟨_,rfl,F5,C5,g⟩
   have g:=Stp.pre (a:=w4) Aa g
   have G:=G.trans g
   have B0:=B0.go g;clear K0 K0l
   have Bq:=Bq.go g;clear Kq Kql
   clear g
   have K0:=B0.1.cell;have K0l:=B0.1.lt
   have Kq:=Bq.1.cell;have Kql:=Bq.1.lt
   go_wp2_with fail
   go_roundw
   case rel=>exact⟨k+1,by omega,by go_num,_,C5.cast (by rw[Hf _ HD.out];simp only[Da.ints,List.append_assoc,List.cons_append,List.nil_append,List.append_nil]),Gr.trans G⟩
   case measure=>simp[intOf];omega
  obtain rfl:k=d.Todo.length:=by omega
  rw[List.take_length] at Cr
  clear hk hlt
  obtain⟨w2,hV⟩:∃V,V=wr:=⟨_,rfl⟩
  subst hV
  have C2:=Cr;clear Cr;have G:=G.trans Gr;clear Gr
  obtain⟨F2,hV⟩:∃V,V=Fr:=⟨_,rfl⟩
  subst hV
  go_wp2_with fail
  refine(Jh (C2.ext Aa) (Ib _ 2 [(d.Gots.length:Int)] (by simp) _ rfl) (by(try simp only[Fa,Cx]);omega)).mono ?_
  rintro e w6⟨_,rfl,F6,C6,g⟩
  have g:=Stp.pre (a:=w2) Aa g
  have G:=G.trans g
  have B0:=B0.go g;clear K0 K0l
  clear g
  have K0:=B0.1.cell;have K0l:=B0.1.lt
  go_wp2_with fail
  go_loopw [48] (fun i wr=>∃k:Nat,k<=d.Gots.length/\i=.int .i64 k/\∃Fr,Cu a X wr Fr ((((xs++[d.Id,(d.Todo.length:Int)])++d.Todo.flatMap Da.ints)++[(d.Gots.length:Int)])++(d.Gots.take k).flatMap Jd.ints)/\Stp [X] w6 wr F6 Fr) (fun i _=>d.Gots.length - (intOf i).toNat)
  case atStart=>exact⟨0,Nat.zero_le _,rfl,_,C6.cast (by simp),Stp.refl _ _ _⟩
  case round =>
   obtain⟨k,hk,rfl,Fr,Cr,Gr⟩:=hrel
   have B0:=B0.go Gr;clear K0 K0l
   have K0:=B0.1.cell;have K0l:=B0.1.lt
   by_cases hlt:k<d.Gots.length
   .
    obtain⟨d9,b1,q1,hd,rfl,hb1,c⟩:=HB.out k hlt
    have d0:=Cr.e.cell (c 0 _ dC rfl)
    have d1:=Cr.e.cell (c 1 _ dC rfl)
    have d2:=Cr.e.cell (c 2 _ dC rfl)
    have d3:=Cr.e.cell (c 3 _ dC rfl)
    (try simp only[Nat.add_zero] at d0)
    clear c
    have hfm:=Jm Jd.ints hd;have HD:=Lib.hid hd;clear hd
    simp only[Jd.ints,Cx] at hfm
    go_wp2_with fail
    refine(Jh (Cr.ext Aa) (Ib _ 2 [d9.Seq,d9.Index,d9.Has,d9.Value] (by simp) (wr.heap.size+1) (by simp)) (by(try simp only[Fa,Cx]);omega)).mono ?_
    rintro e w8⟨_,rfl,F8,C8,g⟩
    have g:=Stp.pre (a:=wr) Aa g
    have G:=(Stp.refl [X] wr Fr).trans g
    have B0:=B0.go g;clear K0 K0l
    clear g
    have K0:=B0.1.cell;have K0l:=B0.1.lt
    go_wp2_with fail
    go_roundw
    case rel=>exact⟨k+1,by omega,by go_num,_,C8.cast (by rw[Hf _ HD.out];simp only[Jd.ints,List.append_assoc,List.cons_append,List.nil_append,List.append_nil]),Gr.trans G⟩
    case measure=>simp[intOf];omega
   obtain rfl:k=d.Gots.length:=by omega
   rw[List.take_length] at Cr
   clear hk hlt
   obtain⟨w7,hV⟩:∃V,V=wr:=⟨_,rfl⟩
   subst hV
   have C7:=Cr;clear Cr;have G:=G.trans Gr;clear Gr
   obtain⟨F7,hV⟩:∃V,V=Fr:=⟨_,rfl⟩
   subst hV
   go_wp2_with fail
   refine(Jh (C7.ext Aa) (Ib _ 2 [d.Last] (by simp) _ rfl) (by(try simp only[Fa,Cx]);omega)).mono ?_
   rintro e w9⟨_,rfl,F9,C9,g⟩
   have g:=Stp.pre (a:=w7) Aa g
   have G:=G.trans g
   have B0:=B0.go g;clear K0 K0l
   clear g
   have K0:=B0.1.cell;have K0l:=B0.1.lt
   go_wp2_with fail
   refine bodyPost_end (by simp[results,Tryz.results137,go_sem];try rfl) rfl ?_
   exact⟨_,rfl,_,C9.cast (by simp only[Fa,List.append_assoc,List.cons_append,List.nil_append,List.append_nil]),Stp.pre E0 G⟩
theorem rI{a w:World}{X:Nat}{F:List Nat}{xs:List Int}{d:Lu}{u:Value}(C:Cu a X w F xs)(h:Rq a u d)(hl:xs.length+(Qo d).length<=1000000000):Calls Tryz.prog 138 #[.pointer (some ⟨X,0,none⟩),u] w (CuR a X w F (xs++Qo d)):=by
 obtain⟨t0,t1,rfl,h0,h1⟩:=h
 obtain⟨sA,cA,rfl,kA,mA,hA⟩:=Ck.letters (show Ck 2 a t0 (Ji d.Flight) from h0)
 have HA:=Lib.hid hA;clear hA;unfold maxLen at mA
 obtain⟨sB,cB,rfl,kB,mB,hB⟩:=Aj.recs (f:=Gf.ints) (fun _=>rfl) dC (show Aj 2 a _ (d.Cuts.flatMap Gf.ints) from h1)
 have HB:=Lib.hid hB;clear hB;unfold maxLen at mB
 simp only[Qo,Bu,Cx] at hl
 show Calls _ _ #[_,.agg #[.slice sA d.Flight.length cA,.slice sB d.Cuts.length cB]] _ _
 obtain⟨W0,hW0⟩:∃W0,W0=w.alloc (.cells #[.slice sA d.Flight.length cA,.slice sB d.Cuts.length cB] 104):=⟨_,rfl⟩
 have E0:Ext w W0:=by rw[hW0];exact(Ext.refl _).alloc _
 have B0:Bx [X] W0 F w.heap.size 104 #[.slice sA d.Flight.length cA,.slice sB d.Cuts.length cB]:=by rw[hW0];exact C.box _ _
 go_enter Tryz.func138,Tryz.ntmps138
 go_upto_region 1 with(fail)
 rw[<-hW0];clear hW0
 have C:=C.ext E0
 have G:Stp [X] W0 W0 F F:=Stp.refl _ _ _
 have K0:=B0.1.cell;have K0l:=B0.1.lt
 go_wp2_with fail
 refine(Jh (C.ext Aa) (Ib _ 2 [(d.Flight.length:Int)] (by simp) _ rfl) (by(try simp only[Qo,Bu,Cx]);omega)).mono ?_
 rintro e w1⟨_,rfl,F1,C1,g⟩
 have g:=Stp.pre (a:=W0) Aa g
 have G:=G.trans g
 have B0:=B0.go g;clear K0 K0l
 clear g
 have K0:=B0.1.cell;have K0l:=B0.1.lt
 go_wp2_with fail
 go_loopw [17] (fun i wr=>∃k:Nat,k<=d.Flight.length/\i=.int .i64 k/\∃Fr,Cu a X wr Fr ((xs++[(d.Flight.length:Int)])++(d.Flight.take k).flatMap Xt)/\Stp [X] w1 wr F1 Fr) (fun i _=>d.Flight.length - (intOf i).toNat)
 case atStart=>exact⟨0,Nat.zero_le _,rfl,_,C1.cast (by simp),Stp.refl _ _ _⟩
 case round =>
  obtain⟨k,hk,rfl,Fr,Cr,Gr⟩:=hrel
  have B0:=B0.go Gr;clear K0 K0l
  have K0:=B0.1.cell;have K0l:=B0.1.lt
  by_cases hlt:k<d.Flight.length
  .
   obtain⟨x,b1,q1,sa,sn,sc,hd,rfl,hb1,c0,c1,c2,hin⟩:=HA.out k hlt
   have d0:=Cr.e.cell c0;have d1:=Cr.e.cell c1;have d2:=Cr.e.cell c2;clear c0 c1 c2
   have hfm:=Jm Xt hd;have HD:=Lib.hid hd;clear hd
   simp only[Xt,Bu,Cx] at hfm
   go_wp2_with fail
   refine(Jh (Cr.ext Aa) (Ib _ 2 [x.From,x.To] (by simp) (wr.heap.size+1) (by simp)) (by(try simp only[Qo,Bu,Cx]);omega)).mono ?_
   rintro e w3⟨_,rfl,F3,C3,g⟩
   have Bq:Bx [X] w3 F3 (wr.heap.size) 255 #[.int .i64 x.From,.int .i64 x.To,.slice sa sn sc]:=Bx.go (Bx.mk (by exact Blk.cast (by exact Bv) (by first|rfl|simp)) (fun hm=>by have:=(Cr.low _ hm).2;omega)) g
   have g:=Stp.pre (a:=wr) Aa g
   have G:=(Stp.refl [X] wr Fr).trans g
   have B0:=B0.go g;clear K0 K0l
   clear g
   have K0:=B0.1.cell;have K0l:=B0.1.lt
   have Kq:=Bq.1.cell;have Kql:=Bq.1.lt
   go_wp2_with fail
   refine(Ru (l:=x.Row) (C3.ext Aa) (Dx.of (C3.ext Aa) (fun _ e=>Aj.ext hin e)) (by(try simp only[Qo,Bu,Cx]);omega)).mono ?_
   rintro e w4⟨_,rfl,F4,C4,g⟩
   have g:=Stp.pre (a:=w3) Aa g
   have G:=G.trans g
   have B0:=B0.go g;clear K0 K0l
   have Bq:=Bq.go g;clear Kq Kql
   clear g
   have K0:=B0.1.cell;have K0l:=B0.1.lt
   have Kq:=Bq.1.cell;have Kql:=Bq.1.lt
   go_wp2_with fail
   go_roundw
   case rel=>exact⟨k+1,by omega,by go_num,_,C4.cast (by rw[Hf _ HD.out];simp only[Xt,Bu,List.append_assoc,List.cons_append,List.nil_append,List.append_nil]),Gr.trans G⟩
   case measure=>simp[intOf];omega
  obtain rfl:k=d.Flight.length:=by omega
  rw[List.take_length] at Cr
  clear hk hlt
  obtain⟨w2,hV⟩:∃V,V=wr:=⟨_,rfl⟩
  subst hV
  have C2:=Cr;clear Cr;have G:=G.trans Gr;clear Gr
  obtain⟨F2,hV⟩:∃V,V=Fr:=⟨_,rfl⟩
  subst hV
  go_wp2_with fail
  refine(Jh (C2.ext Aa) (Ib _ 2 [(d.Cuts.length:Int)] (by simp) _ rfl) (by(try simp only[Qo,Bu,Cx]);omega)).mono ?_
  rintro e w5⟨_,rfl,F5,C5,g⟩
  have g:=Stp.pre (a:=w2) Aa g
  have G:=G.trans g
  have B0:=B0.go g;clear K0 K0l
  clear g
  have K0:=B0.1.cell;have K0l:=B0.1.lt
  go_wp2_with fail
  go_loopw [42] (fun i wr=>∃k:Nat,k<=d.Cuts.length/\i=.int .i64 k/\∃Fr,Cu a X wr Fr ((((xs++[(d.Flight.length:Int)])++d.Flight.flatMap Xt)++[(d.Cuts.length:Int)])++(d.Cuts.take k).flatMap Gf.ints)/\Stp [X] w5 wr F5 Fr) (fun i _=>d.Cuts.length - (intOf i).toNat)
  case atStart=>exact⟨0,Nat.zero_le _,rfl,_,C5.cast (by simp),Stp.refl _ _ _⟩
  case round =>
   obtain⟨k,hk,rfl,Fr,Cr,Gr⟩:=hrel
   have B0:=B0.go Gr;clear K0 K0l
   have K0:=B0.1.cell;have K0l:=B0.1.lt
   by_cases hlt:k<d.Cuts.length
   .
    obtain⟨d9,b1,q1,hd,rfl,hb1,c⟩:=HB.out k hlt
    have d0:=Cr.e.cell (c 0 _ dC rfl)
    have d1:=Cr.e.cell (c 1 _ dC rfl)
    (try simp only[Nat.add_zero] at d0)
    clear c
    have hfm:=Jm Gf.ints hd;have HD:=Lib.hid hd;clear hd
    simp only[Gf.ints,Cx] at hfm
    go_wp2_with fail
    refine(Jh (Cr.ext Aa) (Ib _ 2 [d9.A,d9.B] (by simp) (wr.heap.size+1) (by simp)) (by(try simp only[Qo,Bu,Cx]);omega)).mono ?_
    rintro e w7⟨_,rfl,F7,C7,g⟩
    have g:=Stp.pre (a:=wr) Aa g
    have G:=(Stp.refl [X] wr Fr).trans g
    have B0:=B0.go g;clear K0 K0l
    clear g
    have K0:=B0.1.cell;have K0l:=B0.1.lt
    go_wp2_with fail
    go_roundw
    case rel=>exact⟨k+1,by omega,by go_num,_,C7.cast (by rw[Hf _ HD.out];simp only[Gf.ints,List.append_assoc,List.cons_append,List.nil_append,List.append_nil]),Gr.trans G⟩
    case measure=>simp[intOf];omega
   obtain rfl:k=d.Cuts.length:=by omega
   rw[List.take_length] at Cr
   clear hk hlt
   obtain⟨w6,hV⟩:∃V,V=wr:=⟨_,rfl⟩
   subst hV
   have C6:=Cr;clear Cr;have G:=G.trans Gr;clear Gr
   obtain⟨F6,hV⟩:∃V,V=Fr:=⟨_,rfl⟩
   subst hV
   go_wp2_with fail
   refine bodyPost_end (by simp[results,Tryz.results138,go_sem];try rfl) rfl ?_
   exact⟨_,rfl,_,C6.cast (by simp only[Qo,Bu,List.append_assoc,List.cons_append,List.nil_append,List.append_nil]),Stp.pre E0 G⟩
end Go.Proofs.YtkpmbocbbgocbaaGreat
