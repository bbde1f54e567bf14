/- DC DD HelpI DD2 DD3 OD. -/
import Derived.Test.YtkpmbocbbgocbaaGreatQGj
set_option linter.unusedSimpArgs false
set_option linter.unusedVariables false
set_option maxHeartbeats 8000000
set_option maxRecDepth 100000
namespace Go.Proofs.YtkpmbocbbgocbaaGreat
open Go.RowKit Go.G8
theorem Yu(x:Int):0<=bits .and .i64 x 255/\bits .and .i64 x 255<=255:=by
 have h:(BitVec.ofInt 64 x &&& BitVec.ofInt 64 255).toNat<=255:=by
  rw[BitVec.toNat_and]
  exact Nat.and_le_right
 have e:bits .and .i64 x 255=IntKind.i64.wrap ((BitVec.ofInt 64 x &&& BitVec.ofInt 64 255).toNat:Int):=rfl
 rw[e,IntKind.wrap_i64] <;> omega
theorem Upd.setOne{a b:World}{g:Nat}(h:Upd a b [g])(o:Nat)(u:Value):Upd a (b.setCell ⟨g,o,none⟩ u) [g]:=h.setCell (List.mem_singleton.2 rfl) u
theorem Upd.cell{a b:World}{fs:List Nat}(h:Upd a b fs){k o:Nat}(hk:k<a.heap.size)(hn:k ∉ fs):b.cell? ⟨k,o,none⟩=a.cell? ⟨k,o,none⟩:=World.cell?_of_block (w:=a) (h.block k hk hn)
theorem Blk.upd1{w w':World}{b g:Nat}{t:TypeId}{cs:Array Value}(h:Blk w b t cs)(x:Upd w w' [g])(hn:b≠g):Blk w' b t cs:=h.upd x (fun hm=>hn (List.mem_singleton.1 hm))
theorem Upd.drewNd{a b:World}{fs:List Nat}(h:Upd a b fs)(n:Nat):Upd a (b.drewN n) fs:=h.ext ((Ext.refl _).drewN n)
theorem Upd.drewd1{a b:World}{fs:List Nat}(h:Upd a b fs):Upd a b.drew fs:=h.ext (Ext.drew (Ext.refl _))
theorem Upd.setAt{a b:World}{fs:List Nat}(h:Upd a b fs){k o:Nat}{sp:Option _}(hp:a.heap.size<=k)(u:Value):Upd a (b.setCell ⟨k,o,sp⟩ u) fs:=h.setNew (p:=⟨k,o,sp⟩) hp u
theorem Upd.rowNew{a b:World}{fs:List Nat}(h:Upd a b fs){g:Nat}(hg:a.heap.size<=g)(cs:Array Value):Upd a (b.setRow g cs) fs :=
 ⟨h.os,h.tape,h.output,by rw[Hh];exact h.size,fun k hk hn=>(Gj b cs oM).trans (h.block k hk hn)⟩
theorem iG(l:List Int){n:Nat}(h:n<l.length):∃u:Int,(l.map (Value.int .i64)).toArray[n]?=some (.int .i64 u):=⟨l[n],by simp[h]⟩
theorem Own.footB{B:Nat}{e:TypeId}{n:Nat}{w:World}{v:Value}{cs:List Value}(h:Own B e n w v cs){k:Nat}(hk:k ∈ Be [v]):B<=k:=by
 simp only[Be,List.mem_filterMap] at hk
 obtain⟨u,hu,hf⟩:=hk
 simp at hu;subst hu
 exact(h.lt hf).1
theorem Upd.app{a w w':World}{B:Nat}{e:TypeId}{n:Nat}{v:Value}{cs:List Value}{fs:List Nat}(h:Upd a w fs)(ho:Own B e n w v cs)(hB:(∀k,k ∈ Be [v]->k ∈ fs)\/a.heap.size<=B)(hg:w.grownBy w' v.ownBlock):Upd a w' fs :=
 ⟨hg.os.trans h.os,hg.tape.trans h.tape,hg.output.trans h.output,Nat.le_trans h.size hg.size,fun k hk hn=>by
  refine(hg.block k (Nat.lt_of_lt_of_le hk h.size) (fun e=>?_)).trans (h.block k hk hn)
  rcases hB with hB|hB
  .
   exact hn (hB k (by simp[Be,e.symm]))
  have:=(ho.lt e.symm).1;omega⟩
theorem Own.typed'{B:Nat}{e:TypeId}{n:Nat}{w:World}{v:Value}{cs:List Value}(h:Own B e n w v cs){X:Nat}(hX:v.ownBlock=some X):∃cur,Blk w X e cur:=by
 obtain⟨len,h⟩:=h
 rcases h.2 with⟨h0,_⟩|⟨g,cap,cur,hv,hb,hg,_⟩
 .
  rw[h0] at hX;simp[Value.ownBlock] at hX
 rw[hv] at hX
 simp[Value.ownBlock] at hX
 subst hX
 exact⟨cur,hg⟩
theorem Blk.app{w w':World}{g B:Nat}{t e:TypeId}{n:Nat}{v:Value}{cs:Array Value}{xs:List Value}(h:Blk w g t cs)(ho:Own B e n w v xs)(ht:t≠e)(hg:w.grownBy w' v.ownBlock):Blk w' g t cs:=by
 refine(hg.block g h.lt (fun hh=>?_)).trans h
 obtain⟨cur,hb⟩:=ho.typed' hh.symm
 unfold Blk at h hb
 rw[h] at hb
 injection hb with hb
 injection hb with _ hb
 exact ht hb
theorem Own.app{w w':World}{B B':Nat}{t e:TypeId}{n m:Nat}{v u:Value}{cs xs:List Value}(h:Own B' t m w u cs)(ho:Own B e n w v xs)(ht:t≠e)(hg:w.grownBy w' v.ownBlock):Own B' t m w' u cs:=by
 refine h.kept hg ?_
 cases hu:u.ownBlock with
 | none=>exact .inl rfl
 | some X =>
  refine .inr (fun hh=>?_)
  obtain⟨c1,h1⟩:=h.typed' hu
  obtain⟨c2,h2⟩:=ho.typed' hh.symm
  unfold Blk at h1 h2
  rw[h1] at h2
  injection h2 with h2
  injection h2 with _ h2
  exact ht h2
theorem Af.app{w w':World}{B B':Nat}{t e:TypeId}{n m:Nat}{v u:Value}{cs:List Int}{xs:List Value}(h:Af B' t m w u cs)(ho:Own B e n w v xs)(ht:t≠e)(hg:w.grownBy w' v.ownBlock):Af B' t m w' u cs:=Own.app h ho ht hg
theorem Af.drawn{B:Nat}{e:TypeId}{n:Nat}{w w':World}{v:Value}{xs:List Int}{g:Nat}(h:Af B e n w v xs)(x:Upd w w' [g])(hg:g<B):Af B e n w' v xs :=
 Own.upd h x (fun k hk hm=>by have:=(Own.lt h hk).1;simp at hm;omega)
theorem Af.ext1{B:Nat}{e:TypeId}{n:Nat}{w w':World}{v:Value}{xs:List Int}(h:Af B e n w v xs)(x:Ext w w'):Af B e n w' v xs:=Own.ext h x
theorem Zz{P:Program}{w:World}{ops:Array Oper}{rest:List Oper}{o:Oper}{a:Act}{Q:Exit->Act->World->Prop}(hgd:o.guard=none)(s x:Operand)(t:TypeId)
  (ho:o.op=.call { callee:=.builtin .append,args:=#[s,x],argTypes:=#[t,t] })
  (e:TypeId) (i:TypeInfo) (z:Value) (size bytes:Nat) (ht:P.underlying t=some (.slice e)) (hi:P.info? e=some i) (hz:i.zero=some z)
  (hsize:i.size=size) (hby:i.bytes=bytes) (hzs:z.cells.size=size) (hsz:0<size)
  (B:Nat) (v:Value) (cs:List Int) (hs:a.eval s=v) (hown:Af B e size w v cs) (u:Value) (news:List Int) (hx:a.eval x=u) (hsl:Sl size w u (news.map (.int .i64)))
  (n:Nat) (hlen:cs.length+news.length<=n*size) (hn:n<=4611686018427387904) (hbytes:n*bytes<=140737488355328) (hbase:B<=w.heap.size)
  (h:∀v' w',Af B e size w' v' (cs++news)->w.grownBy w' v.ownBlock->wpList P ops Q rest (a.put o.dst v') w'):wpList P ops Q (o::rest) a w:=by
 have hE:Ext { w with heap:=#[] } w:=⟨rfl,rfl,rfl,Nat.zero_le _,fun k hk=>by simp at hk⟩
 refine Fg hgd s x t ho e i z size bytes ht hi hz hsize hby hzs hsz B v _ hs hown u _ hx hsl (ints_oneCell _ _) n (by simpa using hlen) (by unfold maxLen;omega) hbytes hbase { w with heap:=#[] } hE (Nat.zero_le _) (fun v' w' h1 _ h3=>h v' w' (by simpa[Af] using h1) h3)
theorem Rn{a b:World}{fs:List Nat}(h:Upd a b fs:=by((repeat' (first|(with_reducible exact Upd.refl _ _)|(with_reducible assumption)|(with_reducible refine Upd.drewNd ?_ _)|(with_reducible refine Upd.drewd1 ?_)|(with_reducible refine Upd.alloc ?_ _)|(with_reducible refine Upd.setOne ?_ _ _)|(with_reducible refine Upd.setAt ?_ ?_ _)|(with_reducible refine Upd.rowNew ?_ ?_ _)|(with_reducible refine Upd.trans ?_ (by assumption))|(with_reducible refine Upd.ext ?_ (by assumption))|omega));first|done|fail)):Upd a b fs:=h
theorem Upd.up{w w1 w2:World}{fs:List Nat}(X:Upd w1 w2 fs)(h:Upd w w1 fs:=by exact Rn):Upd w w2 fs:=Upd.trans h X
theorem pR{B:Nat}{e:TypeId}{n:Nat}{w:World}{v:Value}{xs:List Int}(h:Af B e n w v xs:=by((repeat' (first|(with_reducible assumption)|(with_reducible refine Af.ext1 ?_ (Ext.alloc (Ext.refl _) _))|(with_reducible refine Af.ext1 ?_ (Ext.drewN (Ext.refl _) _))|(with_reducible refine Af.ext1 ?_ (Ext.drew (Ext.refl _)))));first|done|fail)):Af B e n w v xs:=h
def Yg(w:World)(v:Value):Prop:=∃bs:List Int,Sl 1 w v (bs.map (.int .u8))/\∀x,x ∈ bs->0<=x/\x<=255
theorem Yg.ext{w w':World}{v:Value}(h:Yg w v)(x:Ext w w'):Yg w' v:=let ⟨bs,h,hb⟩:=h;⟨bs,h.ext x,hb⟩
def Cur(B:Nat)(w:World)(g:Nat):Prop:=∃(a:Option Addr) (n k i:Nat) (h:Int),Blk w g 245 #[.slice a n k,.int .i64 i,.int .i64 h]/\B<=g/\i<=n/\n<=k/\k<=maxLen /\
 ∀j,j<n->∃b off x,a=some ⟨b,off,none⟩/\b<B/\0<=x/\x<=255/\w.cell? ⟨b,off+j,none⟩=some (.int .u8 x)
theorem Cur.lt{B:Nat}{w:World}{g:Nat}(h:Cur B w g):B<=g/\g<w.heap.size:=let ⟨_,_,_,_,_,hk,hB,_⟩:=h;⟨hB,hk.lt⟩
theorem Cur.upd{B:Nat}{w w':World}{g:Nat}{fs:List Nat}(h:Cur B w g)(x:Upd w w' fs)(hg:g ∉ fs)(hB:∀k,k ∈ fs->B<=k):Cur B w' g:=by
 obtain⟨a,n,k,i,e,hk,h0,h1,h2,h3,h4⟩:=h
 refine⟨a,n,k,i,e,hk.upd x hg,h0,h1,h2,h3,fun j hj=>?_⟩
 obtain⟨b,off,y,h5,h6,h7,h8,h9⟩:=h4 j hj
 have:=hk.lt
 exact⟨b,off,y,h5,h6,h7,h8,(x.cell oM (fun hm=>by have:=hB b hm;omega)).trans h9⟩
theorem Cur.ext{B:Nat}{w w':World}{g:Nat}(h:Cur B w g)(x:Ext w w'):Cur B w' g:=h.upd (x.upd []) (by simp) (by simp)
theorem Cur.set_{B:Nat}{w:World}{g:Nat}(h:Cur B w g){X:Nat}(hX:g<X)(o:Nat)(u:Value):Cur B (w.setCell ⟨X,o,none⟩ u) g :=
 h.upd ((Upd.refl w [X]).setOne o u) (by simp;omega) (fun k hk=>by have:=h.lt;simp at hk;omega)
theorem Cur.row{B:Nat}{w:World}{g:Nat}(h:Cur B w g){X:Nat}(hX:g<X)(cs:Array Value):Cur B (w.setRow X cs) g :=
 h.upd (fs:=[X]) ⟨rfl,rfl,rfl,by rw[Hh];exact Nat.le_refl _,fun k _ hn=>Gj w cs (fun e=>hn (by simp[e]))⟩ (by simp;omega) (fun k hk=>by have:=h.lt;simp at hk;omega)
theorem Cur.of{B:Nat}{w w':World}{g n k i':Nat}{a:Option Addr}{h':Int}(X:Upd w w' [g])(hg:g<w.heap.size)(K:Blk w' g 245 #[.slice a n k,.int .i64 i',.int .i64 h'])(h0:B<=g)(h1:i'<=n)(h2:n<=k)(h3:k<=9223372036854775807)
  (h4:∀j,j<n->∃b off x,a=some ⟨b,off,none⟩/\b<B/\0<=x/\x<=255/\w.cell? ⟨b,off+j,none⟩=some (.int .u8 x)):Cur B w' g:=by
 refine⟨a,n,k,i',h',K,h0,h1,h2,by unfold maxLen;omega,fun j hj=>?_⟩
 obtain⟨b,off,y,h5,h6,h7,h8,h9⟩:=h4 j hj
 exact⟨b,off,y,h5,h6,h7,h8,(X.cell oM (by simp;omega)).trans h9⟩
theorem Vn{B:Nat}{w:World}{g:Nat}(h:Cur B w g:=by((repeat' (first|(with_reducible assumption)|(with_reducible refine Cur.set_ ?_ ?_ _ _)|(with_reducible refine Cur.row ?_ ?_ _)|(with_reducible refine Cur.ext ?_ (Ext.drewN (Ext.refl _) _))|(with_reducible refine Cur.ext ?_ (Ext.drew (Ext.refl _)))|(with_reducible refine Cur.ext ?_ (Ext.alloc (Ext.refl _) _))|omega));first|done|fail)):Cur B w g:=h
theorem _root_.Go.Shut.o2{P:Program}{ops:Array Oper}{Q:Exit->Act->World->Prop}{md:Region.Mode}{S:World->Prop}{fuel:Nat}{listed:Array Bool}{a:Act}{w:World}{K':Act->World->Prop}(h:Shut (∀a w,S w->(S w->wpAnyH P md ops Q S fuel listed a w)->K' a w))(k:S w->wpAnyH P md ops Q S fuel listed a w)(hS:S w:=by(try dsimp only);exact⟨(by exact Rn),(by exact Vn)⟩):K' a w:=h.out _ _ hS k
theorem _root_.Go.Shut.o3{P:Program}{ops:Array Oper}{Q:Exit->Act->World->Prop}{md:Region.Mode}{S:World->Prop}{fuel:Nat}{listed:Array Bool}{a:Act}{w:World}{K':Act->World->Prop}(h:Shut (∀a w,S w->(S w->wpAnyH P md ops Q S fuel listed a w)->K' a w))(k:S w->wpAnyH P md ops Q S fuel listed a w)(hS:S w:=by(try dsimp only);exact⟨(by exact Rn),(by exact Vn),(Blk.cast (by exact Bv) mE)⟩):K' a w:=h.out _ _ hS k
theorem _root_.Go.Shut.o4{P:Program}{ops:Array Oper}{Q:Exit->Act->World->Prop}{md:Region.Mode}{S:World->Prop}{fuel:Nat}{listed:Array Bool}{a:Act}{w:World}{K':Act->World->Prop}(h:Shut (∀a w,S w->(S w->wpAnyH P md ops Q S fuel listed a w)->K' a w))(k:S w->wpAnyH P md ops Q S fuel listed a w)(hS:S w:=by(try dsimp only);exact⟨(by exact Rn),(by exact Vn),(Blk.cast (by exact Bv) mE),(Blk.cast (by exact Bv) mE)⟩):K' a w:=h.out _ _ hS k
theorem cU(B:Nat){w:World}{g:Nat}(h:Cur B w g:=by exact Vn):Cur B w g:=h
theorem wh{P:Program}{ops:Array Oper}{Q:Exit->Act->World->Prop}{S:World->Prop}{id:Nat}{a:Act}{w:World}(h:S w.drew->wpAnyH P .any ops Q S ops.size (Array.replicate ops.size false) a w.drew)(hS:S w.drew:=by(try dsimp only);exact⟨(by exact Rn),(by exact Vn)⟩)(hm:P.follows .mixedOrders=true:=by kernel_rfl):(Code.region id ops true).wp P Q a w:=wp_region_held_drew hm hS h
def Dr(B:Nat)(w:World)(g:Nat)(Q:Value->World->Prop)(e:Ending)(w':World):Prop:=∃v,e=.returned v/\Upd w w' [g]/\Cur B w' g/\Q v w'
section
variable {B:Nat} {w:World} {g:Nat}
theorem Cur.app{B0 B g n:Nat}{e:TypeId}{w w':World}{v:Value}{cs:List Value}(h:Cur B0 w g)(ho:Own B e n w v cs)(hB:g<B)(hg:w.grownBy w' v.ownBlock):Cur B0 w' g :=
 h.upd (Upd.app (Upd.refl w _) ho (fs:=Be [v]) (.inl fun _ h=>h) hg) (fun hm=>by have:=ho.footB hm;omega) (fun k hk=>by have:=ho.footB hk;have:=h.lt;omega)
theorem Tg(h:Cur B w g):Calls Tryz.prog 264 #[.pointer (some ⟨g,0,none⟩)] w (Dr B w g fun v _=>∃x:Int,v=.int .i64 x/\0<=x/\x<=255):=by
 have HC:=Lib.hid h
 obtain⟨a,n,k,i,e,hk,h0,h1,h2,h3,h4⟩:=h
 unfold maxLen at h3
 have CK:=hk.cell;have FK:=hk.frozen;have LK:=hk.lt
 have HK:=Lib.hid hk
 clear hk
 by_cases hi:i<n
 .
  obtain⟨b,off,y,rfl,hb,y0,y1,hy⟩:=h4 i hi
  have H4:=Lib.hid h4
  clear h4
  have hbg:b≠g:=by omega
  have hbl:b<w.heap.size:=by omega
  have hyb:decide ((i:Int)<(n:Int))=true:=by simp;omega
  go_enter Tryz.func264,Tryz.ntmps264
  go_wp2_with fail
  go_quiet (fail)
  go_wp2_with fail
  go_quiet (fail)
  go_wp2_with fail
  go_quiet (fail)
  go_wp2_with fail
  go_ret
  refine⟨_,rfl,?_,?_,_,rfl,(Yu _).1,(Yu _).2⟩
  .
   exact Rn
  refine Cur.of (w:=w) (i':=i+1) ?_ LK (by refine Blk.cast (by repeat' (first|(with_reducible exact HK.out)|(with_reducible apply Blk.drewN)|(with_reducible apply Blk.set_))) (by simp;rfl)) h0 oM h2 oM H4.out
  exact Rn
 have hyb:decide ((i:Int)<(n:Int))=false:=by simp;omega
 go_enter Tryz.func264,Tryz.ntmps264
 go_wp2_with fail
 go_quiet (fail)
 go_wp2_with fail
 go_quiet (fail)
 go_wp2_with fail
 go_ret
 refine⟨_,rfl,?_,?_,_,rfl,(Yu _).1,(Yu _).2⟩
 .
  exact Rn
 refine Cur.of (w:=w) (i':=i) ?_ LK (by refine Blk.cast (by repeat' (first|(with_reducible exact HK.out)|(with_reducible apply Blk.drewN)|(with_reducible apply Blk.set_))) (by simp;rfl)) h0 oM h2 oM h4
 exact Rn
theorem Ie(h:Cur B w g)(m:Int):Calls Tryz.prog 163 #[.pointer (some ⟨g,0,none⟩),.int .i64 m] w (Dr B w g fun v _=>∃x:Int,v=.int .i64 x/\0<=x/\(0<m->x<m)/\(m<=0->x=0)):=by
 by_cases h0:m<=0
 .
  go_enter Tryz.func163,Tryz.ntmps163
  go_wp2_with fail
  go_ret
  exact⟨_,rfl,Upd.refl _ _,h,_,rfl,by omega,fun h=>by omega,fun _=>rfl⟩
 have hm:m≠0:=by omega
 by_cases h1:m<=256
 .
  go_enter Tryz.func163,Tryz.ntmps163
  go_wp2_with fail
  refine(Tg h).mono ?_
  rintro e w1⟨_,rfl,X1,h2,x,rfl,x0,x1⟩
  go_wp2_with fail
  go_ret
  exact⟨_,rfl,X1,h2,_,rfl,Int.emod_nonneg _ hm,fun _=>Int.emod_lt_of_pos _ oM,fun h=>by omega⟩
 go_enter Tryz.func163,Tryz.ntmps163
 go_wp2_with fail
 refine(Tg h).mono ?_
 rintro e w1⟨_,rfl,X1,h2,x,rfl,x0,x1⟩
 go_wp2_with fail
 refine(Tg h2).mono ?_
 rintro e w2⟨_,rfl,X2,h3,y,rfl,y0,y1⟩
 go_wp2_with fail
 refine(Tg h3).mono ?_
 rintro e w3⟨_,rfl,X3,h4,z,rfl,z0,z1⟩
 go_wp2_with fail
 refine(Tg h4).mono ?_
 rintro e w4⟨_,rfl,X4,h5,t,rfl,t0,t1⟩
 go_wp2_with fail
 go_ret
 exact⟨_,rfl,((X1.trans X2).trans X3).trans X4,h5,_,rfl,Int.emod_nonneg _ hm,fun _=>Int.emod_lt_of_pos _ oM,fun h=>by omega⟩
theorem aA(h:Cur B w g)(m:Int):Calls Tryz.prog 67 #[.pointer (some ⟨g,0,none⟩),.int .i64 m] w (Dr B w g fun v _=>∃x:Bool,v=.bool x):=by
 go_enter Tryz.func67,Tryz.ntmps67
 go_wp2_with fail
 refine(Ie h m).mono ?_
 rintro e w1⟨_,rfl,X1,h2,x,rfl,x0,x1⟩
 go_wp2_with fail
 go_ret
 exact⟨_,rfl,X1,h2,_,rfl⟩
theorem pS(h:Cur B w g)(lo hi:Int)(h0:-1152921504606846976<=lo)(h1:lo<=hi)(h2:hi<=1152921504606846976):Calls Tryz.prog 68 #[.pointer (some ⟨g,0,none⟩),.int .i64 lo,.int .i64 hi] w (Dr B w g fun v _=>∃x:Int,v=.int .i64 x/\lo<=x/\x<=hi):=by
 have e1:IntKind.i64.wrap (hi - lo)=hi - lo:=by rw[IntKind.wrap_i64];omega
 have e2:IntKind.i64.wrap (hi - lo+1)=hi - lo+1:=by rw[IntKind.wrap_i64];omega
 go_enter Tryz.func68,Tryz.ntmps68
 go_wp2_with fail
 refine(Ie h _).mono ?_
 rintro e w1⟨_,rfl,X1,h3,x,rfl,x0,x1,x2⟩
 have e3:IntKind.i64.wrap (lo+x)=lo+x:=by rw[IntKind.wrap_i64];omega
 go_wp2_with fail
 go_ret
 exact⟨_,rfl,X1,h3,_,rfl,by omega,by omega⟩
theorem sY(x y:Int):Calls Tryz.prog 166 #[.int .i64 x,.int .i64 y] w (fun e w'=>e=.returned (.int .i64 (min x y))/\w=w'):=by
 go_enter Tryz.func166,Tryz.ntmps166
 go_wp2_with fail
 all_goals
  go_ret
  exact⟨congrArg (fun z=>Ending.returned (Value.int .i64 z)) oM,rfl⟩
theorem sZ(h:Cur B w g):Calls Tryz.prog 165 #[.pointer (some ⟨g,0,none⟩)] w (Dr B w g fun v _=>∃x:Int,v=.int .i64 x):=by
 go_enter Tryz.func165,Tryz.ntmps165
 go_wp2_with fail
 refine(Ie (h.ext xT) 10).mono ?_
 rintro e w1⟨_,rfl,X1,h2,x,rfl,x0,x1,_⟩
 obtain⟨u,hu⟩:∃u:Int,w1.cell? ⟨w.heap.size,x.toNat,none⟩=some (.int .i64 u):=by
  rw[((Blk.new w _ _).upd1 X1 (by have:=h.lt;omega)).cell]
  have:x.toNat<10:=by omega
  exact iG [-1,0,1,2147483648,-2147483648,1099511627776,4611686018427387904,-4611686018427387904,9223372036854775807,-9223372036854775808] this
 go_wp2_with fail
 go_ret
 exact⟨_,rfl,by exact Rn,h2,_,rfl⟩
end
theorem tA{B:Nat}{w:World}{g:Nat}(h:Cur B w g)(m:Int)(h0:0<=m)(h1:m<=1152921504606846976):Calls Tryz.prog 69 #[.pointer (some ⟨g,0,none⟩),.int .i64 m] w (Dr B w g fun v w'=>∃x:Int,v=.int .i64 x):=by
 have hc0:=h;have E0:Upd w w [g]:=Upd.refl _ _
 have hg0:=h.lt
 go_enter Tryz.func69,Tryz.ntmps69
 have e1:IntKind.i64.wrap (m+1)=m+1:=by rw[IntKind.wrap_i64];omega
 go_wp2_with fail
 refine(aA (cU B) 10).mono ?_
 rintro e w1⟨_,rfl,X1,hc1,b1,rfl⟩
 have hz1:=X1.sz
 have E1:Upd w w1 [g]:=X1.up
 clear X1
 cases b1
 rotate_left
 .
  go_wp2_with fail
  refine(sZ (cU B)).mono ?_
  rintro e w2⟨_,rfl,X2,hc2,o1,rfl⟩
  have hz2:=X2.sz
  have E2:Upd w w2 [g]:=X2.up
  clear X2
  go_wp2_with fail
  refine(Ie (cU B) 4).mono ?_
  rintro e w3⟨_,rfl,X3,hc3,x1i,rfl,px1,qx1,rx1⟩
  have hz3:=X3.sz
  have E3:Upd w w3 [g]:=X3.up
  have KPk3:Blk w3 w2.heap.size 2 #[.int .i64 (-1),.int .i64 m,.int .i64 (m+1),.int .i64 o1]:=bU X3
  clear X3
  obtain⟨CPk3,FPk3,LPk3⟩:=KPk3.cfl
  have qx1:=qx1 dC;clear rx1
  obtain⟨x1,hx1⟩:∃u:Int,w3.cell? ⟨w2.heap.size,x1i.toNat,none⟩=some (.int .i64 u):=by
   rw[KPk3.cell]
   have:x1i.toNat<4:=by omega
   exact iG [-1,m,(m+1),o1] this
  clear CPk3
  go_wp2_with fail
  go_ret
  exact⟨_,rfl,by exact Rn,by exact Vn,_,rfl⟩
 go_wp2_with fail
 refine(aA (cU B) 2).mono ?_
 rintro e w2⟨_,rfl,X2,hc2,b2,rfl⟩
 have hz2:=X2.sz
 have E2:Upd w w2 [g]:=X2.up
 clear X2
 cases b2
 rotate_left
 .
  go_wp2_with fail
  refine(sY _ _).mono ?_
  rintro e9 w9⟨rfl,rfl⟩
  have e2:IntKind.i64.wrap (min m 4+1)=min m 4+1:=by rw[IntKind.wrap_i64];omega
  go_wp2_with fail
  refine(Ie (cU B) _).mono ?_
  rintro e w3⟨_,rfl,X3,hc3,x2,rfl,px2,qx2,rx2⟩
  have hz3:=X3.sz
  have E3:Upd w w3 [g]:=X3.up
  clear X3
  go_wp2_with fail
  go_ret
  exact⟨_,rfl,by exact Rn,by exact Vn,_,rfl⟩
 go_wp2_with fail
 refine(Ie (cU B) _).mono ?_
 rintro e w3⟨_,rfl,X3,hc3,x2,rfl,px2,qx2,rx2⟩
 have hz3:=X3.sz
 have E3:Upd w w3 [g]:=X3.up
 clear X3
 go_wp2_with fail
 go_ret
 exact⟨_,rfl,by exact Rn,by exact Vn,_,rfl⟩
theorem Nu:Kd []=true:=Om (by simp[Pf])
theorem Aj.sl{n:Nat}{w:World}{v:Value}{xs:List Int}(h:Aj n w v xs):Sl n w v (xs.map (.int .i64)):=h
end Go.Proofs.YtkpmbocbbgocbaaGreat
