/- HelpA V1 S1 HelpC HelpD HelpE HelpF HelpG S4. -/
import Derived.Test.YtkpmbocbbgocbaaGreatQGa
set_option linter.unusedSimpArgs false
set_option linter.unusedVariables false
set_option maxHeartbeats 8000000
set_option maxRecDepth 100000
namespace Go.Proofs.YtkpmbocbbgocbaaGreat
open Go.RowKit Go.G8
theorem Ec:(Tryz.prog.info? 2).map (fun i=>(i.zero,i.size,i.bytes))=some (some (.int .i64 0),1,8):=by kernel_rfl
theorem Dv(w:World)(x lo hi:Int):Calls Tryz.prog 303 #[.int .i64 x,.int .i64 lo,.int .i64 hi] w fun e w'=>e=.returned (.bool (inb x lo hi))/\w=w':=by
 by_cases h1:lo<=x
 .
  by_cases h2:x<=hi
  .
   rw[dS h1 h2]
   go_enter Tryz.func303,Tryz.ntmps303
   go_wp2
   go_ret
   exact⟨rfl,rfl⟩
  rw[pB oM]
  go_enter Tryz.func303,Tryz.ntmps303
  go_wp2
  go_ret
  exact⟨rfl,rfl⟩
 rw[pA oM]
 go_enter Tryz.func303,Tryz.ntmps303
 go_wp2
 go_ret
 exact⟨rfl,rfl⟩
theorem Cf(w:World)(x lo hi:Int):Calls Tryz.prog 176 #[.int .i64 x,.int .i64 lo,.int .i64 hi] w fun e w'=>e=.returned (.bool (inb x lo hi))/\w=w':=by
 by_cases h1:lo<=x
 .
  by_cases h2:x<=hi
  .
   rw[dS h1 h2]
   go_enter Tryz.func176,Tryz.ntmps176
   go_wp2
   go_ret
   exact⟨rfl,rfl⟩
  rw[pB oM]
  go_enter Tryz.func176,Tryz.ntmps176
  go_wp2
  go_ret
  exact⟨rfl,rfl⟩
 rw[pA oM]
 go_enter Tryz.func176,Tryz.ntmps176
 go_wp2
 go_ret
 exact⟨rfl,rfl⟩
theorem Fh(w:World)(x:Int):Calls Tryz.prog 207 #[.int .i64 x] w fun e w'=>e=.returned (.bool (Ea x))/\w=w':=by
 go_enter Tryz.func207,Tryz.ntmps207
 go_wp2_with (first|(go_at_call 303;refine(Dv _ _ _ _).mono ?_;rintro e w1 ⟨rfl,rfl⟩))
 go_ret
 exact⟨rfl,rfl⟩
theorem dV(w:World)(a b:Hu):Calls Tryz.prog 427 #[.agg #[.int .i64 a.Id,.int .i64 a.Due],.agg #[.int .i64 b.Id,.int .i64 b.Due]] w (Cp w (.bool (Jp a b))):=by
 by_cases h1:a.Due<b.Due
 .
  rw[Yx h1]
  go_enter Tryz.func427,Tryz.ntmps427
  go_wp2
  go_ret
  exact⟨rfl,by repeat (with_reducible (first|exact Ext.refl _|refine Ext.alloc ?_ _))⟩
 by_cases h2:a.Due=b.Due
 .
  have h2':(a.Due == b.Due)=true:=by simpa using h2
  by_cases h3:a.Id<b.Id
  .
   rw[Yy h2 h3]
   clear h2
   go_enter Tryz.func427,Tryz.ntmps427
   go_wp2
   go_ret
   exact⟨rfl,by repeat (with_reducible (first|exact Ext.refl _|refine Ext.alloc ?_ _))⟩
  rw[Za h2 h3]
  clear h2
  go_enter Tryz.func427,Tryz.ntmps427
  go_wp2
  go_ret
  exact⟨rfl,by repeat (with_reducible (first|exact Ext.refl _|refine Ext.alloc ?_ _))⟩
 have h2':(a.Due == b.Due)=false:=by simpa using h2
 rw[Yz h1 h2]
 clear h2
 go_enter Tryz.func427,Tryz.ntmps427
 go_wp2
 go_ret
 exact⟨rfl,by repeat (with_reducible (first|exact Ext.refl _|refine Ext.alloc ?_ _))⟩
theorem nC(w:World)(a b:Hu):Calls Tryz.prog 426 #[.agg #[.int .i64 a.Id,.int .i64 a.Due],.agg #[.int .i64 b.Id,.int .i64 b.Due]] w (Cp w (.bool (Jp a b))):=by
 by_cases h1:a.Due<b.Due
 .
  rw[Yx h1]
  go_enter Tryz.func426,Tryz.ntmps426
  go_wp2
  go_ret
  exact⟨rfl,by repeat (with_reducible (first|exact Ext.refl _|refine Ext.alloc ?_ _))⟩
 by_cases h2:a.Due=b.Due
 .
  have h2':(a.Due == b.Due)=true:=by simpa using h2
  by_cases h3:a.Id<b.Id
  .
   rw[Yy h2 h3]
   clear h2
   go_enter Tryz.func426,Tryz.ntmps426
   go_wp2
   go_ret
   exact⟨rfl,by repeat (with_reducible (first|exact Ext.refl _|refine Ext.alloc ?_ _))⟩
  rw[Za h2 h3]
  clear h2
  go_enter Tryz.func426,Tryz.ntmps426
  go_wp2
  go_ret
  exact⟨rfl,by repeat (with_reducible (first|exact Ext.refl _|refine Ext.alloc ?_ _))⟩
 have h2':(a.Due == b.Due)=false:=by simpa using h2
 rw[Yz h1 h2]
 clear h2
 go_enter Tryz.func426,Tryz.ntmps426
 go_wp2
 go_ret
 exact⟨rfl,by repeat (with_reducible (first|exact Ext.refl _|refine Ext.alloc ?_ _))⟩
theorem dW(w:World)(x:Int):Calls Tryz.prog 391 #[.int .i64 x] w fun e w'=>e=.returned (.bool (Te x))/\w=w':=by
 go_enter Tryz.func391,Tryz.ntmps391
 go_wp2_with (first|(go_at_call 303;refine(Dv _ _ _ _).mono ?_;rintro e w1 ⟨rfl,rfl⟩))
 go_ret
 exact⟨rfl,rfl⟩
theorem Ey(w:World)(x:Int):Calls Tryz.prog 177 #[.int .i64 x] w fun e w'=>e=.returned (.bool (Ea x))/\w=w':=by
 go_enter Tryz.func177,Tryz.ntmps177
 go_wp2_with (first|(go_at_call 176;refine(Cf _ _ _ _).mono ?_;rintro e w1 ⟨rfl,rfl⟩))
 go_ret
 exact⟨rfl,rfl⟩
theorem Vg(w:World)(x:Int):Calls Tryz.prog 347 #[.int .i64 x] w fun e w'=>e=.returned (.bool (Te x))/\w=w':=by
 go_enter Tryz.func347,Tryz.ntmps347
 go_wp2_with (first|(go_at_call 176;refine(Cf _ _ _ _).mono ?_;rintro e w1 ⟨rfl,rfl⟩))
 go_ret
 exact⟨rfl,rfl⟩
def Ac(l:List (List Int)):List Gn:=l.map (fun r=>([],r))
def Ah(l:List Eb):List Gn:=l.map (fun d=>([d.At],d.Row))
def Ji(l:List Qs):List Gn:=l.map (fun d=>([d.From,d.To],d.Row))
def Ik(r:List Int):Bool:=decide (r.length<=48)&&r.all (fun x=>inb x 0 1000000000)
def Ko(n:Nat)(w:Eb):Bool:=inb w.At 0 (n - 1)&&Ik w.Row
def Fu(d:Ez):Bool:=decide (1<=d.Kept.length/\d.Kept.length<=40/\d.Wait.length<=60)&&(d.Kept.all Ik&&d.Wait.all (Ko d.Kept.length))
def Mk(d:Ez):Bool:=Fu d&&decide (d.Kept.length=8)
theorem Ld{α:Type}{p:α->Bool}{l:List α}{k:Nat}{d:α}(h:l[k]?=some d)(h1:(l.take k).all p=true)(h2:p d=true):(l.take (k+1)).all p=true:=by
 rw[List.take_add_one,h,List.all_append,h1];simp[h2]
theorem Nc{α:Type}{p:α->Bool}{l:List α}{k:Nat}{d:α}(h:l[k]?=some d)(h2:p d=false):l.all p=false:=by
 rw[Bool.eq_false_iff];intro hh
 rw[List.all_eq_true] at hh
 have:=hh d (List.mem_of_getElem? h)
 rw[h2] at this;cases this
theorem Aj.one{w:World}{v:Value}{l:List Int}(h:Aj 1 w v l):∃a cap,v=.slice a l.length cap/\l.length<=cap/\cap<=maxLen /\
  ∀i,i<l.length->∃x b off,l[i]?=some x/\a=some ⟨b,off,none⟩/\b<w.heap.size/\w.cell? ⟨b,off+i,none⟩=some (.int .i64 x):=by
 obtain⟨a,len,cap,rfl,hl,h1,h2,h3⟩:=h.open_
 obtain rfl:l.length=len:=by omega
 refine⟨a,cap,rfl,h1,h2,fun i hi=>?_⟩
 obtain⟨b,off,ha,hb,hc⟩:=h3 i hi
 obtain⟨x,hx,hcell⟩:=hc 0 oM
 simp only[Nat.mul_one,Nat.add_zero] at hx hcell
 exact⟨x,b,off,hx,ha,hb,hcell⟩
theorem Qc(w:World)(Dl:Value)(Ad:List Int)(Dk:Aj 1 w Dl Ad):Calls Tryz.prog 325 #[Dl] w (Cp w (.bool (Ik Ad))):=by
 obtain⟨a,cap,rfl,hcap,hm,ha⟩:=Dk.one
 have HA:=Lib.hid ha
 clear ha
 unfold maxLen at hm
 by_cases h48:Ad.length<=48
 .
  go_enter Tryz.func325,Tryz.ntmps325
  go_wp2
  go_loopw [3] (fun i wr=>∃k:Nat,k<=Ad.length/\i=.int .i64 k/\Ext w wr/\Hid ((Ad.take k).all (fun x=>inb x 0 1000000000)=true)) (fun i _=>Ad.length - (intOf i).toNat)
  case atStart=>exact⟨0,Nat.zero_le _,rfl,Ext.refl _,Lib.hid (by simp)⟩
  case round =>
   obtain⟨k,hk,rfl,he,hp⟩:=hrel
   by_cases hlt:k<Ad.length
   .
    obtain⟨x,b1,o1,hx,rfl,_,c⟩:=HA.out k hlt
    have d0:=he.cell c
    have HX:=Lib.hid hx
    clear hx c
    cases hb:inb x 0 1000000000
    .
     go_wp2_with (first|(go_at_call 303;refine(Dv _ _ _ _).mono ?_;rintro e w1 ⟨rfl,rfl⟩))
     go_ret
     exact⟨by rw[Ik,Nc HX.out (p:=fun x=>inb x 0 1000000000) hb];simp,he⟩
    go_wp2_with (first|(go_at_call 303;refine(Dv _ _ _ _).mono ?_;rintro e w1 ⟨rfl,rfl⟩))
    go_roundw
    case rel=>exact⟨k+1,by omega,by go_num,he,Lib.hid (Ld HX.out hp.out hb)⟩
    case measure=>simp[intOf];omega
   obtain rfl:k=Ad.length:=by omega
   go_wp2
   go_ret
   have hp':=hp.out
   rw[List.take_length] at hp'
   exact⟨by rw[Ik,hp'];simp[h48],he⟩
 go_enter Tryz.func325,Tryz.ntmps325
 go_wp2
 go_ret
 exact⟨by rw[Ik];simp[h48],Ext.refl _⟩
theorem Qv(w:World)(Dl:Value)(Ad:List Int)(Dk:Aj 1 w Dl Ad):Calls Tryz.prog 276 #[Dl] w (Cp w (.bool (Ik Ad))):=by
 obtain⟨a,cap,rfl,hcap,hm,ha⟩:=Dk.one
 have HA:=Lib.hid ha
 clear ha
 unfold maxLen at hm
 by_cases h48:Ad.length<=48
 .
  go_enter Tryz.func276,Tryz.ntmps276
  go_wp2
  go_loopw [10] (fun i wr=>∃k:Nat,k<=Ad.length/\i=.int .i64 k/\Ext w wr/\Hid ((Ad.take k).all (fun x=>inb x 0 1000000000)=true)) (fun i _=>Ad.length - (intOf i).toNat)
  case atStart=>exact⟨0,Nat.zero_le _,rfl,Ext.refl _,Lib.hid (by simp)⟩
  case round =>
   obtain⟨k,hk,rfl,he,hp⟩:=hrel
   by_cases hlt:k<Ad.length
   .
    obtain⟨x,b1,o1,hx,rfl,_,c⟩:=HA.out k hlt
    have d0:=he.cell c
    have HX:=Lib.hid hx
    clear hx c
    cases hb:inb x 0 1000000000
    .
     go_wp2_with (first|(go_at_call 176;refine(Cf _ _ _ _).mono ?_;rintro e w1 ⟨rfl,rfl⟩))
     go_ret
     exact⟨by rw[Ik,Nc HX.out (p:=fun x=>inb x 0 1000000000) hb];simp,he⟩
    go_wp2_with (first|(go_at_call 176;refine(Cf _ _ _ _).mono ?_;rintro e w1 ⟨rfl,rfl⟩))
    go_roundw
    case rel=>exact⟨k+1,by omega,by go_num,he,Lib.hid (Ld HX.out hp.out hb)⟩
    case measure=>simp[intOf];omega
   obtain rfl:k=Ad.length:=by omega
   go_wp2
   go_ret
   have hp':=hp.out
   rw[List.take_length] at hp'
   exact⟨by rw[Ik,hp'];simp[h48],he⟩
 go_enter Tryz.func276,Tryz.ntmps276
 go_wp2
 go_ret
 exact⟨by rw[Ik];simp[h48],Ext.refl _⟩
theorem mG(w:World)(Dl:Value)(Ad:List (List Int))(Fe:Value)(Am:List Eb)(Ew:Int)(Dk:Ck 0 w Dl (Ac Ad))(Ev:Ck 1 w Fe (Ah Am)):Calls Tryz.prog 387 #[.agg #[Dl,Fe],.int .i64 Ew] w (Cp w (.bool (inb Ew 0 ((⟨Ad,Am⟩:Ez).Kept.length - 1)))):=by
 obtain⟨a0,cap0,rfl,hc0,hm0,-⟩:=Dk.open_
 obtain⟨a1,n1,c1,rfl⟩:=Ev.shape
 unfold maxLen at hm0
 have hl:(Ac Ad).length=Ad.length:=by simp[Ac]
 rw[hl] at hc0 ⊢
 clear hl
 go_enter Tryz.func387,Tryz.ntmps387
 go_wp2_with (first|(go_at_call 303;refine(Dv _ _ _ _  ).mono ?_;rintro e wa ⟨rfl,rfl⟩))
 go_ret
 refine⟨rfl,?_⟩
 exact xT
theorem Ry(w:World)(Dl:Value)(Ad:List (List Int))(Fe:Value)(Am:List Eb)(Ew:Int)(Dk:Ck 0 w Dl (Ac Ad))(Ev:Ck 1 w Fe (Ah Am)):Calls Tryz.prog 292 #[.agg #[Dl,Fe],.int .i64 Ew] w (Cp w (.bool (inb Ew 0 ((⟨Ad,Am⟩:Ez).Kept.length - 1)))):=by
 obtain⟨a0,cap0,rfl,hc0,hm0,-⟩:=Dk.open_
 obtain⟨a1,n1,c1,rfl⟩:=Ev.shape
 unfold maxLen at hm0
 have hl:(Ac Ad).length=Ad.length:=by simp[Ac]
 rw[hl] at hc0 ⊢
 clear hl
 go_enter Tryz.func292,Tryz.ntmps292
 go_wp2_with (first|(go_at_call 176;refine(Cf _ _ _ _  ).mono ?_;rintro e wa ⟨rfl,rfl⟩))
 go_ret
 refine⟨rfl,?_⟩
 exact xT
theorem sP{l:List (List Int)}{k:Nat}{r:Gn}(h:(Ac l)[k]?=some r):l[k]?=some r.2:=by
 simp only[Ac,List.getElem?_map,Option.map_eq_some_iff] at h
 obtain⟨x,hx,rfl⟩:=h
 exact hx
theorem pD{l:List Eb}{k:Nat}{r:Gn}(h:(Ah l)[k]?=some r):∃d,l[k]?=some d/\r=([d.At],d.Row):=by
 simp only[Ah,List.getElem?_map,Option.map_eq_some_iff] at h
 obtain⟨x,hx,rfl⟩:=h
 exact⟨x,hx,rfl⟩
theorem Ck.rows{w:World}{v:Value}{l:List (List Int)}(h:Ck 0 w v (Ac l)):∃a cap,v=.slice a l.length cap/\l.length<=cap/\cap<=maxLen /\
  ∀i,i<l.length->∃r b off sa sn sc,l[i]?=some r/\a=some ⟨b,off,none⟩/\b<w.heap.size/\w.cell? ⟨b,off+i,none⟩=some (.slice sa sn sc)/\Aj 1 w (.slice sa sn sc) r:=by
 obtain⟨a,cap,rfl,h1,h2,h3⟩:=h.open_
 have hl:(Ac l).length=l.length:=by simp[Ac]
 rw[hl] at h1 h3 ⊢
 refine⟨a,cap,rfl,h1,h2,fun i hi=>?_⟩
 obtain⟨r,b,off,s,hr,ha,hb,_,hc,hin⟩:=h3 i hi
 obtain⟨sa,sn,sc,rfl⟩:=hin.shape
 exact⟨r.2,b,off,sa,sn,sc,sP hr,ha,hb,by simpa using hc,hin⟩
theorem Ck.writes{w:World}{v:Value}{l:List Eb}(h:Ck 1 w v (Ah l)):∃a cap,v=.slice a l.length cap/\l.length<=cap/\cap<=maxLen /\
  ∀i,i<l.length->∃d b off sa sn sc,l[i]?=some d/\a=some ⟨b,off,none⟩/\b<w.heap.size/\w.cell? ⟨b,off+i*2,none⟩=some (.int .i64 d.At)/\w.cell? ⟨b,off+i*2+1,none⟩=some (.slice sa sn sc)/\Aj 1 w (.slice sa sn sc) d.Row:=by
 obtain⟨a,cap,rfl,h1,h2,h3⟩:=h.open_
 have hl:(Ah l).length=l.length:=by simp[Ah]
 rw[hl] at h1 h3 ⊢
 refine⟨a,cap,rfl,h1,h2,fun i hi=>?_⟩
 obtain⟨r,b,off,s,hr,ha,hb,hci,hc,hin⟩:=h3 i hi
 obtain⟨d,hd,rfl⟩:=pD hr
 obtain⟨sa,sn,sc,rfl⟩:=hin.shape
 have h0:=hci 0 d.At rfl
 simp only[Nat.add_zero,Nat.reduceAdd] at h0 hc
 exact⟨d,b,off,sa,sn,sc,hd,ha,hb,h0,hc,hin⟩
theorem Ol:(Tryz.prog.info? 62).map (fun i=>(i.zero,i.size,i.bytes))=some (some (.slice none 0 0),1,24):=by kernel_rfl
theorem Rz:(Tryz.prog.info? 312).map (fun i=>(i.zero,i.size,i.bytes))=some (some (.agg #[.int .i64 0,.slice none 0 0]),2,32):=by kernel_rfl
def Gb(n:Int):Ez:=if inb n 1 40 then⟨List.replicate n.toNat [],[]⟩ else⟨[],[]⟩
theorem Zm(n:Nat):Je (Ac (List.replicate n [])) (List.replicate n (.slice none 0 0))=List.replicate n (.slice none 0 0):=by
 induction n with
 | zero=>rfl
 | succ n ih =>
  simp only[List.replicate_succ,Ac,Je,List.map_cons,List.zip_cons_cons,List.flatMap_cons] at ih ⊢
  rw[ih]
  simp[Ly]
theorem Bi.nil(B:Nat)(e e1:TypeId)(n:Nat)(w:World):Bi B e e1 n w (.slice none 0 0) [] [] :=
 ⟨fun r h=>by simp at h,rfl,⟨0,by simp[Je],.inl ⟨rfl,rfl⟩⟩,⟨fun i s r h=>by simp at h,fun i j s t k _ h=>by simp at h,fun i s k h=>by simp at h⟩⟩
theorem Bi.made(w:World)(e e1:TypeId)(n:Nat)(hn:n<=40):Bi w.heap.size e e1 0 (w.alloc (.cells (madeCells #[.slice none 0 0] n) e)) (.slice (some ⟨w.heap.size,0,none⟩) n n) (Ac (List.replicate n [])) (List.replicate n (.slice none 0 0)):=by
 have hrep:∀(i:Nat) (s:Value),(List.replicate n (Value.slice none 0 0))[i]?=some s->s=.slice none 0 0:=by
  intro i s h
  exact List.eq_of_mem_replicate (List.mem_of_getElem? h)
 have hft:∀k,k ∈ Be [Value.slice none 0 0]->False:=by simp[Be,Value.ownBlock]
 refine⟨fun r h=>by simp[Ac] at h;simp[h],by simp[Ac],Own.of_blk (cap:=n) (Blk.new _ _ _) (Nat.le_refl _) (by simp[size_madeCells]) (by rw[Zm];simp) (Nat.le_refl _) (by unfold maxLen;omega) ?_,⟨fun i s r h1 h2=>?_,fun i j s t k _ h1 h2 h3=>?_,fun i s k h1 h3=>?_⟩⟩
 .
  rw[Zm]
  intro j hj
  have hj':j<n:=by omega
  simp[madeCells,hj',Nat.mod_one]
 .
  rw[hrep i s h1]
  have:r.2=[]:=by
   have:=List.mem_of_getElem? h2
   simp[Ac] at this
   simp[this]
  rw[this]
  exact Af.nil _ _ _ _
 .
  rw[hrep i s h1] at h3;exact(hft k h3).elim
 rw[hrep i s h1] at h3;exact(hft k h3).elim
theorem Bi.made1(w:World)(o:Obj)(e e1:TypeId)(n:Nat)(hn:n<=40):Bi (w.heap.size+1) e e1 0 ((w.alloc o).alloc (.cells (madeCells #[.slice none 0 0] n) e)) (.slice (some ⟨w.heap.size+1,0,none⟩) n n) (Ac (List.replicate n [])) (List.replicate n (.slice none 0 0)):=by
 have:=Bi.made (w.alloc o) e e1 n hn
 rwa [World.size_alloc] at this
def Ee(B:Nat)(w:World)(v:Value)(d:Ez):Prop:=∃t0 t1:Value,∃ss0 ss1:List Value,v=.agg #[t0,t1]/\Bi B 62 2 0 w t0 (Ac d.Kept) ss0/\Bi B 312 2 1 w t1 (Ah d.Wait) ss1/\(∀k,k ∈ Be (t0::ss0)->k ∈ Be (t1::ss1)->False)
theorem Vh(w:World)(n:Int):Calls Tryz.prog 275 #[.int .i64 n] w (Ret w fun v w'=>Ee w.heap.size w' v (Gb n)):=by
 cases hb:inb n 1 40
 .
  go_enter Tryz.func275,Tryz.ntmps275
  go_wp2_with (first|(go_at_call 303;refine(Dv _ _ _ _).mono ?_;rintro e w1 ⟨rfl,rfl⟩))
  refine bodyPost_ret (by simp[results,Tryz.results275,go_sem, *];try rfl) rfl ?_
  refine⟨_,rfl,xT,_,_,[],[],rfl,?_,?_,by simp[Be,Value.ownBlock]⟩
  .
   rw[show Gb n=⟨[],[]⟩ by simp[Gb,hb]];exact Bi.nil _ _ _ _ _
  rw[show Gb n=⟨[],[]⟩ by simp[Gb,hb]];exact Bi.nil _ _ _ _ _
 obtain⟨h1,h2⟩:=Dz.1 hb
 obtain⟨m,rfl⟩:=Int.eq_ofNat_of_zero_le (show 0<=n by omega)
 obtain⟨i0,hi,hz0,hz1,hz2⟩:=info_parts Ol
 have hmk:=fun W=>run_make (P:=Tryz.prog) W 22 62 i0 _ Tryz.underlying22 hi hz0 .i64 .i64 m m oM oM (by rw[hz2];omega) oM
 simp only[Int.toNat_natCast] at hmk
 go_enter Tryz.func275,Tryz.ntmps275
 go_wp2_with (first|(go_at_call 303;refine(Dv _ _ _ _).mono ?_;rintro e w1 ⟨rfl,rfl⟩))
 clear hmk
 refine bodyPost_ret (by simp[results,Tryz.results275,go_sem, *];try rfl) rfl ?_
 refine⟨_,rfl,xT,_,_,List.replicate m (.slice none 0 0),[],rfl,?_,?_,by simp[Be,Value.ownBlock]⟩
 .
  rw[show Gb (m:Int)=⟨List.replicate m [],[]⟩ by simp[Gb,hb]]
  exact(Bi.made1 w _ 62 2 m oM).mono oM
 rw[show Gb (m:Int)=⟨List.replicate m [],[]⟩ by simp[Gb,hb]];exact Bi.nil _ _ _ _ _
theorem gQ(w:World):Calls Tryz.prog 174 #[] w (Ret w fun v w'=>Ee w.heap.size w' v (Gb 8)):=by
 go_enter Tryz.func174,Tryz.ntmps174
 go_wp2_with fail
 refine(Vh _ 8).mono ?_
 rintro e w1⟨_,rfl,hx1,t0,t1,ss0,ss1,rfl,g0,g1,hd⟩
 obtain⟨a0,n0,k0,rfl⟩:=g0.nest.shape
 obtain⟨a1,n1,k1,rfl⟩:=g1.nest.shape
 obtain⟨hc1,hf1⟩:=hx1.cells
 have hz1:=hx1.size
 simp only[World.size_alloc] at hc1 hf1 hz1 g0 g1
 have hy:w.heap.size<w1.heap.size:=by omega
 go_wp2
 refine bodyPost_ret (by simp[results,Tryz.results174,go_sem, *];try rfl) rfl ?_
 clear hc1 hf1
 refine⟨_,rfl,xT,_,_,ss0,ss1,rfl,(Bi.keep g0 Hx).mono (by simp),(Bi.keep g1 Hx).mono (by simp),hd⟩
theorem Xd(w:World)(n:Int):Calls Tryz.prog 270 #[.int .i64 n] w (Ret w fun v w'=>Ee w.heap.size w' v (Gb n)):=by
 cases hb:inb n 1 40
 .
  go_enter Tryz.func270,Tryz.ntmps270
  go_wp2_with (first|(go_at_call 176;refine(Cf _ _ _ _).mono ?_;rintro e w1 ⟨rfl,rfl⟩))
  refine bodyPost_ret (by simp[results,Tryz.results270,go_sem, *];try rfl) rfl ?_
  refine⟨_,rfl,xT,_,_,[],[],rfl,?_,?_,by simp[Be,Value.ownBlock]⟩
  .
   rw[show Gb n=⟨[],[]⟩ by simp[Gb,hb]];exact Bi.nil _ _ _ _ _
  rw[show Gb n=⟨[],[]⟩ by simp[Gb,hb]];exact Bi.nil _ _ _ _ _
 obtain⟨h1,h2⟩:=Dz.1 hb
 obtain⟨m,rfl⟩:=Int.eq_ofNat_of_zero_le (show 0<=n by omega)
 obtain⟨i0,hi,hz0,hz1,hz2⟩:=info_parts Ol
 have hmk:=fun W=>run_make (P:=Tryz.prog) W 22 62 i0 _ Tryz.underlying22 hi hz0 .i64 .i64 m m oM oM (by rw[hz2];omega) oM
 simp only[Int.toNat_natCast] at hmk
 go_enter Tryz.func270,Tryz.ntmps270
 go_wp2_with (first|(go_at_call 176;refine(Cf _ _ _ _).mono ?_;rintro e w1 ⟨rfl,rfl⟩))
 clear hmk
 refine bodyPost_ret (by simp[results,Tryz.results270,go_sem, *];try rfl) rfl ?_
 refine⟨_,rfl,xT,_,_,List.replicate m (.slice none 0 0),[],rfl,?_,?_,by simp[Be,Value.ownBlock]⟩
 .
  rw[show Gb (m:Int)=⟨List.replicate m [],[]⟩ by simp[Gb,hb]]
  exact(Bi.made1 w _ 62 2 m oM).mono oM
 rw[show Gb (m:Int)=⟨List.replicate m [],[]⟩ by simp[Gb,hb]];exact Bi.nil _ _ _ _ _
theorem jT(w:World):Calls Tryz.prog 169 #[] w (Ret w fun v w'=>Ee w.heap.size w' v (Gb 8)):=by
 go_enter Tryz.func169,Tryz.ntmps169
 go_wp2_with fail
 refine(Xd _ 8).mono ?_
 rintro e w1⟨_,rfl,hx1,t0,t1,ss0,ss1,rfl,g0,g1,hd⟩
 obtain⟨a0,n0,k0,rfl⟩:=g0.nest.shape
 obtain⟨a1,n1,k1,rfl⟩:=g1.nest.shape
 obtain⟨hc1,hf1⟩:=hx1.cells
 have hz1:=hx1.size
 simp only[World.size_alloc] at hc1 hf1 hz1 g0 g1
 have hy:w.heap.size<w1.heap.size:=by omega
 go_wp2
 refine bodyPost_ret (by simp[results,Tryz.results169,go_sem, *];try rfl) rfl ?_
 clear hc1 hf1
 refine⟨_,rfl,xT,_,_,ss0,ss1,rfl,(Bi.keep g0 Hx).mono (by simp),(Bi.keep g1 Hx).mono (by simp),hd⟩
end Go.Proofs.YtkpmbocbbgocbaaGreat
