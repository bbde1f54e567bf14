/- NU10 NU11. -/
import Derived.Test.YtkpmbocbbgocbaaGreatQB11
import Derived.Test.YtkpmbocbbgocbaaGreatQM4
set_option linter.unusedSimpArgs false
set_option linter.unusedVariables false
set_option maxHeartbeats 8000000
set_option maxRecDepth 100000
namespace Go.Proofs.YtkpmbocbbgocbaaGreat
open Go.RowKit Go.G8
theorem Ww{d:Fb}(h:Ch d=true):∀e,e ∈ d.Log.Book.Entries->Dt e=true:=by
 unfold Ch at h
 simp only[Bool.and_eq_true] at h
 have h1:=h.2.2.2.2.2.1
 unfold Mn at h1
 intro e he
 split at h1
 .
  unfold Gl at h1
  simp only[Bool.and_eq_true] at h1
  obtain⟨i,hi,hx⟩:=List.getElem_of_mem he
  exact((Wo h1.1).2.2.1.idx i e (by rw[List.getElem?_eq_getElem hi,hx])).2
 unfold Ig at h1
 simp only[Bool.and_eq_true,Sk] at h1
 rw[h1.2] at he
 cases he
theorem uC(l:List (List Int)):(l.flatMap Bu).length=l.length+(l.map List.length).sum:=by
 induction l with
 | nil=>rfl
 | cons r l ih=>simp only[List.flatMap_cons,List.length_append,Bu,List.length_cons,List.map_cons,List.sum_cons,ih];omega
theorem vO(l:List Eb):(l.flatMap wrN).length=2*l.length+(l.map (fun x=>x.Row.length)).sum:=by
 induction l with
 | nil=>rfl
 | cons r l ih=>simp only[List.flatMap_cons,List.length_append,wrN,Bu,List.length_cons,List.map_cons,List.sum_cons,ih];omega
theorem uD(l:List Qs):(l.flatMap Xt).length=3*l.length+(l.map (fun x=>x.Row.length)).sum:=by
 induction l with
 | nil=>rfl
 | cons r l ih=>simp only[List.flatMap_cons,List.length_append,Xt,Bu,List.length_cons,List.length_nil,List.map_cons,List.sum_cons,ih];omega
theorem Xy(d:Ez):(Hr d).length<=2+2*Ra d:=by
 have h1:Ky (Ac d.Kept)=d.Kept.length+(d.Kept.map List.length).sum:=by unfold Ky Ac;rw[List.length_map,List.map_map];rfl
 have h2:Ky (Ah d.Wait)=d.Wait.length+(d.Wait.map (fun x=>x.Row.length)).sum:=by unfold Ky Ah;rw[List.length_map,List.map_map];rfl
 unfold Hr Ra
 simp only[List.length_cons,List.length_append,uC,vO,h1,h2]
 omega
theorem rX(l:List Bool):(l.flatMap (fun b=>[Ow b])).length=l.length:=by induction l with
 | nil=>rfl
 | cons r l ih=>simp only[List.flatMap_cons,Cx,ih];omega
theorem lS(d:Fb):(Du d).length<=200+9*aL d:=by
 have a1:=Xy d.Log.Two.A;have a2:=Xy d.Log.Two.B
 have a3:(Hr d.Store.Disk).length<=2+2*Ra d.Store.Disk:=Xy _
 have e1:(d.Log.Book.Entries.flatMap Aq.ints).length=d.Log.Book.Entries.length*9:=Jo Aq.ints (fun _=>rfl) _
 have e2:(d.Log.Owe.flatMap Is.ints).length=d.Log.Owe.length*4:=Jo Is.ints (fun _=>rfl) _
 have e3:∀l:List Ar,(l.flatMap Ar.ints).length=l.length*3:=fun l=>Jo Ar.ints (fun _=>rfl) l
 have e4:∀l:List Hu,(l.flatMap Hu.ints).length=l.length*2:=fun l=>Jo Hu.ints (fun _=>rfl) l
 have e5:∀l:List Da,(l.flatMap Da.ints).length=l.length*7:=fun l=>Jo Da.ints (fun _=>rfl) l
 have e6:∀l:List Jd,(l.flatMap Jd.ints).length=l.length*4:=fun l=>Jo Jd.ints (fun _=>rfl) l
 have e7:(d.Net.Cuts.flatMap Gf.ints).length=d.Net.Cuts.length*2:=Jo Gf.ints (fun _=>rfl) _
 have e8:Ky (Ji d.Net.Flight)=d.Net.Flight.length+(d.Net.Flight.map (fun x=>x.Row.length)).sum:=by unfold Ky Ji;rw[List.length_map,List.map_map];rfl
 have e9:(Eg d.Store.State).length<=7+2*d.Store.State.Pairs.length+5*d.Store.State.Jobs.length:=by
  unfold Eg
  split
  .
   simp only[Uh,Cx,Iz,Kl];omega
  simp
 have hs:Tq d.Store=Ra d.Store.Disk+d.Store.State.Pairs.length+d.Store.State.Jobs.length:=rfl
 have hl:aK d.Log=kU d.Log.Two+Ul d.Log.Head+Ul d.Log.Next+fB d.Log.Book+d.Log.Seen.length+d.Log.Owe.length:=rfl
 have ht:kU d.Log.Two=Ra d.Log.Two.A+Ra d.Log.Two.B:=rfl
 have h1:Ul d.Log.Head=d.Log.Head.Seen.length:=rfl
 have h2:Ul d.Log.Next=d.Log.Next.Seen.length:=rfl
 have hb:fB d.Log.Book=d.Log.Book.Entries.length:=rfl
 have c1:∀c:El,Lg c=c.Todo.length+c.Gots.length:=fun _=>rfl
 have n1:aH d.Net=Ky (Ji d.Net.Flight)+d.Net.Cuts.length:=rfl
 have s1:∀s:De,Nl s=s.View.Jobs.Open.length:=fun _=>rfl
 have w1:aL d=aK d.Log+Tq d.Store+Nl d.Left+Nl d.Right+Lg d.Ann+Lg d.Bob+aH d.Net+d.Clocks.length+d.Up.length:=rfl
 rw[w1,hs,hl,ht,h1,h2,hb,c1,c1,n1,s1,s1,e8]
 unfold Du Mg Hq Hk Fa Qo Lr Ox
 simp only[Cx,Bu,opN,e1,e2,e3,e4,e5,e6,e7,uD,rX]
 omega
def uM(z x:Int):Int:=(wrap64 (wrap64 (wrap64 (131*z)+x)+1)).tmod 999999937
def fX(l:List Int):Int:=l.foldl uM 7
theorem dR{l:List Int}{k:Nat}{x:Int}(h:l[k]?=some x):fX (l.take (k+1))=uM (fX (l.take k)) x:=by
 rw[Ic h];simp[fX]
noncomputable def Rl(d:Fb):List Int:=if Ch d then Du d else []
noncomputable def Mh(d:Fb):Int:=if Ch d then fX (Du d) else -1
noncomputable def Jw(d e:Fb):Bool:=Ch d&&(Ch e&&decide (Du d=Du e))
theorem jO(w:World)(u:Value)(l:List Int)(h:Aj 1 w u l):Calls Tryz.prog 58 #[u] w (Cp w (.int .i64 (fX l))):=by
 obtain⟨a,cap,rfl,hcap,hm,ha⟩:=h.one
 have HA:=Lib.hid ha
 clear ha
 unfold maxLen at hm
 go_enter Tryz.func58,Tryz.ntmps58
 go_wp2_with fail
 go_loopw [3,8] (fun s i wr=>∃k:Nat,k<=l.length/\i=.int .i64 k/\Ext w wr/\∃z:Int,s=.int .i64 z/\Hid (z=fX (l.take k))) (fun _ i _=>l.length - (intOf i).toNat)
 case atStart=>exact⟨0,Nat.zero_le _,rfl,Ext.refl _,7,rfl,Lib.hid rfl⟩
 case round =>
  obtain⟨k,hk,rfl,he,z,rfl,hz⟩:=hrel
  by_cases hlt:k<l.length
  .
   obtain⟨x,b1,o1,hx,rfl,_,c⟩:=HA.out k hlt
   have d0:=he.cell c
   have HD:=Lib.hid hx
   clear hx c
   go_wp2
   go_roundw
   case rel=>exact⟨k+1,by omega,by go_num,he,_,rfl,Lib.hid (by rw[dR HD.out,<-hz.out];rfl)⟩
   case measure=>simp[intOf];omega
  obtain rfl:k=l.length:=by omega
  have hz':=hz.out
  rw[List.take_length] at hz'
  have HZ:=Lib.hid hz';clear hz' hz
  go_wp2
  go_ret
  exact⟨congrArg (fun q:Int=>Ending.returned (Value.int .i64 q)) HZ.out,he⟩
theorem jP{w:World}{u:Value}{d:Fb}(h:Gu w u d)(hl:(Du d).length<=1000000000):Calls Tryz.prog 16 #[u] w (Ret w fun r w'=>Af w.heap.size 2 1 w' r (Rl d)):=by
 obtain⟨L,rfl,hLn,-⟩:=h.cells
 obtain⟨W0,hW0⟩:∃W0,W0=w.alloc (.cells L.toArray 106):=⟨_,rfl⟩
 have E0:Ext w W0:=by rw[hW0];exact(Ext.refl _).alloc _
 have RL:W0.rangeAt w.heap.size 0 L:=by rw[hW0];exact(Bk.new _ _ _).ra
 have z0:w.heap.size<=W0.heap.size:=E0.size
 go_enter Tryz.func16,Tryz.ntmps16
 go_upto_region 1 with(fail)
 rw[<-hW0];clear hW0
 go_wp2_with (first|(refine wpList_load_mid rfl 106 _ rfl w.heap.size 0 (by rfl) L _ (Al RL Aa) Tryz.underlying106 rfl (by rw[hLn];kernel_rfl) ?_))
 refine(Oe (h.ext E0)).mono ?_
 rintro e w1⟨rfl,x1⟩
 have E1:=E0.trans x1;have z1:=x1.size
 cases q:Ch d
 .
  go_wp2_with fail
  go_ret
  refine⟨_,rfl,by exact Aa,?_⟩
  rw[show Rl d=[] from by unfold Rl;rw[q];rfl]
  exact Af.nil _ _ _ _
 have Q:=Lib.hid q
 go_wp2_with (first|(refine wpList_load_mid rfl 106 _ rfl w.heap.size 0 (by rfl) L _ (Al RL Aa) Tryz.underlying106 rfl (by rw[hLn];kernel_rfl) ?_))
 refine(Rh (h.ext E1) hl).mono ?_
 rintro e w2⟨v2,rfl,x2,o⟩
 obtain⟨y0,y1,y2,rfl⟩:=o.shape
 go_wp2_with fail
 go_ret
 refine⟨_,rfl,E1.trans x2,?_⟩
 rw[show Rl d=Du d from by unfold Rl;rw[Q.out];rfl]
 exact o.mono oM
theorem lT{w:World}{u:Value}{d:Fb}(h:Gu w u d)(hl:(Du d).length<=1000000000):Calls Tryz.prog 14 #[u] w (Cp w (.int .i64 (Mh d))):=by
 obtain⟨L,rfl,hLn,-⟩:=h.cells
 obtain⟨W0,hW0⟩:∃W0,W0=w.alloc (.cells L.toArray 106):=⟨_,rfl⟩
 have E0:Ext w W0:=by rw[hW0];exact(Ext.refl _).alloc _
 have RL:W0.rangeAt w.heap.size 0 L:=by rw[hW0];exact(Bk.new _ _ _).ra
 have z0:w.heap.size<=W0.heap.size:=E0.size
 go_enter Tryz.func14,Tryz.ntmps14
 go_upto_region 1 with(fail)
 rw[<-hW0];clear hW0
 go_wp2_with (first|(refine wpList_load_mid rfl 106 _ rfl w.heap.size 0 (by rfl) L _ (Al RL Aa) Tryz.underlying106 rfl (by rw[hLn];kernel_rfl) ?_))
 refine(Oe (h.ext E0)).mono ?_
 rintro e w1⟨rfl,x1⟩
 have E1:=E0.trans x1;have z1:=x1.size
 cases q:Ch d
 .
  go_wp2_with fail
  go_ret
  exact⟨by rw[show Mh d=-1 from by unfold Mh;rw[q];rfl];try rfl,by exact Aa⟩
 have Q:=Lib.hid q
 go_wp2_with (first|(refine wpList_load_mid rfl 106 _ rfl w.heap.size 0 (by rfl) L _ (Al RL Aa) Tryz.underlying106 rfl (by rw[hLn];kernel_rfl) ?_))
 refine(Rh (h.ext E1) hl).mono ?_
 rintro e w2⟨v2,rfl,x2,o⟩
 obtain⟨y0,y1,y2,rfl⟩:=o.shape
 go_wp2_with fail
 refine(jO _ _ _ o.ints).mono ?_
 rintro e w3⟨rfl,x3⟩
 go_wp2_with fail
 go_ret
 exact⟨by rw[show Mh d=fX (Du d) from by unfold Mh;rw[Q.out];rfl];try rfl,(E1.trans x2).trans x3⟩
theorem jQ{w:World}{u v:Value}{d e:Fb}(h:Gu w u d)(k:Gu w v e)(hl:(Du d).length<=1000000000)(hm:(Du e).length<=1000000000):Calls Tryz.prog 11 #[u,v] w (Cp w (.bool (Jw d e))):=by
 obtain⟨L,rfl,hL,-⟩:=h.cells
 obtain⟨M,rfl,hM,-⟩:=k.cells
 obtain⟨W0,hW0⟩:∃W0,W0=(w.alloc (.cells L.toArray 106)).alloc (.cells M.toArray 106):=⟨_,rfl⟩
 have E0:Ext w W0:=by rw[hW0];exact((Ext.refl _).alloc _).alloc _
 have RL:W0.rangeAt w.heap.size 0 L:=by rw[hW0];exact Al (Bk.new _ _ _).ra ((Ext.refl _).alloc _)
 have RM:W0.rangeAt (w.heap.size+1) 0 M:=by
  rw[hW0]
  have:=(Bk.new (w.alloc (.cells L.toArray 106)) 106 M).ra
  simpa using this
 go_enter Tryz.func11,Tryz.ntmps11
 go_upto_region 1 with(fail)
 rw[<-hW0];clear hW0
 refine wp_region_held_drew (S:=fun w'=>Ext W0 w') (by kernel_rfl) (by(try dsimp only);exact Aa) (fun hHeld=>?_)
 refine wpAnyH_take (i:=0) (v:=.agg L.toArray) rfl (by kernel_rfl) (by kernel_rfl) (by kernel_rfl) (fun _ _ _ h=>h) (yieldsIf_load_mid (by rfl) 106 (.tmp 2) rfl w.heap.size 0 (by rfl) L _ (fun _ hSw=>Al RL hSw) Tryz.underlying106 rfl (by rw[hL];kernel_rfl)) (by assumption) ?_
 (try simp only[Ab,Act.put])
 refine wr1 1 fun Kz hKz=>?_
 (try simp only[Ab])
 go_simp
 go_at_call 27
 refine(Oe (h.ext (E0.trans Aa))).mono ?_
 rintro e v1⟨rfl,hx⟩
 have Y1:Ext W0 v1:=Ext.trans Aa hx
 skip
 clear hx
 refine hKz.out _ _ (by(try dsimp only);exact Aa) (fun hHeld=>?_)
 clear hKz Kz
 (try simp only[Ab,Act.put])
 cases q1:Ch d
 .
  refine wt 2 ?_
  (try simp only[Ab,Act.put])
  refine wpAnyH_take (i:=3) (v:=undef) rfl (by kernel_rfl) (by kernel_rfl) (by kernel_rfl) (fun _ _ _ h=>h) (Or.inr ⟨by rfl,rfl⟩) (by assumption) ?_
  (try simp only[Ab,Act.put])
  refine wpAnyH_take (i:=4) (v:=undef) rfl (by kernel_rfl) (by kernel_rfl) (by kernel_rfl) (fun _ _ _ h=>h) (Or.inr ⟨by rfl,rfl⟩) (by assumption) ?_
  (try simp only[Ab,Act.put])
  refine wt 5 ?_
  (try simp only[Ab,Act.put])
  refine wt 6 ?_
  (try simp only[Ab,Act.put])
  refine wpAnyH_take (i:=7) (v:=undef) rfl (by kernel_rfl) (by kernel_rfl) (by kernel_rfl) (fun _ _ _ h=>h) (Or.inr ⟨by rfl,rfl⟩) (by assumption) ?_
  (try simp only[Ab,Act.put])
  refine wpAnyH_take (i:=8) (v:=undef) rfl (by kernel_rfl) (by kernel_rfl) (by kernel_rfl) (fun _ _ _ h=>h) (Or.inr ⟨by rfl,rfl⟩) (by assumption) ?_
  (try simp only[Ab,Act.put])
  refine wpAnyH_take (i:=9) (v:=undef) rfl (by kernel_rfl) (by kernel_rfl) (by kernel_rfl) (fun _ _ _ h=>h) (Or.inr ⟨by rfl,rfl⟩) (by assumption) ?_
  (try simp only[Ab,Act.put])
  refine wpAnyH_take (i:=10) (v:=undef) rfl (by kernel_rfl) (by kernel_rfl) (by kernel_rfl) (fun _ _ _ h=>h) (Or.inr ⟨by rfl,rfl⟩) (by assumption) ?_
  (try simp only[Ab,Act.put])
  refine wpAnyH_take (i:=11) (v:=undef) rfl (by kernel_rfl) (by kernel_rfl) (by kernel_rfl) (fun _ _ _ h=>h) (Or.inr ⟨by rfl,rfl⟩) (by assumption) ?_
  (try simp only[Ab,Act.put])
  refine wt 12 ?_
  (try simp only[Ab,Act.put])
  refine wt 13 ?_
  (try simp only[Ab,Act.put])
  refine wpAnyH_done (by kernel_rfl) ?_ _
  go_wp2_with fail
  go_ret
  exact⟨by rw[show Jw d e=false from by unfold Jw;rw[q1];rfl];try rfl,by exact Aa⟩
 have Q1:=Lib.hid q1;clear q1
 refine wt 2 ?_
 (try simp only[Ab,Act.put])
 refine wpAnyH_take (i:=3) (v:=.agg M.toArray) rfl (by kernel_rfl) (by kernel_rfl) (by kernel_rfl) (fun _ _ _ h=>h) (yieldsIf_load_mid (by rfl) 106 (.tmp 3) rfl (w.heap.size+1) 0 (by rfl) M _ (fun _ hSw=>Al RM hSw) Tryz.underlying106 rfl (by rw[hM];kernel_rfl)) (by assumption) ?_
 (try simp only[Ab,Act.put])
 refine wr1 4 fun Kz hKz=>?_
 (try simp only[Ab])
 go_simp
 go_at_call 27
 refine(Oe (k.ext (E0.trans Aa))).mono ?_
 rintro e v2⟨rfl,hx⟩
 have Y2:Ext W0 v2:=Ext.trans Aa hx
 skip
 clear hx
 refine hKz.out _ _ (by(try dsimp only);exact Aa) (fun hHeld=>?_)
 clear hKz Kz
 (try simp only[Ab,Act.put])
 cases q2:Ch e
 .
  refine wt 5 ?_
  (try simp only[Ab,Act.put])
  refine wt 6 ?_
  (try simp only[Ab,Act.put])
  refine wpAnyH_take (i:=7) (v:=undef) rfl (by kernel_rfl) (by kernel_rfl) (by kernel_rfl) (fun _ _ _ h=>h) (Or.inr ⟨by rfl,rfl⟩) (by assumption) ?_
  (try simp only[Ab,Act.put])
  refine wpAnyH_take (i:=8) (v:=undef) rfl (by kernel_rfl) (by kernel_rfl) (by kernel_rfl) (fun _ _ _ h=>h) (Or.inr ⟨by rfl,rfl⟩) (by assumption) ?_
  (try simp only[Ab,Act.put])
  refine wpAnyH_take (i:=9) (v:=undef) rfl (by kernel_rfl) (by kernel_rfl) (by kernel_rfl) (fun _ _ _ h=>h) (Or.inr ⟨by rfl,rfl⟩) (by assumption) ?_
  (try simp only[Ab,Act.put])
  refine wpAnyH_take (i:=10) (v:=undef) rfl (by kernel_rfl) (by kernel_rfl) (by kernel_rfl) (fun _ _ _ h=>h) (Or.inr ⟨by rfl,rfl⟩) (by assumption) ?_
  (try simp only[Ab,Act.put])
  refine wpAnyH_take (i:=11) (v:=undef) rfl (by kernel_rfl) (by kernel_rfl) (by kernel_rfl) (fun _ _ _ h=>h) (Or.inr ⟨by rfl,rfl⟩) (by assumption) ?_
  (try simp only[Ab,Act.put])
  refine wt 12 ?_
  (try simp only[Ab,Act.put])
  refine wt 13 ?_
  (try simp only[Ab,Act.put])
  refine wpAnyH_done (by kernel_rfl) ?_ _
  go_wp2_with fail
  go_ret
  exact⟨by rw[show Jw d e=false from by unfold Jw;rw[q2];simp];try rfl,by exact Aa⟩
 have Q2:=Lib.hid q2;clear q2
 refine wt 5 ?_
 (try simp only[Ab,Act.put])
 refine wt 6 ?_
 (try simp only[Ab,Act.put])
 refine wpAnyH_take (i:=7) (v:=.agg L.toArray) rfl (by kernel_rfl) (by kernel_rfl) (by kernel_rfl) (fun _ _ _ h=>h) (yieldsIf_load_mid (by rfl) 106 (.tmp 2) rfl w.heap.size 0 (by rfl) L _ (fun _ hSw=>Al RL hSw) Tryz.underlying106 rfl (by rw[hL];kernel_rfl)) (by assumption) ?_
 (try simp only[Ab,Act.put])
 refine wpAnyH_take (i:=9) (v:=.agg M.toArray) rfl (by kernel_rfl) (by kernel_rfl) (by kernel_rfl) (fun _ _ _ h=>h) (yieldsIf_load_mid (by rfl) 106 (.tmp 3) rfl (w.heap.size+1) 0 (by rfl) M _ (fun _ hSw=>Al RM hSw) Tryz.underlying106 rfl (by rw[hM];kernel_rfl)) (by assumption) ?_
 (try simp only[Ab,Act.put])
 refine wr1 8 fun Kz hKz=>?_
 (try simp only[Ab])
 go_simp
 go_at_call 51
 refine(Rh (h.ext (E0.trans Aa)) hl).mono ?_
 rintro e v3⟨_,rfl,hx,o3⟩
 have Y3:Ext W0 v3:=Ext.trans Aa hx
 skip
 clear hx
 have i3:=o3.ints;obtain⟨y0,y1,y2,rfl⟩:=o3.shape;clear o3
 refine hKz.out _ _ (by(try dsimp only);exact Aa) (fun hHeld=>?_)
 clear hKz Kz
 (try simp only[Ab,Act.put])
 refine wr1 10 fun Kz hKz=>?_
 (try simp only[Ab])
 go_simp
 go_at_call 51
 refine(Rh (k.ext (E0.trans Aa)) hm).mono ?_
 rintro e v4⟨_,rfl,hx,o4⟩
 have Y4:Ext W0 v4:=Ext.trans Aa hx
 have i3:=Aj.ext i3 (Ext.trans Aa hx)
 clear hx
 have i4:=o4.ints;obtain⟨u0,u1,u2,rfl⟩:=o4.shape;clear o4
 refine hKz.out _ _ (by(try dsimp only);exact Aa) (fun hHeld=>?_)
 clear hKz Kz
 (try simp only[Ab,Act.put])
 refine wr1 11 fun Kz hKz=>?_
 (try simp only[Ab])
 go_simp
 go_at_call 50
 refine(dA _ _ _ (Du d) (Du e) (i3.ext Aa) (i4.ext Aa)).mono ?_
 rintro e v5⟨rfl,hx⟩
 have Y5:Ext W0 v5:=Ext.trans Aa hx
 skip
 clear hx
 refine hKz.out _ _ (by(try dsimp only);exact Aa) (fun hHeld=>?_)
 clear hKz Kz
 (try simp only[Ab,Act.put])
 refine wt 12 ?_
 (try simp only[Ab,Act.put])
 refine wt 13 ?_
 (try simp only[Ab,Act.put])
 refine wpAnyH_done (by kernel_rfl) ?_ _
 have HD:=Lib.hid (show Jw d e=decide (Du d=Du e) from by unfold Jw;rw[Q1.out,Q2.out];simp)
 go_wp2_with fail
 go_ret
 exact⟨by rw[HD.out];try rfl,by exact Aa⟩
theorem fY{w:World}{u:Value}{d:Fb}(h:Gu w u d)(hl:(Du d).length<=1000000000):Calls Tryz.prog 15 #[u] w (Ret w fun r w'=>Af w.heap.size 2 1 w' r (Rl d)):=by
 obtain⟨L,rfl,hLn,-⟩:=h.cells
 obtain⟨W0,hW0⟩:∃W0,W0=w.alloc (.cells L.toArray 106):=⟨_,rfl⟩
 have E0:Ext w W0:=by rw[hW0];exact(Ext.refl _).alloc _
 have RL:W0.rangeAt w.heap.size 0 L:=by rw[hW0];exact(Bk.new _ _ _).ra
 have z0:w.heap.size<=W0.heap.size:=E0.size
 go_enter Tryz.func15,Tryz.ntmps15
 go_upto_region 1 with(fail)
 rw[<-hW0];clear hW0
 go_wp2_with (first|(refine wpList_load_mid rfl 106 _ rfl w.heap.size 0 (by rfl) L _ (Al RL Aa) Tryz.underlying106 rfl (by rw[hLn];kernel_rfl) ?_))
 refine(Sz (h.ext E0)).mono ?_
 rintro e w1⟨rfl,x1⟩
 have E1:=E0.trans x1;have z1:=x1.size
 cases q:Ch d
 .
  go_wp2_with fail
  go_ret
  refine⟨_,rfl,by exact Aa,?_⟩
  rw[show Rl d=[] from by unfold Rl;rw[q];rfl]
  exact Af.mono (Own.fresh w1 2 1:Af w1.heap.size 2 1 _ _ []) oM
 have Q:=Lib.hid q
 go_wp2_with (first|(refine wpList_load_mid rfl 106 _ rfl w.heap.size 0 (by rfl) L _ (Al RL Aa) Tryz.underlying106 rfl (by rw[hLn];kernel_rfl) ?_))
 refine(Wv (h.ext E1) (Ww Q.out) hl).mono ?_
 rintro e w2⟨v2,rfl,x2,o⟩
 obtain⟨y0,y1,y2,rfl⟩:=o.shape
 go_wp2_with fail
 go_ret
 refine⟨_,rfl,E1.trans x2,?_⟩
 rw[show Rl d=Du d from by unfold Rl;rw[Q.out];rfl]
 exact o.mono oM
theorem jR{w:World}{u:Value}{d:Fb}(h:Gu w u d)(hl:(Du d).length<=1000000000):Calls Tryz.prog 13 #[u] w (Cp w (.int .i64 (Mh d))):=by
 obtain⟨L,rfl,hLn,-⟩:=h.cells
 obtain⟨W0,hW0⟩:∃W0,W0=w.alloc (.cells L.toArray 106):=⟨_,rfl⟩
 have E0:Ext w W0:=by rw[hW0];exact(Ext.refl _).alloc _
 have RL:W0.rangeAt w.heap.size 0 L:=by rw[hW0];exact(Bk.new _ _ _).ra
 have z0:w.heap.size<=W0.heap.size:=E0.size
 go_enter Tryz.func13,Tryz.ntmps13
 go_upto_region 1 with(fail)
 rw[<-hW0];clear hW0
 go_wp2_with (first|(refine wpList_load_mid rfl 106 _ rfl w.heap.size 0 (by rfl) L _ (Al RL Aa) Tryz.underlying106 rfl (by rw[hLn];kernel_rfl) ?_))
 refine(Sz (h.ext E0)).mono ?_
 rintro e w1⟨rfl,x1⟩
 have E1:=E0.trans x1;have z1:=x1.size
 cases q:Ch d
 .
  go_wp2_with fail
  go_ret
  exact⟨by rw[show Mh d=-1 from by unfold Mh;rw[q];rfl];try rfl,by exact Aa⟩
 have Q:=Lib.hid q
 go_wp2_with (first|(refine wpList_load_mid rfl 106 _ rfl w.heap.size 0 (by rfl) L _ (Al RL Aa) Tryz.underlying106 rfl (by rw[hLn];kernel_rfl) ?_))
 refine(Wv (h.ext E1) (Ww Q.out) hl).mono ?_
 rintro e w2⟨v2,rfl,x2,o⟩
 obtain⟨y0,y1,y2,rfl⟩:=o.shape
 have on:=o.ints.one
 obtain⟨a,cap,e,hcap,hm,ha⟩:=on
 cases e
 have HA:=Lib.hid ha;clear ha o
 unfold maxLen at hm
 obtain⟨l,hl'⟩:∃l,l=Du d:=⟨_,rfl⟩
 rw[<-hl'] at HA hcap ⊢
 have HL:=Lib.hid hl';clear hl' hl
 have E2:=E1.trans x2
 go_wp2_with fail
 go_loopw [4,5] (fun s i wr=>∃k:Nat,k<=l.length/\i=.int .i64 k/\Ext w2 wr/\∃z:Int,s=.int .i64 z/\Hid (z=fX (l.take k))) (fun _ i _=>l.length - (intOf i).toNat)
 case atStart=>exact⟨0,Nat.zero_le _,rfl,Ext.refl _,7,rfl,Lib.hid rfl⟩
 case round =>
  obtain⟨k,hk,rfl,he,z,rfl,hz⟩:=hrel
  by_cases hlt:k<l.length
  .
   obtain⟨x,b1,o1,hx,rfl,_,c⟩:=HA.out k hlt
   have d0:=he.cell c
   have HD:=Lib.hid hx
   clear hx c
   go_wp2
   go_roundw
   case rel=>exact⟨k+1,by omega,by go_num,he,_,rfl,Lib.hid (by rw[dR HD.out,<-hz.out];rfl)⟩
   case measure=>simp[intOf];omega
  obtain rfl:k=l.length:=by omega
  have hz':=hz.out
  rw[List.take_length] at hz'
  have HZ:=Lib.hid hz';clear hz' hz
  go_wp2
  go_ret
  exact⟨by rw[show Mh d=fX (Du d) from by unfold Mh;rw[Q.out];rfl,<-HL.out];exact congrArg (fun q:Int=>Ending.returned (Value.int .i64 q)) HZ.out,E2.trans he⟩
end Go.Proofs.YtkpmbocbbgocbaaGreat
