/- NU10 NU11. -/
import Derived.Test.YtkpmbocbbgocbaaGreatPB11
import Derived.Test.YtkpmbocbbgocbaaGreatPM4
set_option linter.unusedSimpArgs false
set_option linter.unusedVariables false
set_option maxHeartbeats 8000000
set_option maxRecDepth 100000
namespace Go.Proofs.YtkpmbocbbgocbaaGreat
open Go.RowKit Go.G8
theorem aM0{d:DU}(h:lR d=true):∀e,e ∈ d.Log.Book.Entries->wN e=true:=by
 unfold lR at h
 simp only[Bool.and_eq_true] at h
 have h1:=h.2.2.2.2.2.1
 unfold NB at h1
 intro e he
 split at h1
 .
  unfold DX at h1
  simp only[Bool.and_eq_true] at h1
  obtain⟨i,hi,hx⟩:=List.getElem_of_mem he
  exact((WL h1.1).2.2.1.idx i e (by rw[List.getElem?_eq_getElem hi,hx])).2
 unfold FY at h1
 simp only[Bool.and_eq_true,SB] at h1
 rw[h1.2] at he
 cases he
theorem cI3(l:List (List Int)):(l.flatMap Kj).length=l.length+(l.map List.length).sum:=by
 induction l with
 | nil=>rfl
 | cons r l ih=>simp only[List.flatMap_cons,List.length_append,Kj,List.length_cons,List.map_cons,List.sum_cons,ih];omega
theorem cN3(l:List AG):(l.flatMap wrN).length=2*l.length+(l.map (fun x=>x.Row.length)).sum:=by
 induction l with
 | nil=>rfl
 | cons r l ih=>simp only[List.flatMap_cons,List.length_append,wrN,Kj,List.length_cons,List.map_cons,List.sum_cons,ih];omega
theorem cI4(l:List OP):(l.flatMap XO).length=3*l.length+(l.map (fun x=>x.Row.length)).sum:=by
 induction l with
 | nil=>rfl
 | cons r l ih=>simp only[List.flatMap_cons,List.length_append,XO,Kj,List.length_cons,List.length_nil,List.map_cons,List.sum_cons,ih];omega
theorem XS(d:EI):(FH d).length<=2+2*IQ d:=by
 have h1:Mj (Bd d.Kept)=d.Kept.length+(d.Kept.map List.length).sum:=by unfold Mj Bd;rw[List.length_map,List.map_map];rfl
 have h2:Mj (Dq d.Wait)=d.Wait.length+(d.Wait.map (fun x=>x.Row.length)).sum:=by unfold Mj Dq;rw[List.length_map,List.map_map];rfl
 unfold FH IQ
 simp only[List.length_cons,List.length_append,cI3,cN3,h1,h2]
 omega
theorem bZ3(l:List Bool):(l.flatMap (fun b=>[NX b])).length=l.length:=by induction l with
 | nil=>rfl
 | cons r l ih=>simp only[List.flatMap_cons,Vj,ih];omega
theorem SK(d:DU):(BQ d).length<=200+9*JZ d:=by
 have a1:=XS d.Log.Two.A;have a2:=XS d.Log.Two.B
 have a3:(FH d.Store.Disk).length<=2+2*IQ d.Store.Disk:=XS _
 have e1:(d.Log.Book.Entries.flatMap Bj.ints).length=d.Log.Book.Entries.length*9:=EH Bj.ints (fun _=>rfl) _
 have e2:(d.Log.Owe.flatMap EN.ints).length=d.Log.Owe.length*4:=EH EN.ints (fun _=>rfl) _
 have e3:∀l:List Bz,(l.flatMap Bz.ints).length=l.length*3:=fun l=>EH Bz.ints (fun _=>rfl) l
 have e4:∀l:List DO,(l.flatMap DO.ints).length=l.length*2:=fun l=>EH DO.ints (fun _=>rfl) l
 have e5:∀l:List wO,(l.flatMap wO.ints).length=l.length*7:=fun l=>EH wO.ints (fun _=>rfl) l
 have e6:∀l:List FP,(l.flatMap FP.ints).length=l.length*4:=fun l=>EH FP.ints (fun _=>rfl) l
 have e7:(d.Net.Cuts.flatMap BP.ints).length=d.Net.Cuts.length*2:=EH BP.ints (fun _=>rfl) _
 have e8:Mj (GK d.Net.Flight)=d.Net.Flight.length+(d.Net.Flight.map (fun x=>x.Row.length)).sum:=by unfold Mj GK;rw[List.length_map,List.map_map];rfl
 have e9:(wT d.Store.State).length<=7+2*d.Store.State.Pairs.length+5*d.Store.State.Jobs.length:=by
  unfold wT
  split
  .
   simp only[UM,Vj,DJ,FM];omega
  simp
 have hs:JX d.Store=IQ d.Store.Disk+d.Store.State.Pairs.length+d.Store.State.Jobs.length:=rfl
 have hl:SE d.Log=SC d.Log.Two+KP d.Log.Head+KP d.Log.Next+OS d.Log.Book+d.Log.Seen.length+d.Log.Owe.length:=rfl
 have ht:SC d.Log.Two=IQ d.Log.Two.A+IQ d.Log.Two.B:=rfl
 have h1:KP d.Log.Head=d.Log.Head.Seen.length:=rfl
 have h2:KP d.Log.Next=d.Log.Next.Seen.length:=rfl
 have hb:OS d.Log.Book=d.Log.Book.Entries.length:=rfl
 have c1:∀c:AN,ID c=c.Todo.length+c.Gots.length:=fun _=>rfl
 have n1:SD d.Net=Mj (GK d.Net.Flight)+d.Net.Cuts.length:=rfl
 have s1:∀s:aQ,LP s=s.View.Jobs.Open.length:=fun _=>rfl
 have w1:JZ d=SE d.Log+JX d.Store+LP d.Left+LP d.Right+ID d.Ann+ID d.Bob+SD d.Net+d.Clocks.length+d.Up.length:=rfl
 rw[w1,hs,hl,ht,h1,h2,hb,c1,c1,n1,s1,s1,e8]
 unfold BQ LS FC ET BG PO KC NY
 simp only[Vj,Kj,opN,e1,e2,e3,e4,e5,e6,e7,cI4,bZ3]
 omega
noncomputable def NN(d:DU):List Int:=if lR d then BQ d else []
theorem YQ{w:World}{u:Value}{d:DU}(h:EC w u d)(hl:(BQ d).length<=1000000000):Calls Tryz.prog 16 #[u] w (Ret w fun r w'=>Ba w.heap.size 2 1 w' r (NN d)):=by
 obtain⟨L,rfl,hLn,-⟩:=h.cells
 obtain⟨W0,hW0⟩:∃W0,W0=w.alloc (.cells L.toArray 106):=⟨_,rfl⟩
 have E0:Ext w W0:=by rw[hW0];exact(Ext.refl _).alloc _
 have RL:W0.rangeAt w.heap.size 0 L:=by rw[hW0];exact(Bk.new _ _ _).ra
 have z0:w.heap.size<=W0.heap.size:=E0.size
 go_enter Tryz.func16,Tryz.ntmps16
 go_upto_region 1 with(fail)
 rw[<-hW0];clear hW0
 go_wp2_with (first|(refine wpList_load_mid rfl 106 _ rfl w.heap.size 0 (by rfl) L _ (As RL Ag) Tryz.underlying106 rfl (by rw[hLn];kernel_rfl) ?_))
 refine(bM1 (h.ext E0)).mono ?_
 rintro e w1⟨rfl,x1⟩
 have E1:=E0.trans x1;have z1:=x1.size
 cases q:lR d
 .
  go_wp2_with fail
  go_ret
  refine⟨_,rfl,by exact Ag,?_⟩
  rw[show NN d=[] from by unfold NN;rw[q];rfl]
  exact Ba.nil _ _ _ _
 have Q:=Lib.hid q
 go_wp2_with (first|(refine wpList_load_mid rfl 106 _ rfl w.heap.size 0 (by rfl) L _ (As RL Ag) Tryz.underlying106 rfl (by rw[hLn];kernel_rfl) ?_))
 refine(aS9 (h.ext E1) hl).mono ?_
 rintro e w2⟨v2,rfl,x2,o⟩
 obtain⟨y0,y1,y2,rfl⟩:=o.shape
 go_wp2_with fail
 go_ret
 refine⟨_,rfl,E1.trans x2,?_⟩
 rw[show NN d=BQ d from by unfold NN;rw[Q.out];rfl]
 exact o.mono oM
theorem aM1{w:World}{u:Value}{d:DU}(h:EC w u d)(hl:(BQ d).length<=1000000000):Calls Tryz.prog 15 #[u] w (Ret w fun r w'=>Ba w.heap.size 2 1 w' r (NN d)):=by
 obtain⟨L,rfl,hLn,-⟩:=h.cells
 obtain⟨W0,hW0⟩:∃W0,W0=w.alloc (.cells L.toArray 106):=⟨_,rfl⟩
 have E0:Ext w W0:=by rw[hW0];exact(Ext.refl _).alloc _
 have RL:W0.rangeAt w.heap.size 0 L:=by rw[hW0];exact(Bk.new _ _ _).ra
 have z0:w.heap.size<=W0.heap.size:=E0.size
 go_enter Tryz.func15,Tryz.ntmps15
 go_upto_region 1 with(fail)
 rw[<-hW0];clear hW0
 go_wp2_with (first|(refine wpList_load_mid rfl 106 _ rfl w.heap.size 0 (by rfl) L _ (As RL Ag) Tryz.underlying106 rfl (by rw[hLn];kernel_rfl) ?_))
 refine(aZ0 (h.ext E0)).mono ?_
 rintro e w1⟨rfl,x1⟩
 have E1:=E0.trans x1;have z1:=x1.size
 cases q:lR d
 .
  go_wp2_with fail
  go_ret
  refine⟨_,rfl,by exact Ag,?_⟩
  rw[show NN d=[] from by unfold NN;rw[q];rfl]
  exact Ba.mono (Own.fresh w1 2 1:Ba w1.heap.size 2 1 _ _ []) oM
 have Q:=Lib.hid q
 go_wp2_with (first|(refine wpList_load_mid rfl 106 _ rfl w.heap.size 0 (by rfl) L _ (As RL Ag) Tryz.underlying106 rfl (by rw[hLn];kernel_rfl) ?_))
 refine(aL9 (h.ext E1) (aM0 Q.out) hl).mono ?_
 rintro e w2⟨v2,rfl,x2,o⟩
 obtain⟨y0,y1,y2,rfl⟩:=o.shape
 go_wp2_with fail
 go_ret
 refine⟨_,rfl,E1.trans x2,?_⟩
 rw[show NN d=BQ d from by unfold NN;rw[Q.out];rfl]
 exact o.mono oM
end Go.Proofs.YtkpmbocbbgocbaaGreat
