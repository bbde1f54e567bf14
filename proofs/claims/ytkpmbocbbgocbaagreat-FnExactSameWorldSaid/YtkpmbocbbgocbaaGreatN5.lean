/- NU10 NU11. -/
import Derived.Test.YtkpmbocbbgocbaaGreatGa
import Derived.Test.YtkpmbocbbgocbaaGreatN4
import Derived.Test.YtkpmbocbbgocbaaGreatGv
import Derived.Test.YtkpmbocbbgocbaaGreatB10
import Derived.Test.YtkpmbocbbgocbaaGreatB11
set_option linter.unusedSimpArgs false
set_option linter.unusedVariables false
set_option maxHeartbeats 8000000
set_option maxRecDepth 100000
namespace Go.G8
open Go.RowKit
open Go.Proofs.YtkpmbocbbgocbaaGreat
theorem worldOk_ents {d:DWorld} (h:worldOk d=true):∀ e,e ∈ d.Log.Book.Entries→entryOk e=true:=by
 unfold worldOk at h
 simp only [Bool.and_eq_true] at h
 have h1:=h.2.2.2.2.2.1
 unfold logFits at h1
 intro e he
 split at h1
 ·
  unfold logOk at h1
  simp only [Bool.and_eq_true] at h1
  obtain⟨i,hi,hx⟩:=List.getElem_of_mem he
  exact ((logPre_p h1.1).2.2.1.idx i e (by rw [List.getElem?_eq_getElem hi,hx])).2
 unfold logDown at h1
 simp only [Bool.and_eq_true,eqB_iff] at h1
 rw [h1.2] at he
 cases he
theorem sum_one (l:List (List Int)):(l.flatMap listN).length=l.length+(l.map List.length).sum:=by
 induction l with
 | nil=>rfl
 | cons r l ih=>simp only [List.flatMap_cons,List.length_append,listN,List.length_cons,List.map_cons,List.sum_cons,ih];omega
theorem sum_wr (l:List DWrite):(l.flatMap wrN).length=2 * l.length+(l.map (fun x=>x.Row.length)).sum:=by
 induction l with
 | nil=>rfl
 | cons r l ih=>simp only [List.flatMap_cons,List.length_append,wrN,listN,List.length_cons,List.map_cons,List.sum_cons,ih];omega
theorem sum_msg (l:List DMsg):(l.flatMap msgN).length=3 * l.length+(l.map (fun x=>x.Row.length)).sum:=by
 induction l with
 | nil=>rfl
 | cons r l ih=>simp only [List.flatMap_cons,List.length_append,msgN,listN,List.length_cons,List.length_nil,List.map_cons,List.sum_cons,ih];omega
theorem diskN_len (d:DDisk):(diskN d).length≤2+2 * sznDisk d:=by
 have h1:rowsSize (nestInt64S d.Kept)=d.Kept.length+(d.Kept.map List.length).sum:=by unfold rowsSize nestInt64S;rw [List.length_map,List.map_map];rfl
 have h2:rowsSize (nestWrite d.Wait)=d.Wait.length+(d.Wait.map (fun x=>x.Row.length)).sum:=by unfold rowsSize nestWrite;rw [List.length_map,List.map_map];rfl
 unfold diskN sznDisk
 simp only [List.length_cons,List.length_append,sum_one,sum_wr,h1,h2]
 omega
theorem bits_len (l:List Bool):(l.flatMap (fun b=>[bitN b])).length=l.length:=by induction l with
 | nil=>rfl
 | cons r l ih=>simp only [List.flatMap_cons,List.length_append,List.length_cons,List.length_nil,ih];omega
theorem worldN_len (d:DWorld):(worldN d).length≤200+9 * sznWorld d:=by
 have a1:=diskN_len d.Log.Two.A;have a2:=diskN_len d.Log.Two.B
 have a3:(diskN d.Store.Disk).length≤2+2 * sznDisk d.Store.Disk:=diskN_len _
 have e1:(d.Log.Book.Entries.flatMap DEntry.ints).length=d.Log.Book.Entries.length * 9:=flat_len DEntry.ints (fun _=>rfl) _
 have e2:(d.Log.Owe.flatMap DAck.ints).length=d.Log.Owe.length * 4:=flat_len DAck.ints (fun _=>rfl) _
 have e3:∀ l:List DMark,(l.flatMap DMark.ints).length=l.length * 3:=fun l=>flat_len DMark.ints (fun _=>rfl) l
 have e4:∀ l:List DDue,(l.flatMap DDue.ints).length=l.length * 2:=fun l=>flat_len DDue.ints (fun _=>rfl) l
 have e5:∀ l:List DWant,(l.flatMap DWant.ints).length=l.length * 7:=fun l=>flat_len DWant.ints (fun _=>rfl) l
 have e6:∀ l:List DGot,(l.flatMap DGot.ints).length=l.length * 4:=fun l=>flat_len DGot.ints (fun _=>rfl) l
 have e7:(d.Net.Cuts.flatMap DLink.ints).length=d.Net.Cuts.length * 2:=flat_len DLink.ints (fun _=>rfl) _
 have e8:rowsSize (nestMsg d.Net.Flight)=d.Net.Flight.length+(d.Net.Flight.map (fun x=>x.Row.length)).sum:=by unfold rowsSize nestMsg;rw [List.length_map,List.map_map];rfl
 have e9:(stateNumbers d.Store.State).length≤7+2 * d.Store.State.Pairs.length+5 * d.Store.State.Jobs.length:=by
  unfold stateNumbers
  split
  ·
   simp only [stateNums,List.length_append,List.length_cons,List.length_nil,length_flPair,length_flJob];omega
  simp
 have hs:sznStore d.Store=sznDisk d.Store.Disk+d.Store.State.Pairs.length+d.Store.State.Jobs.length:=rfl
 have hl:sznLog d.Log=sznTwo d.Log.Two+sznHead d.Log.Head+sznHead d.Log.Next+sznBook d.Log.Book+d.Log.Seen.length+d.Log.Owe.length:=rfl
 have ht:sznTwo d.Log.Two=sznDisk d.Log.Two.A+sznDisk d.Log.Two.B:=rfl
 have h1:sznHead d.Log.Head=d.Log.Head.Seen.length:=rfl
 have h2:sznHead d.Log.Next=d.Log.Next.Seen.length:=rfl
 have hb:sznBook d.Log.Book=d.Log.Book.Entries.length:=rfl
 have c1:∀ c:DClient,sznClient c=c.Todo.length+c.Gots.length:=fun _=>rfl
 have n1:sznNet d.Net=rowsSize (nestMsg d.Net.Flight)+d.Net.Cuts.length:=rfl
 have s1:∀ s:DSched,sznSched s=s.View.Jobs.Open.length:=fun _=>rfl
 have w1:sznWorld d=sznLog d.Log+sznStore d.Store+sznSched d.Left+sznSched d.Right+sznClient d.Ann+sznClient d.Bob+sznNet d.Net+d.Clocks.length+d.Up.length:=rfl
 rw [w1,hs,hl,ht,h1,h2,hb,c1,c1,n1,s1,s1,e8]
 unfold worldN logN storeN schedN clientN netN headN seenN
 simp only [List.length_append,List.length_cons,List.length_nil,listN,opN,e1,e2,e3,e4,e5,e6,e7,sum_msg,bits_len]
 omega
def stepW (z x:Int):Int:=(wrap64 (wrap64 (wrap64 (131 * z)+x)+1)).tmod 999999937
def sumW (l:List Int):Int:=l.foldl stepW 7
theorem sumW_take {l:List Int} {k:Nat} {x:Int} (h:l[k]?=some x):sumW (l.take (k+1))=stepW (sumW (l.take k)) x:=by
 rw [take_snoc h];simp [sumW]
noncomputable def digestOf (d:DWorld):Int:=if worldOk d then sumW (worldN d) else -1
noncomputable def sameWorldB (d e:DWorld):Bool:=worldOk d && (worldOk e && decide (worldN d=worldN e))
end Go.G8
namespace Go.Proofs.YtkpmbocbbgocbaaGreat
open Go.RowKit Go.G8
theorem checksumW_n (w:World) (u:Value) (l:List Int) (h:Ints 1 w u l):Calls Tryz.prog 58 #[u] w (RetV w (.int .i64 (sumW l))):=by
 obtain⟨a,cap,rfl,hcap,hm,ha⟩:=h.one
 have HA:=Lib.hid ha
 clear ha
 unfold maxLen at hm
 go_enter Tryz.func58,Tryz.ntmps58
 go_wp2_with fail
 go_loopw [3,8] (fun s i wr=>∃ k:Nat,k≤l.length∧i=.int .i64 k∧Ext w wr∧∃ z:Int,s=.int .i64 z∧Hid (z=sumW (l.take k))) (fun _ i _=>l.length - (intOf i).toNat)
 case atStart=>exact⟨0,Nat.zero_le _,rfl,Ext.refl _,7,rfl,Lib.hid rfl⟩
 case round =>
  obtain⟨k,hk,rfl,he,z,rfl,hz⟩:=hrel
  by_cases hlt:k<l.length
  ·
   obtain⟨x,b1,o1,hx,rfl,_,c⟩:=HA.out k hlt
   have d0:=he.cell c
   have HD:=Lib.hid hx
   clear hx c
   go_wp2
   go_roundw
   case rel=>exact⟨k+1,by omega,by go_num,he,_,rfl,Lib.hid (by rw [sumW_take HD.out,← hz.out];rfl)⟩
   case measure=>simp [intOf];omega
  obtain rfl:k=l.length:=by omega
  have hz':=hz.out
  rw [List.take_length] at hz'
  have HZ:=Lib.hid hz';clear hz' hz
  go_wp2
  go_ret
  exact⟨congrArg (fun q:Int=>Ending.returned (Value.int .i64 q)) HZ.out,he⟩
theorem DigestOf_k {w:World} {u:Value} {d:DWorld} (h:RdWorld w u d) (hl:(worldN d).length≤1000000000):Calls Tryz.prog 14 #[u] w (RetV w (.int .i64 (digestOf d))):=by
 obtain⟨L,rfl,hLn,-⟩:=h.cells
 obtain⟨W0,hW0⟩:∃ W0,W0=w.alloc (.cells L.toArray 106):=⟨_,rfl⟩
 have E0:Ext w W0:=by rw [hW0];exact (Ext.refl _).alloc _
 have RL:W0.rangeAt w.heap.size 0 L:=by rw [hW0];exact (Bk.new _ _ _).ra
 have z0:w.heap.size≤W0.heap.size:=E0.size
 go_enter Tryz.func14,Tryz.ntmps14
 go_upto_region 1 with (fail)
 rw [← hW0];clear hW0
 go_wp2_with (first|(refine wpList_load_mid rfl 106 _ rfl w.heap.size 0 (by rfl) L _ (rangeAt_ext RL extT) Tryz.underlying106 rfl (by rw [hLn];kernel_rfl) ?_))
 refine (worldOk_k (h.ext E0)).mono ?_
 rintro e w1 ⟨rfl,x1⟩
 have E1:=E0.trans x1;have z1:=x1.size
 cases q:worldOk d
 ·
  go_wp2_with fail
  go_ret
  exact⟨by rw [show digestOf d=-1 from by unfold digestOf;rw [q];rfl];try rfl,by exact extT⟩
 have Q:=Lib.hid q
 go_wp2_with (first|(refine wpList_load_mid rfl 106 _ rfl w.heap.size 0 (by rfl) L _ (rangeAt_ext RL extT) Tryz.underlying106 rfl (by rw [hLn];kernel_rfl) ?_))
 refine (numbersOf_n (h.ext E1) hl).mono ?_
 rintro e w2 ⟨v2,rfl,x2,o⟩
 obtain⟨y0,y1,y2,rfl⟩:=o.shape
 go_wp2_with fail
 refine (checksumW_n _ _ _ o.ints).mono ?_
 rintro e w3 ⟨rfl,x3⟩
 go_wp2_with fail
 go_ret
 exact⟨by rw [show digestOf d=sumW (worldN d) from by unfold digestOf;rw [Q.out];rfl];try rfl,(E1.trans x2).trans x3⟩
theorem SameWorld_k {w:World} {u v:Value} {d e:DWorld} (h:RdWorld w u d) (k:RdWorld w v e) (hl:(worldN d).length≤1000000000) (hm:(worldN e).length≤1000000000):Calls Tryz.prog 11 #[u,v] w (RetV w (.bool (sameWorldB d e))):=by
 obtain⟨L,rfl,hL,-⟩:=h.cells
 obtain⟨M,rfl,hM,-⟩:=k.cells
 obtain⟨W0,hW0⟩:∃ W0,W0=(w.alloc (.cells L.toArray 106)).alloc (.cells M.toArray 106):=⟨_,rfl⟩
 have E0:Ext w W0:=by rw [hW0];exact ((Ext.refl _).alloc _).alloc _
 have RL:W0.rangeAt w.heap.size 0 L:=by rw [hW0];exact rangeAt_ext (Bk.new _ _ _).ra ((Ext.refl _).alloc _)
 have RM:W0.rangeAt (w.heap.size+1) 0 M:=by
  rw [hW0]
  have:=(Bk.new (w.alloc (.cells L.toArray 106)) 106 M).ra
  simpa using this
 go_enter Tryz.func11,Tryz.ntmps11
 go_upto_region 1 with (fail)
 rw [← hW0];clear hW0
 refine wp_region_held_drew (S:=fun w'=>Ext W0 w') (by kernel_rfl) (by (try dsimp only);exact extT) (fun hHeld=>?_)
 refine wpAnyH_take (i:=0) (v:=.agg L.toArray) rfl (by kernel_rfl) (by kernel_rfl) (by kernel_rfl) (fun _ _ _ h=>h) (yieldsIf_load_mid (by rfl) 106 (.tmp 2) rfl w.heap.size 0 (by rfl) L _ (fun _ hSw=>rangeAt_ext RL hSw) Tryz.underlying106 rfl (by rw [hL];kernel_rfl)) (by assumption) ?_
 (try simp only [redA,Act.put])
 refine wr1 1 fun Kz hKz=>?_
 (try simp only [redA])
 go_simp
 go_at_call 27
 refine (worldOk_k (h.ext (E0.trans extT))).mono ?_
 rintro e v1 ⟨rfl,hx⟩
 have Y1:Ext W0 v1:=Ext.trans extT hx
 skip
 clear hx
 refine hKz.out _ _ (by (try dsimp only);exact extT) (fun hHeld=>?_)
 clear hKz Kz
 (try simp only [redA,Act.put])
 cases q1:worldOk d
 ·
  refine wt 2 ?_
  (try simp only [redA,Act.put])
  refine wpAnyH_take (i:=3) (v:=undef) rfl (by kernel_rfl) (by kernel_rfl) (by kernel_rfl) (fun _ _ _ h=>h) (Or.inr ⟨by rfl,rfl⟩) (by assumption) ?_
  (try simp only [redA,Act.put])
  refine wpAnyH_take (i:=4) (v:=undef) rfl (by kernel_rfl) (by kernel_rfl) (by kernel_rfl) (fun _ _ _ h=>h) (Or.inr ⟨by rfl,rfl⟩) (by assumption) ?_
  (try simp only [redA,Act.put])
  refine wt 5 ?_
  (try simp only [redA,Act.put])
  refine wt 6 ?_
  (try simp only [redA,Act.put])
  refine wpAnyH_take (i:=7) (v:=undef) rfl (by kernel_rfl) (by kernel_rfl) (by kernel_rfl) (fun _ _ _ h=>h) (Or.inr ⟨by rfl,rfl⟩) (by assumption) ?_
  (try simp only [redA,Act.put])
  refine wpAnyH_take (i:=8) (v:=undef) rfl (by kernel_rfl) (by kernel_rfl) (by kernel_rfl) (fun _ _ _ h=>h) (Or.inr ⟨by rfl,rfl⟩) (by assumption) ?_
  (try simp only [redA,Act.put])
  refine wpAnyH_take (i:=9) (v:=undef) rfl (by kernel_rfl) (by kernel_rfl) (by kernel_rfl) (fun _ _ _ h=>h) (Or.inr ⟨by rfl,rfl⟩) (by assumption) ?_
  (try simp only [redA,Act.put])
  refine wpAnyH_take (i:=10) (v:=undef) rfl (by kernel_rfl) (by kernel_rfl) (by kernel_rfl) (fun _ _ _ h=>h) (Or.inr ⟨by rfl,rfl⟩) (by assumption) ?_
  (try simp only [redA,Act.put])
  refine wpAnyH_take (i:=11) (v:=undef) rfl (by kernel_rfl) (by kernel_rfl) (by kernel_rfl) (fun _ _ _ h=>h) (Or.inr ⟨by rfl,rfl⟩) (by assumption) ?_
  (try simp only [redA,Act.put])
  refine wt 12 ?_
  (try simp only [redA,Act.put])
  refine wt 13 ?_
  (try simp only [redA,Act.put])
  refine wpAnyH_done (by kernel_rfl) ?_ _
  go_wp2_with fail
  go_ret
  exact⟨by rw [show sameWorldB d e=false from by unfold sameWorldB;rw [q1];rfl];try rfl,by exact extT⟩
 have Q1:=Lib.hid q1;clear q1
 refine wt 2 ?_
 (try simp only [redA,Act.put])
 refine wpAnyH_take (i:=3) (v:=.agg M.toArray) rfl (by kernel_rfl) (by kernel_rfl) (by kernel_rfl) (fun _ _ _ h=>h) (yieldsIf_load_mid (by rfl) 106 (.tmp 3) rfl (w.heap.size+1) 0 (by rfl) M _ (fun _ hSw=>rangeAt_ext RM hSw) Tryz.underlying106 rfl (by rw [hM];kernel_rfl)) (by assumption) ?_
 (try simp only [redA,Act.put])
 refine wr1 4 fun Kz hKz=>?_
 (try simp only [redA])
 go_simp
 go_at_call 27
 refine (worldOk_k (k.ext (E0.trans extT))).mono ?_
 rintro e v2 ⟨rfl,hx⟩
 have Y2:Ext W0 v2:=Ext.trans extT hx
 skip
 clear hx
 refine hKz.out _ _ (by (try dsimp only);exact extT) (fun hHeld=>?_)
 clear hKz Kz
 (try simp only [redA,Act.put])
 cases q2:worldOk e
 ·
  refine wt 5 ?_
  (try simp only [redA,Act.put])
  refine wt 6 ?_
  (try simp only [redA,Act.put])
  refine wpAnyH_take (i:=7) (v:=undef) rfl (by kernel_rfl) (by kernel_rfl) (by kernel_rfl) (fun _ _ _ h=>h) (Or.inr ⟨by rfl,rfl⟩) (by assumption) ?_
  (try simp only [redA,Act.put])
  refine wpAnyH_take (i:=8) (v:=undef) rfl (by kernel_rfl) (by kernel_rfl) (by kernel_rfl) (fun _ _ _ h=>h) (Or.inr ⟨by rfl,rfl⟩) (by assumption) ?_
  (try simp only [redA,Act.put])
  refine wpAnyH_take (i:=9) (v:=undef) rfl (by kernel_rfl) (by kernel_rfl) (by kernel_rfl) (fun _ _ _ h=>h) (Or.inr ⟨by rfl,rfl⟩) (by assumption) ?_
  (try simp only [redA,Act.put])
  refine wpAnyH_take (i:=10) (v:=undef) rfl (by kernel_rfl) (by kernel_rfl) (by kernel_rfl) (fun _ _ _ h=>h) (Or.inr ⟨by rfl,rfl⟩) (by assumption) ?_
  (try simp only [redA,Act.put])
  refine wpAnyH_take (i:=11) (v:=undef) rfl (by kernel_rfl) (by kernel_rfl) (by kernel_rfl) (fun _ _ _ h=>h) (Or.inr ⟨by rfl,rfl⟩) (by assumption) ?_
  (try simp only [redA,Act.put])
  refine wt 12 ?_
  (try simp only [redA,Act.put])
  refine wt 13 ?_
  (try simp only [redA,Act.put])
  refine wpAnyH_done (by kernel_rfl) ?_ _
  go_wp2_with fail
  go_ret
  exact⟨by rw [show sameWorldB d e=false from by unfold sameWorldB;rw [q2];simp];try rfl,by exact extT⟩
 have Q2:=Lib.hid q2;clear q2
 refine wt 5 ?_
 (try simp only [redA,Act.put])
 refine wt 6 ?_
 (try simp only [redA,Act.put])
 refine wpAnyH_take (i:=7) (v:=.agg L.toArray) rfl (by kernel_rfl) (by kernel_rfl) (by kernel_rfl) (fun _ _ _ h=>h) (yieldsIf_load_mid (by rfl) 106 (.tmp 2) rfl w.heap.size 0 (by rfl) L _ (fun _ hSw=>rangeAt_ext RL hSw) Tryz.underlying106 rfl (by rw [hL];kernel_rfl)) (by assumption) ?_
 (try simp only [redA,Act.put])
 refine wpAnyH_take (i:=9) (v:=.agg M.toArray) rfl (by kernel_rfl) (by kernel_rfl) (by kernel_rfl) (fun _ _ _ h=>h) (yieldsIf_load_mid (by rfl) 106 (.tmp 3) rfl (w.heap.size+1) 0 (by rfl) M _ (fun _ hSw=>rangeAt_ext RM hSw) Tryz.underlying106 rfl (by rw [hM];kernel_rfl)) (by assumption) ?_
 (try simp only [redA,Act.put])
 refine wr1 8 fun Kz hKz=>?_
 (try simp only [redA])
 go_simp
 go_at_call 51
 refine (numbersOf_n (h.ext (E0.trans extT)) hl).mono ?_
 rintro e v3 ⟨_,rfl,hx,o3⟩
 have Y3:Ext W0 v3:=Ext.trans extT hx
 skip
 clear hx
 have i3:=o3.ints;obtain⟨y0,y1,y2,rfl⟩:=o3.shape;clear o3
 refine hKz.out _ _ (by (try dsimp only);exact extT) (fun hHeld=>?_)
 clear hKz Kz
 (try simp only [redA,Act.put])
 refine wr1 10 fun Kz hKz=>?_
 (try simp only [redA])
 go_simp
 go_at_call 51
 refine (numbersOf_n (k.ext (E0.trans extT)) hm).mono ?_
 rintro e v4 ⟨_,rfl,hx,o4⟩
 have Y4:Ext W0 v4:=Ext.trans extT hx
 have i3:=Ints.ext i3 (Ext.trans extT hx)
 clear hx
 have i4:=o4.ints;obtain⟨u0,u1,u2,rfl⟩:=o4.shape;clear o4
 refine hKz.out _ _ (by (try dsimp only);exact extT) (fun hHeld=>?_)
 clear hKz Kz
 (try simp only [redA,Act.put])
 refine wr1 11 fun Kz hKz=>?_
 (try simp only [redA])
 go_simp
 go_at_call 50
 refine (slEqual_c _ _ _ (worldN d) (worldN e) (i3.ext extT) (i4.ext extT)).mono ?_
 rintro e v5 ⟨rfl,hx⟩
 have Y5:Ext W0 v5:=Ext.trans extT hx
 skip
 clear hx
 refine hKz.out _ _ (by (try dsimp only);exact extT) (fun hHeld=>?_)
 clear hKz Kz
 (try simp only [redA,Act.put])
 refine wt 12 ?_
 (try simp only [redA,Act.put])
 refine wt 13 ?_
 (try simp only [redA,Act.put])
 refine wpAnyH_done (by kernel_rfl) ?_ _
 have HD:=Lib.hid (show sameWorldB d e=decide (worldN d=worldN e) from by unfold sameWorldB;rw [Q1.out,Q2.out];simp)
 go_wp2_with fail
 go_ret
 exact⟨by rw [HD.out];try rfl,by exact extT⟩
theorem sDigestOf_k {w:World} {u:Value} {d:DWorld} (h:RdWorld w u d) (hl:(worldN d).length≤1000000000):Calls Tryz.prog 13 #[u] w (RetV w (.int .i64 (digestOf d))):=by
 obtain⟨L,rfl,hLn,-⟩:=h.cells
 obtain⟨W0,hW0⟩:∃ W0,W0=w.alloc (.cells L.toArray 106):=⟨_,rfl⟩
 have E0:Ext w W0:=by rw [hW0];exact (Ext.refl _).alloc _
 have RL:W0.rangeAt w.heap.size 0 L:=by rw [hW0];exact (Bk.new _ _ _).ra
 have z0:w.heap.size≤W0.heap.size:=E0.size
 go_enter Tryz.func13,Tryz.ntmps13
 go_upto_region 1 with (fail)
 rw [← hW0];clear hW0
 go_wp2_with (first|(refine wpList_load_mid rfl 106 _ rfl w.heap.size 0 (by rfl) L _ (rangeAt_ext RL extT) Tryz.underlying106 rfl (by rw [hLn];kernel_rfl) ?_))
 refine (sWorldOk_k (h.ext E0)).mono ?_
 rintro e w1 ⟨rfl,x1⟩
 have E1:=E0.trans x1;have z1:=x1.size
 cases q:worldOk d
 ·
  go_wp2_with fail
  go_ret
  exact⟨by rw [show digestOf d=-1 from by unfold digestOf;rw [q];rfl];try rfl,by exact extT⟩
 have Q:=Lib.hid q
 go_wp2_with (first|(refine wpList_load_mid rfl 106 _ rfl w.heap.size 0 (by rfl) L _ (rangeAt_ext RL extT) Tryz.underlying106 rfl (by rw [hLn];kernel_rfl) ?_))
 refine (l22Numbers_n (h.ext E1) (worldOk_ents Q.out) hl).mono ?_
 rintro e w2 ⟨v2,rfl,x2,o⟩
 obtain⟨y0,y1,y2,rfl⟩:=o.shape
 have on:=o.ints.one
 obtain⟨a,cap,e,hcap,hm,ha⟩:=on
 cases e
 have HA:=Lib.hid ha;clear ha o
 unfold maxLen at hm
 obtain⟨l,hl'⟩:∃ l,l=worldN d:=⟨_,rfl⟩
 rw [← hl'] at HA hcap ⊢
 have HL:=Lib.hid hl';clear hl' hl
 have E2:=E1.trans x2
 go_wp2_with fail
 go_loopw [4,5] (fun s i wr=>∃ k:Nat,k≤l.length∧i=.int .i64 k∧Ext w2 wr∧∃ z:Int,s=.int .i64 z∧Hid (z=sumW (l.take k))) (fun _ i _=>l.length - (intOf i).toNat)
 case atStart=>exact⟨0,Nat.zero_le _,rfl,Ext.refl _,7,rfl,Lib.hid rfl⟩
 case round =>
  obtain⟨k,hk,rfl,he,z,rfl,hz⟩:=hrel
  by_cases hlt:k<l.length
  ·
   obtain⟨x,b1,o1,hx,rfl,_,c⟩:=HA.out k hlt
   have d0:=he.cell c
   have HD:=Lib.hid hx
   clear hx c
   go_wp2
   go_roundw
   case rel=>exact⟨k+1,by omega,by go_num,he,_,rfl,Lib.hid (by rw [sumW_take HD.out,← hz.out];rfl)⟩
   case measure=>simp [intOf];omega
  obtain rfl:k=l.length:=by omega
  have hz':=hz.out
  rw [List.take_length] at hz'
  have HZ:=Lib.hid hz';clear hz' hz
  go_wp2
  go_ret
  exact⟨by rw [show digestOf d=sumW (worldN d) from by unfold digestOf;rw [Q.out];rfl,← HL.out];exact congrArg (fun q:Int=>Ending.returned (Value.int .i64 q)) HZ.out,E2.trans he⟩
theorem sSameWorld_k {w:World} {u v:Value} {d e:DWorld} (h:RdWorld w u d) (k:RdWorld w v e) (hl:(worldN d).length≤1000000000) (hm:(worldN e).length≤1000000000):Calls Tryz.prog 9 #[u,v] w (RetV w (.bool (sameWorldB d e))):=by
 obtain⟨L,rfl,hL,-⟩:=h.cells
 obtain⟨M,rfl,hM,-⟩:=k.cells
 obtain⟨W0,hW0⟩:∃ W0,W0=(w.alloc (.cells L.toArray 106)).alloc (.cells M.toArray 106):=⟨_,rfl⟩
 have E0:Ext w W0:=by rw [hW0];exact ((Ext.refl _).alloc _).alloc _
 have RL:W0.rangeAt w.heap.size 0 L:=by rw [hW0];exact rangeAt_ext (Bk.new _ _ _).ra ((Ext.refl _).alloc _)
 have RM:W0.rangeAt (w.heap.size+1) 0 M:=by
  rw [hW0]
  have:=(Bk.new (w.alloc (.cells L.toArray 106)) 106 M).ra
  simpa using this
 go_enter Tryz.func9,Tryz.ntmps9
 go_upto_region 1 with (fail)
 rw [← hW0];clear hW0
 refine wp_region_held_drew (S:=fun w'=>Ext W0 w') (by kernel_rfl) (by (try dsimp only);exact extT) (fun hHeld=>?_)
 refine wpAnyH_take (i:=0) (v:=.agg L.toArray) rfl (by kernel_rfl) (by kernel_rfl) (by kernel_rfl) (fun _ _ _ h=>h) (yieldsIf_load_mid (by rfl) 106 (.tmp 2) rfl w.heap.size 0 (by rfl) L _ (fun _ hSw=>rangeAt_ext RL hSw) Tryz.underlying106 rfl (by rw [hL];kernel_rfl)) (by assumption) ?_
 (try simp only [redA,Act.put])
 refine wr1 1 fun Kz hKz=>?_
 (try simp only [redA])
 go_simp
 go_at_call 40
 refine (sWorldOk_k (h.ext (E0.trans extT))).mono ?_
 rintro e v1 ⟨rfl,hx⟩
 have Y1:Ext W0 v1:=Ext.trans extT hx
 skip
 clear hx
 refine hKz.out _ _ (by (try dsimp only);exact extT) (fun hHeld=>?_)
 clear hKz Kz
 (try simp only [redA,Act.put])
 cases q1:worldOk d
 ·
  refine wt 2 ?_
  (try simp only [redA,Act.put])
  refine wpAnyH_take (i:=3) (v:=undef) rfl (by kernel_rfl) (by kernel_rfl) (by kernel_rfl) (fun _ _ _ h=>h) (Or.inr ⟨by rfl,rfl⟩) (by assumption) ?_
  (try simp only [redA,Act.put])
  refine wpAnyH_take (i:=4) (v:=undef) rfl (by kernel_rfl) (by kernel_rfl) (by kernel_rfl) (fun _ _ _ h=>h) (Or.inr ⟨by rfl,rfl⟩) (by assumption) ?_
  (try simp only [redA,Act.put])
  refine wt 5 ?_
  (try simp only [redA,Act.put])
  refine wt 6 ?_
  (try simp only [redA,Act.put])
  refine wpAnyH_take (i:=7) (v:=undef) rfl (by kernel_rfl) (by kernel_rfl) (by kernel_rfl) (fun _ _ _ h=>h) (Or.inr ⟨by rfl,rfl⟩) (by assumption) ?_
  (try simp only [redA,Act.put])
  refine wpAnyH_take (i:=8) (v:=undef) rfl (by kernel_rfl) (by kernel_rfl) (by kernel_rfl) (fun _ _ _ h=>h) (Or.inr ⟨by rfl,rfl⟩) (by assumption) ?_
  (try simp only [redA,Act.put])
  refine wpAnyH_take (i:=9) (v:=undef) rfl (by kernel_rfl) (by kernel_rfl) (by kernel_rfl) (fun _ _ _ h=>h) (Or.inr ⟨by rfl,rfl⟩) (by assumption) ?_
  (try simp only [redA,Act.put])
  refine wpAnyH_take (i:=10) (v:=undef) rfl (by kernel_rfl) (by kernel_rfl) (by kernel_rfl) (fun _ _ _ h=>h) (Or.inr ⟨by rfl,rfl⟩) (by assumption) ?_
  (try simp only [redA,Act.put])
  refine wpAnyH_take (i:=11) (v:=undef) rfl (by kernel_rfl) (by kernel_rfl) (by kernel_rfl) (fun _ _ _ h=>h) (Or.inr ⟨by rfl,rfl⟩) (by assumption) ?_
  (try simp only [redA,Act.put])
  refine wt 12 ?_
  (try simp only [redA,Act.put])
  refine wt 13 ?_
  (try simp only [redA,Act.put])
  refine wpAnyH_done (by kernel_rfl) ?_ _
  go_wp2_with fail
  go_ret
  exact⟨by rw [show sameWorldB d e=false from by unfold sameWorldB;rw [q1];rfl];try rfl,by exact extT⟩
 have Q1:=Lib.hid q1;clear q1
 refine wt 2 ?_
 (try simp only [redA,Act.put])
 refine wpAnyH_take (i:=3) (v:=.agg M.toArray) rfl (by kernel_rfl) (by kernel_rfl) (by kernel_rfl) (fun _ _ _ h=>h) (yieldsIf_load_mid (by rfl) 106 (.tmp 3) rfl (w.heap.size+1) 0 (by rfl) M _ (fun _ hSw=>rangeAt_ext RM hSw) Tryz.underlying106 rfl (by rw [hM];kernel_rfl)) (by assumption) ?_
 (try simp only [redA,Act.put])
 refine wr1 4 fun Kz hKz=>?_
 (try simp only [redA])
 go_simp
 go_at_call 40
 refine (sWorldOk_k (k.ext (E0.trans extT))).mono ?_
 rintro e v2 ⟨rfl,hx⟩
 have Y2:Ext W0 v2:=Ext.trans extT hx
 skip
 clear hx
 refine hKz.out _ _ (by (try dsimp only);exact extT) (fun hHeld=>?_)
 clear hKz Kz
 (try simp only [redA,Act.put])
 cases q2:worldOk e
 ·
  refine wt 5 ?_
  (try simp only [redA,Act.put])
  refine wt 6 ?_
  (try simp only [redA,Act.put])
  refine wpAnyH_take (i:=7) (v:=undef) rfl (by kernel_rfl) (by kernel_rfl) (by kernel_rfl) (fun _ _ _ h=>h) (Or.inr ⟨by rfl,rfl⟩) (by assumption) ?_
  (try simp only [redA,Act.put])
  refine wpAnyH_take (i:=8) (v:=undef) rfl (by kernel_rfl) (by kernel_rfl) (by kernel_rfl) (fun _ _ _ h=>h) (Or.inr ⟨by rfl,rfl⟩) (by assumption) ?_
  (try simp only [redA,Act.put])
  refine wpAnyH_take (i:=9) (v:=undef) rfl (by kernel_rfl) (by kernel_rfl) (by kernel_rfl) (fun _ _ _ h=>h) (Or.inr ⟨by rfl,rfl⟩) (by assumption) ?_
  (try simp only [redA,Act.put])
  refine wpAnyH_take (i:=10) (v:=undef) rfl (by kernel_rfl) (by kernel_rfl) (by kernel_rfl) (fun _ _ _ h=>h) (Or.inr ⟨by rfl,rfl⟩) (by assumption) ?_
  (try simp only [redA,Act.put])
  refine wpAnyH_take (i:=11) (v:=undef) rfl (by kernel_rfl) (by kernel_rfl) (by kernel_rfl) (fun _ _ _ h=>h) (Or.inr ⟨by rfl,rfl⟩) (by assumption) ?_
  (try simp only [redA,Act.put])
  refine wt 12 ?_
  (try simp only [redA,Act.put])
  refine wt 13 ?_
  (try simp only [redA,Act.put])
  refine wpAnyH_done (by kernel_rfl) ?_ _
  go_wp2_with fail
  go_ret
  exact⟨by rw [show sameWorldB d e=false from by unfold sameWorldB;rw [q2];simp];try rfl,by exact extT⟩
 have Q2:=Lib.hid q2;clear q2
 refine wt 5 ?_
 (try simp only [redA,Act.put])
 refine wt 6 ?_
 (try simp only [redA,Act.put])
 refine wpAnyH_take (i:=7) (v:=.agg L.toArray) rfl (by kernel_rfl) (by kernel_rfl) (by kernel_rfl) (fun _ _ _ h=>h) (yieldsIf_load_mid (by rfl) 106 (.tmp 2) rfl w.heap.size 0 (by rfl) L _ (fun _ hSw=>rangeAt_ext RL hSw) Tryz.underlying106 rfl (by rw [hL];kernel_rfl)) (by assumption) ?_
 (try simp only [redA,Act.put])
 refine wpAnyH_take (i:=9) (v:=.agg M.toArray) rfl (by kernel_rfl) (by kernel_rfl) (by kernel_rfl) (fun _ _ _ h=>h) (yieldsIf_load_mid (by rfl) 106 (.tmp 3) rfl (w.heap.size+1) 0 (by rfl) M _ (fun _ hSw=>rangeAt_ext RM hSw) Tryz.underlying106 rfl (by rw [hM];kernel_rfl)) (by assumption) ?_
 (try simp only [redA,Act.put])
 refine wr1 8 fun Kz hKz=>?_
 (try simp only [redA])
 go_simp
 go_at_call 42
 refine (l22Numbers_n (h.ext (E0.trans extT)) (worldOk_ents Q1.out) hl).mono ?_
 rintro e v3 ⟨_,rfl,hx,o3⟩
 have Y3:Ext W0 v3:=Ext.trans extT hx
 skip
 clear hx
 have i3:=o3.ints;obtain⟨y0,y1,y2,rfl⟩:=o3.shape;clear o3
 refine hKz.out _ _ (by (try dsimp only);exact extT) (fun hHeld=>?_)
 clear hKz Kz
 (try simp only [redA,Act.put])
 refine wr1 10 fun Kz hKz=>?_
 (try simp only [redA])
 go_simp
 go_at_call 42
 refine (l22Numbers_n (k.ext (E0.trans extT)) (worldOk_ents Q2.out) hm).mono ?_
 rintro e v4 ⟨_,rfl,hx,o4⟩
 have Y4:Ext W0 v4:=Ext.trans extT hx
 have i3:=Ints.ext i3 (Ext.trans extT hx)
 clear hx
 have i4:=o4.ints;obtain⟨u0,u1,u2,rfl⟩:=o4.shape;clear o4
 refine hKz.out _ _ (by (try dsimp only);exact extT) (fun hHeld=>?_)
 clear hKz Kz
 (try simp only [redA,Act.put])
 refine wr1 11 fun Kz hKz=>?_
 (try simp only [redA])
 go_simp
 go_at_call 41
 refine (sSameRow_c _ _ _ (worldN d) (worldN e) (i3.ext extT) (i4.ext extT)).mono ?_
 rintro e v5 ⟨rfl,hx⟩
 have Y5:Ext W0 v5:=Ext.trans extT hx
 skip
 clear hx
 refine hKz.out _ _ (by (try dsimp only);exact extT) (fun hHeld=>?_)
 clear hKz Kz
 (try simp only [redA,Act.put])
 refine wt 12 ?_
 (try simp only [redA,Act.put])
 refine wt 13 ?_
 (try simp only [redA,Act.put])
 refine wpAnyH_done (by kernel_rfl) ?_ _
 have HD:=Lib.hid (show sameWorldB d e=decide (worldN d=worldN e) from by unfold sameWorldB;rw [Q1.out,Q2.out];simp)
 go_wp2_with fail
 go_ret
 exact⟨by rw [HD.out];try rfl,by exact extT⟩
end Go.Proofs.YtkpmbocbbgocbaaGreat
