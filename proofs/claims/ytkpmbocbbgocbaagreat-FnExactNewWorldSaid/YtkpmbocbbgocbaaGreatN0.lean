/- HelpV KQ KQ2 KQL KQY. -/
import Derived.Test.YtkpmbocbbgocbaaGreatGa
import Derived.Test.YtkpmbocbbgocbaaGreatB2
import Derived.Test.YtkpmbocbbgocbaaGreatB3
import Derived.Test.YtkpmbocbbgocbaaGreatGl
import Derived.Test.YtkpmbocbbgocbaaGreatB1
set_option linter.unusedSimpArgs false
set_option linter.unusedVariables false
set_option maxHeartbeats 8000000
set_option maxRecDepth 100000
namespace Go.G8
open Go.RowKit
def runB (q:Int) (n:Nat):List Bool:=(List.range n).map fun i=>((q+(i:Nat)) % 3 == 0)
theorem length_runB (q:Int) (n:Nat):(runB q n).length=n:=by simp [runB]
theorem runB_cell {q q':Int} {n k:Nat} (h:k<n) (e:q'=q+(k:Nat)):((runB q n).map Value.bool)[k]?=some (.bool (q' % 3 == 0)):=by
 subst e
 simp [runB,h]
end Go.G8
namespace Go.Proofs.YtkpmbocbbgocbaaGreat
open Go.RowKit Go.G8
theorem markBoolS_c (w:World) (B:Nat) (v:Value) (xs:List Bool) (L:Nat) (hL:xs.length=L) (q:Int) (h:Own B 4 1 w v (xs.map .bool)) (h0:0≤q) (h1:q+(L:Nat)≤4611686018427387904) :
  Calls Tryz.prog 64 #[v,.int .i64 q] w (RetM w (feet [v]) (.int .i64 (q+(L:Nat))) fun w'=>Own B 4 1 w' v ((runB q L).map .bool)):=by
 obtain⟨a,len,ca,rfl,hl,hca,hm,hop⟩:=Own.open_ h
 rw [List.length_map] at hl
 obtain rfl:L=len:=by omega
 unfold maxLen at hm
 rcases hop with h00|⟨g,cur0,rfl,hB,hb0,hs0,-⟩
 ·
  subst h00
  have hfin:Own B 4 1 w (.slice a 0 ca) ((runB q 0).map .bool):=by
   refine Own.empty h ?_ _ ?_
   ·
    obtain rfl:xs=[]:=List.eq_nil_of_length_eq_zero hL
    rfl
   simp [runB]
  have HF:=Lib.hid hfin
  clear hfin h hL hl
  have hq:q+((0:Nat):Int)=q:=by simp
  rw [hq]
  clear hq
  go_enter Tryz.func64,Tryz.ntmps64
  go_wp2
  go_loopw [1,5] (fun kk i wr=>kk=.int .i64 q∧i=.int .i64 0∧wr=w) (fun _ _ _=>0)
  case atStart=>exact⟨rfl,rfl,rfl⟩
  case round =>
   obtain⟨rfl,rfl,rfl⟩:=hrel
   go_wp2
   go_ret
   exact⟨rfl,Upd.refl _ _,HF.out⟩
 have HS:=Lib.hid hs0
 have HC:=Lib.hid (show L≤ca by have:=Nat.mul_le_mul_right 1 hca;omega)
 clear hs0 hL hl h
 go_enter Tryz.func64,Tryz.ntmps64
 go_wp2
 go_loopw [1,5] (fun kk i wr=>∃ k:Nat,k≤L∧i=.int .i64 k∧(∃ q':Int,q'=q+(k:Nat)∧kk=.int .i64 q')∧Upd w wr [g]∧∃ cur,Blk wr g 4 cur∧cur.size=ca∧Pre cur (k) ((runB q (L)).map .bool)) (fun _ i _=>L - (intOf i).toNat)
 case atStart=>exact⟨0,Nat.zero_le _,rfl,⟨q,by simp,rfl⟩,Upd.refl _ _,cur0,hb0,by simpa using HS.out,by simpa using Pre.zero _ _⟩
 case round =>
  obtain⟨k,hk,rfl,⟨q',hq',rfl⟩,he,cur,hblk,hsz,hpre⟩:=hrel
  clear HS
  have HS:=Lib.hid hsz
  have HQ:=Lib.hid hq'
  by_cases hlt:k<L
  ·
   have hq1:0≤q'∧q'+1≤4611686018427387904:=by have:=mul_lt_of hlt 1;omega
   obtain⟨hq1,hq2⟩:=hq1
   clear hsz hq'
   obtain⟨z0,g0⟩:∃ z,wr.cell? ⟨g,k,none⟩=some z:=⟨_,by rw [hblk.cell];exact Array.getElem?_eq_getElem (by have:=HS.out;have:=HC.out;omega)⟩
   have f0:=hblk.frozen (k)
   go_wp2
   go_roundw
   case rel=>exact⟨k+1,by omega,by go_num,⟨_,by have:=HQ.out;omega,rfl⟩,(he.setCell (by simp) _),_,(hblk.set_ _ _),by simp;exact HS.out,hpre.set (runB_cell hlt HQ.out) (by have:=HS.out;have:=HC.out;omega)⟩
   case measure=>simp [intOf];omega
  obtain rfl:k=L:=by omega
  clear hsz hq'
  go_wp2
  go_ret
  refine⟨congrArg (fun z=>Ending.returned (.int .i64 z)) HQ.out,he,Own.of_blk hblk hB (by simpa using HS.out) (by simp [length_runB]) hca (by unfold maxLen;omega) (hpre.cast oM)⟩
theorem heldBoolS_c (w:World) (v:Value) (L:Nat) (q:Int) (h:Sl 1 w v ((runB q L).map .bool)) (h0:0≤q) (h1:q+(L:Nat)≤4611686018427387904) :
  Calls Tryz.prog 95 #[v,.int .i64 q] w (RetV w (.int .i64 (q+(L:Nat)))):=by
 obtain⟨a,ca,rfl,hca,hm,ha⟩:=h.bools
 rw [length_runB] at hca ha ⊢
 have HA:=Lib.hid ha
 clear ha h
 unfold maxLen at hm
 go_enter Tryz.func95,Tryz.ntmps95
 go_wp2
 go_loopw [1,5] (fun kk i wr=>∃ k:Nat,k≤L∧i=.int .i64 k∧(∃ q':Int,q'=q+(k:Nat)∧kk=.int .i64 q')∧Ext w wr) (fun _ i _=>L - (intOf i).toNat)
 case atStart=>exact⟨0,Nat.zero_le _,rfl,⟨q,by simp,rfl⟩,Ext.refl _⟩
 case round =>
  obtain⟨k,hk,rfl,⟨q',hq',rfl⟩,he⟩:=hrel
  by_cases hlt:k<L
  ·
   obtain⟨x0,b1,o1,hx0,rfl,_,c10⟩:=HA.out k hlt
   obtain rfl:(q' % 3 == 0)=x0:=by
    have h2:=runB_cell hlt hq'
    rw [List.getElem?_map,hx0] at h2
    simpa using h2.symm
   have d0:=he.cell c10
   have hq1:0≤q'∧q'+1≤4611686018427387904:=by have:=mul_lt_of hlt 1;omega
   obtain⟨hq1,hq2⟩:=hq1
   have HQ:=Lib.hid hq'
   clear c10 hx0 hq'
   go_wp2
   repeat (go_quiet (fail);go_wp2)
   go_roundw
   case rel=>exact⟨k+1,by omega,by go_num,⟨_,by have:=HQ.out;omega,rfl⟩,by exact extT⟩
   case measure=>simp [intOf];omega
  obtain rfl:k=L:=by omega
  have HQ:=Lib.hid hq'
  clear hq'
  go_wp2
  go_ret
  exact⟨congrArg (fun z=>Ending.returned (.int .i64 z)) HQ.out,he⟩
end Go.Proofs.YtkpmbocbbgocbaaGreat
namespace Go.G8
open Go.RowKit
theorem cell_updF {w V:World} {g o:Nat} {v:Value} {fs:List Nat} (h:w.cell? ⟨g,o,none⟩=some v) (u:Upd w V fs) (hn:g ∉ fs):V.cell? ⟨g,o,none⟩=some v:=by
 have hb:=u.block g (World.block_lt_of_cell? w _ h) hn
 unfold World.cell? at h ⊢
 rw [hb];exact h
theorem rangeAt_updF {w V:World} {g o:Nat} {cs:List Value} {fs:List Nat} (h:w.rangeAt g o cs) (u:Upd w V fs) (hn:g ∉ fs):V.rangeAt g o cs:=fun j v hv=>cell_updF (h j v hv) u hn
theorem pw_at {l:List (List Nat)} (h:l.Pairwise (fun a b=>∀ k,k ∈ a→k ∈ b→False)) (i j:Nat) (hij:i<j) (hj:j<l.length):∀ k,k ∈ l[i]'oM→k ∈ l[j]→False:=List.pairwise_iff_getElem.1 h i j oM hj hij
end Go.G8
namespace Go.Proofs.YtkpmbocbbgocbaaGreat
open Go.RowKit Go.G8
def nmInt64S (l:List Int):Nat:=l.length
def MkInt64S (B:Nat) (w:World) (v:Value) (l:List Int) (F:List Nat) (q:Int):Prop:=OwnI B 2 1 w v (run q (l.length))∧F=feet [v]
section
variable {B B':Nat} {w w':World} {v:Value} {l:List Int} {F:List Nat} {q:Int}
theorem MkInt64S.ext (h:MkInt64S B w v l F q) (x:Ext w w'):MkInt64S B w' v l F q:=⟨Own.ext h.1 x,h.2⟩
theorem MkInt64S.upd (h:MkInt64S B w v l F q) {fs:List Nat} (x:Upd w w' fs) (hn:∀ k,k ∈ F→k ∈ fs→False):MkInt64S B w' v l F q:=by
 obtain⟨h,rfl⟩:=h
 exact⟨OwnI.upd' h x hn,rfl⟩
theorem mark_Int64S (h:OwInt64S B w v l F) (hq0:0≤q) (hq1:q+(nmInt64S l:Nat)≤4611686018427387904):Calls Tryz.prog 19 #[v,.int .i64 q] w (RetM w F (.int .i64 (q+(nmInt64S l:Nat))) fun w'=>MkInt64S B w' v l F q):=by
 obtain⟨h,rfl⟩:=h
 refine (markInt64S_c w B v _ l.length rfl q h hq0 hq1).mono ?_
 rintro e w' ⟨rfl,hx,g⟩
 exact⟨rfl,hx,g,rfl⟩
theorem held_Int64S (h:MkInt64S B w v l F q) (hq0:0≤q) (hq1:q+(nmInt64S l:Nat)≤4611686018427387904):Calls Tryz.prog 20 #[v,.int .i64 q] w (RetV w (.int .i64 (q+(nmInt64S l:Nat)))):=heldInt64S_c w v l.length q h.1.ints hq0 hq1
end
def nmMarkS (l:List DMark):Nat:=l.length * 3
def MkMarkS (B:Nat) (w:World) (v:Value) (l:List DMark) (F:List Nat) (q:Int):Prop:=OwnI B 290 3 w v (run q (l.length * 3))∧F=feet [v]
section
variable {B B':Nat} {w w':World} {v:Value} {l:List DMark} {F:List Nat} {q:Int}
theorem MkMarkS.ext (h:MkMarkS B w v l F q) (x:Ext w w'):MkMarkS B w' v l F q:=⟨Own.ext h.1 x,h.2⟩
theorem MkMarkS.upd (h:MkMarkS B w v l F q) {fs:List Nat} (x:Upd w w' fs) (hn:∀ k,k ∈ F→k ∈ fs→False):MkMarkS B w' v l F q:=by
 obtain⟨h,rfl⟩:=h
 exact⟨OwnI.upd' h x hn,rfl⟩
theorem mark_MarkS (h:OwMarkS B w v l F) (hq0:0≤q) (hq1:q+(nmMarkS l:Nat)≤4611686018427387904):Calls Tryz.prog 155 #[v,.int .i64 q] w (RetM w F (.int .i64 (q+(nmMarkS l:Nat))) fun w'=>MkMarkS B w' v l F q):=by
 obtain⟨h,rfl⟩:=h
 refine (markMarkS_c w B v _ l.length (length_flMark _) q h hq0 hq1).mono ?_
 rintro e w' ⟨rfl,hx,g⟩
 exact⟨rfl,hx,g,rfl⟩
theorem held_MarkS (h:MkMarkS B w v l F q) (hq0:0≤q) (hq1:q+(nmMarkS l:Nat)≤4611686018427387904):Calls Tryz.prog 191 #[v,.int .i64 q] w (RetV w (.int .i64 (q+(nmMarkS l:Nat)))):=heldMarkS_c w v l.length q h.1.ints hq0 hq1
end
def nmAckS (l:List DAck):Nat:=l.length * 4
def MkAckS (B:Nat) (w:World) (v:Value) (l:List DAck) (F:List Nat) (q:Int):Prop:=OwnI B 284 4 w v (run q (l.length * 4))∧F=feet [v]
section
variable {B B':Nat} {w w':World} {v:Value} {l:List DAck} {F:List Nat} {q:Int}
theorem MkAckS.ext (h:MkAckS B w v l F q) (x:Ext w w'):MkAckS B w' v l F q:=⟨Own.ext h.1 x,h.2⟩
theorem MkAckS.upd (h:MkAckS B w v l F q) {fs:List Nat} (x:Upd w w' fs) (hn:∀ k,k ∈ F→k ∈ fs→False):MkAckS B w' v l F q:=by
 obtain⟨h,rfl⟩:=h
 exact⟨OwnI.upd' h x hn,rfl⟩
theorem mark_AckS (h:OwAckS B w v l F) (hq0:0≤q) (hq1:q+(nmAckS l:Nat)≤4611686018427387904):Calls Tryz.prog 156 #[v,.int .i64 q] w (RetM w F (.int .i64 (q+(nmAckS l:Nat))) fun w'=>MkAckS B w' v l F q):=by
 obtain⟨h,rfl⟩:=h
 refine (markAckS_c w B v _ l.length (length_flAck _) q h hq0 hq1).mono ?_
 rintro e w' ⟨rfl,hx,g⟩
 exact⟨rfl,hx,g,rfl⟩
theorem held_AckS (h:MkAckS B w v l F q) (hq0:0≤q) (hq1:q+(nmAckS l:Nat)≤4611686018427387904):Calls Tryz.prog 192 #[v,.int .i64 q] w (RetV w (.int .i64 (q+(nmAckS l:Nat)))):=heldAckS_c w v l.length q h.1.ints hq0 hq1
end
def nmWantS (l:List DWant):Nat:=l.length * 7
def MkWantS (B:Nat) (w:World) (v:Value) (l:List DWant) (F:List Nat) (q:Int):Prop:=OwnI B 161 7 w v (run q (l.length * 7))∧F=feet [v]
section
variable {B B':Nat} {w w':World} {v:Value} {l:List DWant} {F:List Nat} {q:Int}
theorem MkWantS.ext (h:MkWantS B w v l F q) (x:Ext w w'):MkWantS B w' v l F q:=⟨Own.ext h.1 x,h.2⟩
theorem MkWantS.upd (h:MkWantS B w v l F q) {fs:List Nat} (x:Upd w w' fs) (hn:∀ k,k ∈ F→k ∈ fs→False):MkWantS B w' v l F q:=by
 obtain⟨h,rfl⟩:=h
 exact⟨OwnI.upd' h x hn,rfl⟩
theorem mark_WantS (h:OwWantS B w v l F) (hq0:0≤q) (hq1:q+(nmWantS l:Nat)≤4611686018427387904):Calls Tryz.prog 31 #[v,.int .i64 q] w (RetM w F (.int .i64 (q+(nmWantS l:Nat))) fun w'=>MkWantS B w' v l F q):=by
 obtain⟨h,rfl⟩:=h
 refine (markWantS_c w B v _ l.length (length_flWant _) q h hq0 hq1).mono ?_
 rintro e w' ⟨rfl,hx,g⟩
 exact⟨rfl,hx,g,rfl⟩
theorem held_WantS (h:MkWantS B w v l F q) (hq0:0≤q) (hq1:q+(nmWantS l:Nat)≤4611686018427387904):Calls Tryz.prog 196 #[v,.int .i64 q] w (RetV w (.int .i64 (q+(nmWantS l:Nat)))):=heldWantS_c w v l.length q h.1.ints hq0 hq1
end
def nmGotS (l:List DGot):Nat:=l.length * 4
def MkGotS (B:Nat) (w:World) (v:Value) (l:List DGot) (F:List Nat) (q:Int):Prop:=OwnI B 276 4 w v (run q (l.length * 4))∧F=feet [v]
section
variable {B B':Nat} {w w':World} {v:Value} {l:List DGot} {F:List Nat} {q:Int}
theorem MkGotS.ext (h:MkGotS B w v l F q) (x:Ext w w'):MkGotS B w' v l F q:=⟨Own.ext h.1 x,h.2⟩
theorem MkGotS.upd (h:MkGotS B w v l F q) {fs:List Nat} (x:Upd w w' fs) (hn:∀ k,k ∈ F→k ∈ fs→False):MkGotS B w' v l F q:=by
 obtain⟨h,rfl⟩:=h
 exact⟨OwnI.upd' h x hn,rfl⟩
theorem mark_GotS (h:OwGotS B w v l F) (hq0:0≤q) (hq1:q+(nmGotS l:Nat)≤4611686018427387904):Calls Tryz.prog 160 #[v,.int .i64 q] w (RetM w F (.int .i64 (q+(nmGotS l:Nat))) fun w'=>MkGotS B w' v l F q):=by
 obtain⟨h,rfl⟩:=h
 refine (markGotS_c w B v _ l.length (length_flGot _) q h hq0 hq1).mono ?_
 rintro e w' ⟨rfl,hx,g⟩
 exact⟨rfl,hx,g,rfl⟩
theorem held_GotS (h:MkGotS B w v l F q) (hq0:0≤q) (hq1:q+(nmGotS l:Nat)≤4611686018427387904):Calls Tryz.prog 197 #[v,.int .i64 q] w (RetV w (.int .i64 (q+(nmGotS l:Nat)))):=heldGotS_c w v l.length q h.1.ints hq0 hq1
end
def nmLinkS (l:List DLink):Nat:=l.length * 2
def MkLinkS (B:Nat) (w:World) (v:Value) (l:List DLink) (F:List Nat) (q:Int):Prop:=OwnI B 258 2 w v (run q (l.length * 2))∧F=feet [v]
section
variable {B B':Nat} {w w':World} {v:Value} {l:List DLink} {F:List Nat} {q:Int}
theorem MkLinkS.ext (h:MkLinkS B w v l F q) (x:Ext w w'):MkLinkS B w' v l F q:=⟨Own.ext h.1 x,h.2⟩
theorem MkLinkS.upd (h:MkLinkS B w v l F q) {fs:List Nat} (x:Upd w w' fs) (hn:∀ k,k ∈ F→k ∈ fs→False):MkLinkS B w' v l F q:=by
 obtain⟨h,rfl⟩:=h
 exact⟨OwnI.upd' h x hn,rfl⟩
theorem mark_LinkS (h:OwLinkS B w v l F) (hq0:0≤q) (hq1:q+(nmLinkS l:Nat)≤4611686018427387904):Calls Tryz.prog 162 #[v,.int .i64 q] w (RetM w F (.int .i64 (q+(nmLinkS l:Nat))) fun w'=>MkLinkS B w' v l F q):=by
 obtain⟨h,rfl⟩:=h
 refine (markLinkS_c w B v _ l.length (length_flLink _) q h hq0 hq1).mono ?_
 rintro e w' ⟨rfl,hx,g⟩
 exact⟨rfl,hx,g,rfl⟩
theorem held_LinkS (h:MkLinkS B w v l F q) (hq0:0≤q) (hq1:q+(nmLinkS l:Nat)≤4611686018427387904):Calls Tryz.prog 199 #[v,.int .i64 q] w (RetV w (.int .i64 (q+(nmLinkS l:Nat)))):=heldLinkS_c w v l.length q h.1.ints hq0 hq1
end
def nmEntryS (l:List DEntry):Nat:=l.length * 9
def MkEntryS (B:Nat) (w:World) (v:Value) (l:List DEntry) (F:List Nat) (q:Int):Prop:=OwnI B 281 9 w v (run q (l.length * 9))∧F=feet [v]
section
variable {B B':Nat} {w w':World} {v:Value} {l:List DEntry} {F:List Nat} {q:Int}
theorem MkEntryS.ext (h:MkEntryS B w v l F q) (x:Ext w w'):MkEntryS B w' v l F q:=⟨Own.ext h.1 x,h.2⟩
theorem MkEntryS.upd (h:MkEntryS B w v l F q) {fs:List Nat} (x:Upd w w' fs) (hn:∀ k,k ∈ F→k ∈ fs→False):MkEntryS B w' v l F q:=by
 obtain⟨h,rfl⟩:=h
 exact⟨OwnI.upd' h x hn,rfl⟩
theorem mark_EntryS (h:OwEntryS B w v l F) (hq0:0≤q) (hq1:q+(nmEntryS l:Nat)≤4611686018427387904):Calls Tryz.prog 258 #[v,.int .i64 q] w (RetM w F (.int .i64 (q+(nmEntryS l:Nat))) fun w'=>MkEntryS B w' v l F q):=by
 obtain⟨h,rfl⟩:=h
 refine (markEntryS_c w B v _ l.length (length_flEntry _) q h hq0 hq1).mono ?_
 rintro e w' ⟨rfl,hx,g⟩
 exact⟨rfl,hx,g,rfl⟩
theorem held_EntryS (h:MkEntryS B w v l F q) (hq0:0≤q) (hq1:q+(nmEntryS l:Nat)≤4611686018427387904):Calls Tryz.prog 295 #[v,.int .i64 q] w (RetV w (.int .i64 (q+(nmEntryS l:Nat)))):=heldEntryS_c w v l.length q h.1.ints hq0 hq1
end
def nmMsgS (l:List DMsg):Nat:=numMsgs (nestMsg l)
def MkMsgS (B:Nat) (w:World) (v:Value) (l:List DMsg) (F:List Nat) (q:Int):Prop:=MkMsgs B w v (nestMsg l) F q
section
variable {B B':Nat} {w w':World} {v:Value} {l:List DMsg} {F:List Nat} {q:Int}
theorem MkMsgS.ext (h:MkMsgS B w v l F q) (x:Ext w w'):MkMsgS B w' v l F q:=MkMsgs.ext h x
theorem MkMsgS.upd (h:MkMsgS B w v l F q) {fs:List Nat} (x:Upd w w' fs) (hn:∀ k,k ∈ F→k ∈ fs→False):MkMsgS B w' v l F q:=by
 obtain⟨s,h,rfl⟩:=h
 exact⟨s,h.upd x hn,rfl⟩
theorem mark_MsgS (h:OwMsgS B w v l F) (hq0:0≤q) (hq1:q+(nmMsgS l:Nat)≤4611686018427387904):Calls Tryz.prog 161 #[v,.int .i64 q] w (RetM w F (.int .i64 (q+(nmMsgS l:Nat))) fun w'=>MkMsgS B w' v l F q):=mark_Msgs h hq0 hq1
theorem held_MsgS (h:MkMsgS B w v l F q) (hq0:0≤q) (hq1:q+(nmMsgS l:Nat)≤4611686018427387904):Calls Tryz.prog 198 #[v,.int .i64 q] w (RetV w (.int .i64 (q+(nmMsgS l:Nat)))):=held_Msgs h hq0 hq1
end
def nmBoolS (l:List Bool):Nat:=l.length
def MkBoolS (B:Nat) (w:World) (v:Value) (l:List Bool) (F:List Nat) (q:Int):Prop:=Own B 4 1 w v ((runB q l.length).map .bool)∧F=feet [v]
section
variable {B B':Nat} {w w':World} {v:Value} {l:List Bool} {F:List Nat} {q:Int}
theorem MkBoolS.ext (h:MkBoolS B w v l F q) (x:Ext w w'):MkBoolS B w' v l F q:=⟨Own.ext h.1 x,h.2⟩
theorem MkBoolS.upd (h:MkBoolS B w v l F q) {fs:List Nat} (x:Upd w w' fs) (hn:∀ k,k ∈ F→k ∈ fs→False):MkBoolS B w' v l F q:=by
 obtain⟨h,rfl⟩:=h
 exact⟨Own.upd h x (fun k e hk=>hn k (by simp [feet,e]) hk),rfl⟩
theorem OwBoolS.upd (h:OwBoolS B w v l F) {fs:List Nat} (x:Upd w w' fs) (hn:∀ k,k ∈ F→k ∈ fs→False):OwBoolS B w' v l F:=by
 obtain⟨h,rfl⟩:=h
 exact⟨Own.upd h x (fun k e hk=>hn k (by simp [feet,e]) hk),rfl⟩
theorem mark_BoolS (h:OwBoolS B w v l F) (hq0:0≤q) (hq1:q+(nmBoolS l:Nat)≤4611686018427387904):Calls Tryz.prog 64 #[v,.int .i64 q] w (RetM w F (.int .i64 (q+(nmBoolS l:Nat))) fun w'=>MkBoolS B w' v l F q):=by
 obtain⟨h,rfl⟩:=h
 refine (markBoolS_c w B v _ l.length rfl q h hq0 hq1).mono ?_
 rintro e w' ⟨rfl,hx,g⟩
 exact⟨rfl,hx,g,rfl⟩
theorem held_BoolS (h:MkBoolS B w v l F q) (hq0:0≤q) (hq1:q+(nmBoolS l:Nat)≤4611686018427387904):Calls Tryz.prog 95 #[v,.int .i64 q] w (RetV w (.int .i64 (q+(nmBoolS l:Nat)))):=heldBoolS_c w v l.length q h.1.sl hq0 hq1
end
theorem MkDisk.upd {B:Nat} {w w':World} {v:Value} {d:DDisk} {F:List Nat} {q:Int} (h:MkDisk B w v d F q) {fs:List Nat} (x:Upd w w' fs) (hn:∀ k,k ∈ F→k ∈ fs→False):MkDisk B w' v d F q:=by
 obtain⟨t0,t1,s0,s1,e,h0,h1,rfl⟩:=h
 exact⟨t0,t1,s0,s1,e,h0.upd x (fun k h=>hn k (List.mem_append_left _ h)),h1.upd x (fun k h=>hn k (List.mem_append_right _ h)),rfl⟩
def MkStoreK (B:Nat) (w:World) (v:Value) (s:DStore) (F:List Nat) (q:Int):Prop:=∀ w' fs,Upd w w' fs→(∀ k,k ∈ F→k ∈ fs→False)→MkStore B w' v s F q
section
variable {B B':Nat} {w w':World} {v:Value} {s:DStore} {F:List Nat} {q:Int}
theorem MkStoreK.upd (h:MkStoreK B w v s F q) {fs:List Nat} (x:Upd w w' fs) (hn:∀ k,k ∈ F→k ∈ fs→False):MkStoreK B w' v s F q:=fun w2 gs y hy=>h w2 (fs ++ gs) ((x.more (fun a ha=>List.mem_append_left _ ha)).trans (y.more (fun a ha=>List.mem_append_right _ ha))) (fun a ha hb=>(List.mem_append.1 hb).elim (hn a ha) (hy a ha))
theorem MkStoreK.ext (h:MkStoreK B w v s F q) (x:Ext w w'):MkStoreK B w' v s F q:=h.upd (x.upd []) (fun _ _ h=>by cases h)
theorem markK_Store (h:OwStore B w v s F) (hq0:0≤q) (hq1:q+(nStore s:Nat)≤4611686018427387904):Calls Tryz.prog 60 #[v,.int .i64 q] w (RetM w F (.int .i64 (q+(nStore s:Nat))) fun w'=>MkStoreK B w' v s F q):=by
 obtain⟨t0,t1,t4,t5,s0,s1,rfl,h0,h1,h4,h5,hd,rfl⟩:=h
 have a04:=ns_apart h0 h4 dC dC;have a05:=ns_apart h0 h5 dC dC
 have a14:=ns_apart h1 h4 dC dC;have a15:=ns_apart h1 h5 dC dC
 unfold nStore at hq1 ⊢
 refine (markStore_c w B t0 _ s0 t1 _ s1 _ _ t4 _ s.State.Pairs.length (length_flPair _) t5 _ s.State.Jobs.length (length_flJob _) _ _ _ _ _ _ q h0 h1 h4 h5 hd (fun k hk hk'=>?_) (i_apart h4 h5 dC) hq0 oM).mono ?_
 ·
  rcases List.mem_append.1 hk with h|h <;> rcases List.mem_append.1 hk' with h'|h'
  ·
   exact a04 k h h'
  ·
   exact a05 k h h'
  ·
   exact a14 k h h'
  exact a15 k h h'
 rintro e w' ⟨rfl,hx,g0,g1,g4,g5⟩
 refine⟨congrArg (fun z:Int=>Ending.returned (Value.int .i64 z)) oM,hx,fun w2 fs x hn=>⟨t0,t1,t4,t5,s0,s1,rfl,?_,?_,?_,?_⟩⟩
 ·
  exact g0.upd x (fun k h=>hn k (List.mem_append_left _ (List.mem_append_left _ h)))
 ·
  exact g1.upd x (fun k h=>hn k (List.mem_append_left _ (List.mem_append_right _ h)))
 ·
  exact OwnI.upd' g4 x (fun k h=>hn k (List.mem_append_right _ (List.mem_append_left _ h)))
 exact OwnI.upd' g5 x (fun k h=>hn k (List.mem_append_right _ (List.mem_append_right _ h)))
theorem heldK_Store (h:MkStoreK B w v s F q) (hq0:0≤q) (hq1:q+(nStore s:Nat)≤4611686018427387904):Calls Tryz.prog 91 #[v,.int .i64 q] w (RetV w (.int .i64 (q+(nStore s:Nat)))):=held_Store (h w [] (Upd.refl _ _) (fun _ _ h=>by cases h)) hq0 hq1
end
def nmTwo (d:DTwo):Nat:=nDisk d.A+nDisk d.B
def MkTwo (B:Nat) (w:World) (v:Value) (d:DTwo) (F:List Nat) (q:Int):Prop:=∃ p0:List Value,∃ p1:List Value,∃ F0:List Nat,∃ F1:List Nat,v=.agg (p0 ++ (p1 ++ [])).toArray∧p0.length=2∧p1.length=2∧MkDisk B w (.agg p0.toArray) d.A F0 (q)∧MkDisk B w (.agg p1.toArray) d.B F1 (q+(nDisk d.A:Nat))∧F=F0 ++ F1
section
variable {B B':Nat} {w w':World} {v:Value} {d:DTwo} {F:List Nat} {q:Int}
theorem MkTwo.ext (h:MkTwo B w v d F q) (x:Ext w w'):MkTwo B w' v d F q:=by
 obtain⟨p0,p1,F0,F1,e,l0,l1,m0,m1,hF⟩:=h
 exact⟨p0,p1,F0,F1,e,l0,l1,m0.ext x,m1.ext x,hF⟩
theorem MkTwo.upd (h:MkTwo B w v d F q) {fs:List Nat} (x:Upd w w' fs) (hn:∀ k,k ∈ F→k ∈ fs→False):MkTwo B w' v d F q:=by
 obtain⟨p0,p1,F0,F1,e,l0,l1,m0,m1,rfl⟩:=h
 exact⟨p0,p1,F0,F1,e,l0,l1,m0.upd x (fun k h=>hn k (by simp [h])),m1.upd x (fun k h=>hn k (by simp [h])),rfl⟩
theorem OwTwo.upd (h:OwTwo B w v d F) {fs:List Nat} (x:Upd w w' fs) (hn:∀ k,k ∈ F→k ∈ fs→False):OwTwo B w' v d F:=by
 obtain⟨p0,p1,F0,F1,e,l0,l1,g0,g1,hdj,rfl⟩:=h
 exact⟨p0,p1,F0,F1,e,l0,l1,g0.upd x (fun k h=>hn k (by simp [h])),g1.upd x (fun k h=>hn k (by simp [h])),hdj,rfl⟩
theorem mark_Two (h:OwTwo B w v d F) (hq0:0≤q) (hq1:q+(nmTwo d:Nat)≤4611686018427387904):Calls Tryz.prog 152 #[v,.int .i64 q] w (RetM w F (.int .i64 (q+(nmTwo d:Nat))) fun w'=>MkTwo B w' v d F q):=by
 obtain⟨p0,p1,F0,F1,rfl,l0,l1,g0,g1,hdj,rfl⟩:=h
 unfold nmTwo at hq1 ⊢
 have d0_1:∀ k,k ∈ F0→k ∈ F1→False:=pw_at hdj 0 1 oM (by simp)
 have f0:w.heap.size ∉ F0:=fun h=>by have:=(g0.low _ h).2;omega
 have f1:w.heap.size ∉ F1:=fun h=>by have:=(g1.low _ h).2;omega
 obtain⟨L,hL⟩:∃ L:List Value,L=(p0 ++ (p1 ++ [])):=⟨_,rfl⟩
 rw [← hL]
 obtain⟨W0,hW0⟩:∃ W0,W0=w.alloc (.cells L.toArray 72):=⟨_,rfl⟩
 have E0:Ext w W0:=by rw [hW0];exact (Ext.refl _).alloc _
 have r:W0.rangeAt w.heap.size 0 L:=by rw [hW0];exact (Bk.new _ _ _).ra
 rw [hL] at r
 obtain⟨R0,r⟩:=range_app (m:=2) r l0 rfl
 obtain⟨R1,r⟩:=range_app (m:=4) r l1 rfl
 clear r 
 have HL:=Lib.hid hL;clear hL
 go_enter Tryz.func152,Tryz.ntmps152
 go_upto_region 1 with (fail)
 rw [← hW0]
 clear hW0
 have g0:=g0.upd (E0.upd []) (fun _ _ h=>by cases h)
 have g1:=g1.upd (E0.upd []) (fun _ _ h=>by cases h)
 have U0:Upd w W0 (F0 ++ F1):=E0.upd _
 go_wp2_with (first|(refine wpList_load_mid rfl 70 _ rfl (w.heap.size) 0 (by rfl) p0 _ R0 Tryz.underlying70 rfl (by rw [l0];kernel_rfl) ?_))
 refine (mark_Disk g0 (q:=q) oM oM).mono ?_
 rintro e w0 ⟨rfl,x0,m0⟩
 obtain⟨z0,hz0⟩:∃ z,z=q+(nDisk d.A:Nat):=⟨_,rfl⟩
 rw [← hz0]
 have y0:=Int.le_of_eq hz0;have v0:=Int.le_of_eq hz0.symm;have Hz0:=Lib.hid hz0;clear hz0
 have g1:=g1.upd x0 (fun k a b=>d0_1 k b a)
 have R1:=rangeAt_updF R1 x0 f0
 have U1:=U0.trans (x0.more (fun k h=>by simp [h]))
 clear R0
 go_wp2_with (first|(refine wpList_load_mid rfl 70 _ rfl (w.heap.size) 2 (by rfl) p1 _ R1 Tryz.underlying70 rfl (by rw [l1];kernel_rfl) ?_))
 refine (mark_Disk g1 (q:=z0) oM oM).mono ?_
 rintro e w1 ⟨rfl,x1,m1⟩
 obtain⟨z1,hz1⟩:∃ z,z=z0+(nDisk d.B:Nat):=⟨_,rfl⟩
 rw [← hz1]
 have y1:=Int.le_of_eq hz1;have v1:=Int.le_of_eq hz1.symm;have Hz1:=Lib.hid hz1;clear hz1
 have m0:=m0.upd x1 (fun k a b=>d0_1 k a b)
 have UZ:=U1.trans (x1.more (fun k h=>by simp [h]))
 clear R1
 go_wp2_with fail
 go_ret
 have hL:=HL.out
 subst hL
 have hz1:=Hz1.out
 subst hz1
 have hz0:=Hz0.out
 subst hz0
 exact⟨congrArg (fun z:Int=>Ending.returned (Value.int .i64 z)) oM,UZ,p0,p1,F0,F1,rfl,l0,l1,m0,m1,rfl⟩
theorem held_Two (h:MkTwo B w v d F q) (hq0:0≤q) (hq1:q+(nmTwo d:Nat)≤4611686018427387904):Calls Tryz.prog 188 #[v,.int .i64 q] w (RetV w (.int .i64 (q+(nmTwo d:Nat)))):=by
 obtain⟨p0,p1,F0,F1,rfl,l0,l1,m0,m1,rfl⟩:=h
 unfold nmTwo at hq1 ⊢
 obtain⟨L,hL⟩:∃ L:List Value,L=(p0 ++ (p1 ++ [])):=⟨_,rfl⟩
 rw [← hL]
 obtain⟨W0,hW0⟩:∃ W0,W0=w.alloc (.cells L.toArray 72):=⟨_,rfl⟩
 have E0:Ext w W0:=by rw [hW0];exact (Ext.refl _).alloc _
 have r:W0.rangeAt w.heap.size 0 L:=by rw [hW0];exact (Bk.new _ _ _).ra
 rw [hL] at r
 obtain⟨R0,r⟩:=range_app (m:=2) r l0 rfl
 obtain⟨R1,r⟩:=range_app (m:=4) r l1 rfl
 clear r 
 have HL:=Lib.hid hL;clear hL
 go_enter Tryz.func188,Tryz.ntmps188
 go_upto_region 1 with (fail)
 rw [← hW0]
 clear hW0
 clear HL
 have X0:Ext W0 W0:=Ext.refl _
 obtain⟨z0,hz0⟩:∃ z,z=q+(nDisk d.A:Nat):=⟨_,rfl⟩
 rw [← hz0] at m1
 go_wp2_with (first|(refine wpList_load_mid rfl 70 _ rfl (w.heap.size) 0 (by rfl) p0 _ (rangeAt_ext R0 extT) Tryz.underlying70 rfl (by rw [l0];kernel_rfl) ?_))
 refine (held_Disk (m0.ext (E0.trans X0)) oM oM).mono ?_
 rintro e w0 ⟨rfl,x0⟩
 have X0':=X0.trans x0
 rw [← hz0]
 have y0:=Int.le_of_eq hz0;have v0:=Int.le_of_eq hz0.symm;clear hz0
 have hd0:decide (z0<0)=false:=by simp;omega
 obtain⟨z1,hz1⟩:∃ z,z=z0+(nDisk d.B:Nat):=⟨_,rfl⟩
 go_wp2_with (first|(refine wpList_load_mid rfl 70 _ rfl (w.heap.size) 2 (by rfl) p1 _ (rangeAt_ext R1 extT) Tryz.underlying70 rfl (by rw [l1];kernel_rfl) ?_))
 refine (held_Disk (m1.ext (E0.trans X0')) oM oM).mono ?_
 rintro e w1 ⟨rfl,x1⟩
 have X1':=X0'.trans x1
 rw [← hz1]
 have y1:=Int.le_of_eq hz1;have v1:=Int.le_of_eq hz1.symm;clear hz1
 have hd1:decide (z1<0)=false:=by simp;omega
 go_wp2_with fail
 go_ret
 exact⟨congrArg (fun z:Int=>Ending.returned (Value.int .i64 z)) oM,E0.trans X1'⟩
end
def nmHead (d:DHead):Nat:=nmMarkS d.Seen
def MkHead (B:Nat) (w:World) (v:Value) (d:DHead) (F:List Nat) (q:Int):Prop:=∃ t3:Value,∃ F3:List Nat,v=.agg ([Value.int .i64 d.Num] ++ ([Value.int .i64 d.Base] ++ ([Value.int .i64 d.Time] ++ ([t3] ++ [])))).toArray∧MkMarkS B w t3 d.Seen F3 (q)∧F=F3
section
variable {B B':Nat} {w w':World} {v:Value} {d:DHead} {F:List Nat} {q:Int}
theorem MkHead.ext (h:MkHead B w v d F q) (x:Ext w w'):MkHead B w' v d F q:=by
 obtain⟨t3,F3,e,m3,hF⟩:=h
 exact⟨t3,F3,e,m3.ext x,hF⟩
theorem MkHead.upd (h:MkHead B w v d F q) {fs:List Nat} (x:Upd w w' fs) (hn:∀ k,k ∈ F→k ∈ fs→False):MkHead B w' v d F q:=by
 obtain⟨t3,F3,e,m3,hF⟩:=h
 obtain rfl:F3=F:=hF.symm
 exact⟨t3,F3,e,m3.upd x (fun k h=>hn k (by simp [h])),rfl⟩
theorem OwHead.upd (h:OwHead B w v d F) {fs:List Nat} (x:Upd w w' fs) (hn:∀ k,k ∈ F→k ∈ fs→False):OwHead B w' v d F:=by
 obtain⟨t3,F3,e,g3,hdj,hF⟩:=h
 obtain rfl:F3=F:=hF.symm
 exact⟨t3,F3,e,g3.upd x (fun k h=>hn k (by simp [h])),hdj,rfl⟩
theorem mark_Head (h:OwHead B w v d F) (hq0:0≤q) (hq1:q+(nmHead d:Nat)≤4611686018427387904):Calls Tryz.prog 153 #[v,.int .i64 q] w (RetM w F (.int .i64 (q+(nmHead d:Nat))) fun w'=>MkHead B w' v d F q):=by
 obtain⟨t3,F3,rfl,g3,hdj,hF⟩:=h
 obtain rfl:F3=F:=hF.symm
 unfold nmHead at hq1 ⊢
 have f3:w.heap.size ∉ F3:=fun h=>by have:=(g3.low _ h).2;omega
 obtain⟨L,hL⟩:∃ L:List Value,L=([Value.int .i64 d.Num] ++ ([Value.int .i64 d.Base] ++ ([Value.int .i64 d.Time] ++ ([t3] ++ [])))):=⟨_,rfl⟩
 rw [← hL]
 obtain⟨W0,hW0⟩:∃ W0,W0=w.alloc (.cells L.toArray 75):=⟨_,rfl⟩
 have E0:Ext w W0:=by rw [hW0];exact (Ext.refl _).alloc _
 have r:W0.rangeAt w.heap.size 0 L:=by rw [hW0];exact (Bk.new _ _ _).ra
 rw [hL] at r
 obtain⟨R0,r⟩:=range_app (m:=1) r rfl rfl
 have R0:=range_one R0
 obtain⟨R1,r⟩:=range_app (m:=2) r rfl rfl
 have R1:=range_one R1
 obtain⟨R2,r⟩:=range_app (m:=3) r rfl rfl
 have R2:=range_one R2
 obtain⟨R3,r⟩:=range_app (m:=4) r rfl rfl
 have R3:=range_one R3
 clear r R0 R1 R2
 have HL:=Lib.hid hL;clear hL
 go_enter Tryz.func153,Tryz.ntmps153
 go_upto_region 1 with (fail)
 rw [← hW0]
 clear hW0
 have g3:=g3.upd (E0.upd []) (fun _ _ h=>by cases h)
 have U3:Upd w W0 (F3):=E0.upd _
 go_wp2_with fail
 refine (mark_MarkS g3 (q:=q) oM oM).mono ?_
 rintro e w3 ⟨rfl,x3,m3⟩
 obtain⟨z3,hz3⟩:∃ z,z=q+(nmMarkS d.Seen:Nat):=⟨_,rfl⟩
 rw [← hz3]
 have y3:=Int.le_of_eq hz3;have v3:=Int.le_of_eq hz3.symm;have Hz3:=Lib.hid hz3;clear hz3
 have UZ:=U3.trans (x3.more (fun k h=>by simp [h]))
 clear R3
 go_wp2_with fail
 go_ret
 have hL:=HL.out
 subst hL
 have hz3:=Hz3.out
 subst hz3
 exact⟨congrArg (fun z:Int=>Ending.returned (Value.int .i64 z)) oM,UZ,t3,F3,rfl,m3,rfl⟩
theorem held_Head (h:MkHead B w v d F q) (hq0:0≤q) (hq1:q+(nmHead d:Nat)≤4611686018427387904):Calls Tryz.prog 189 #[v,.int .i64 q] w (RetV w (.int .i64 (q+(nmHead d:Nat)))):=by
 obtain⟨t3,F3,rfl,m3,hF⟩:=h
 obtain rfl:F3=F:=hF.symm
 unfold nmHead at hq1 ⊢
 obtain⟨L,hL⟩:∃ L:List Value,L=([Value.int .i64 d.Num] ++ ([Value.int .i64 d.Base] ++ ([Value.int .i64 d.Time] ++ ([t3] ++ [])))):=⟨_,rfl⟩
 rw [← hL]
 obtain⟨W0,hW0⟩:∃ W0,W0=w.alloc (.cells L.toArray 75):=⟨_,rfl⟩
 have E0:Ext w W0:=by rw [hW0];exact (Ext.refl _).alloc _
 have r:W0.rangeAt w.heap.size 0 L:=by rw [hW0];exact (Bk.new _ _ _).ra
 rw [hL] at r
 obtain⟨R0,r⟩:=range_app (m:=1) r rfl rfl
 have R0:=range_one R0
 obtain⟨R1,r⟩:=range_app (m:=2) r rfl rfl
 have R1:=range_one R1
 obtain⟨R2,r⟩:=range_app (m:=3) r rfl rfl
 have R2:=range_one R2
 obtain⟨R3,r⟩:=range_app (m:=4) r rfl rfl
 have R3:=range_one R3
 clear r R0 R1 R2
 have HL:=Lib.hid hL;clear hL
 go_enter Tryz.func189,Tryz.ntmps189
 go_upto_region 1 with (fail)
 rw [← hW0]
 clear hW0
 clear HL
 have X0:Ext W0 W0:=Ext.refl _
 obtain⟨z3,hz3⟩:∃ z,z=q+(nmMarkS d.Seen:Nat):=⟨_,rfl⟩
 have cq:=X0.cell R3
 go_wp2_with fail
 clear cq
 refine (held_MarkS (m3.ext (E0.trans X0)) oM oM).mono ?_
 rintro e w3 ⟨rfl,x3⟩
 have X3':=X0.trans x3
 rw [← hz3]
 have y3:=Int.le_of_eq hz3;have v3:=Int.le_of_eq hz3.symm;clear hz3
 have hd3:decide (z3<0)=false:=by simp;omega
 go_wp2_with fail
 go_ret
 exact⟨congrArg (fun z:Int=>Ending.returned (Value.int .i64 z)) oM,E0.trans X3'⟩
end
def nmBook (d:DBook):Nat:=nmEntryS d.Entries
def MkBook (B:Nat) (w:World) (v:Value) (d:DBook) (F:List Nat) (q:Int):Prop:=∃ t2:Value,∃ F2:List Nat,v=.agg ([Value.int .i64 d.Base] ++ ([Value.int .i64 d.Time] ++ ([t2] ++ []))).toArray∧MkEntryS B w t2 d.Entries F2 (q)∧F=F2
section
variable {B B':Nat} {w w':World} {v:Value} {d:DBook} {F:List Nat} {q:Int}
theorem MkBook.ext (h:MkBook B w v d F q) (x:Ext w w'):MkBook B w' v d F q:=by
 obtain⟨t2,F2,e,m2,hF⟩:=h
 exact⟨t2,F2,e,m2.ext x,hF⟩
theorem MkBook.upd (h:MkBook B w v d F q) {fs:List Nat} (x:Upd w w' fs) (hn:∀ k,k ∈ F→k ∈ fs→False):MkBook B w' v d F q:=by
 obtain⟨t2,F2,e,m2,hF⟩:=h
 obtain rfl:F2=F:=hF.symm
 exact⟨t2,F2,e,m2.upd x (fun k h=>hn k (by simp [h])),rfl⟩
theorem OwBook.upd (h:OwBook B w v d F) {fs:List Nat} (x:Upd w w' fs) (hn:∀ k,k ∈ F→k ∈ fs→False):OwBook B w' v d F:=by
 obtain⟨t2,F2,e,g2,hdj,hF⟩:=h
 obtain rfl:F2=F:=hF.symm
 exact⟨t2,F2,e,g2.upd x (fun k h=>hn k (by simp [h])),hdj,rfl⟩
theorem mark_Book (h:OwBook B w v d F) (hq0:0≤q) (hq1:q+(nmBook d:Nat)≤4611686018427387904):Calls Tryz.prog 154 #[v,.int .i64 q] w (RetM w F (.int .i64 (q+(nmBook d:Nat))) fun w'=>MkBook B w' v d F q):=by
 obtain⟨t2,F2,rfl,g2,hdj,hF⟩:=h
 obtain rfl:F2=F:=hF.symm
 unfold nmBook at hq1 ⊢
 have f2:w.heap.size ∉ F2:=fun h=>by have:=(g2.low _ h).2;omega
 obtain⟨L,hL⟩:∃ L:List Value,L=([Value.int .i64 d.Base] ++ ([Value.int .i64 d.Time] ++ ([t2] ++ []))):=⟨_,rfl⟩
 rw [← hL]
 obtain⟨W0,hW0⟩:∃ W0,W0=w.alloc (.cells L.toArray 78):=⟨_,rfl⟩
 have E0:Ext w W0:=by rw [hW0];exact (Ext.refl _).alloc _
 have r:W0.rangeAt w.heap.size 0 L:=by rw [hW0];exact (Bk.new _ _ _).ra
 rw [hL] at r
 obtain⟨R0,r⟩:=range_app (m:=1) r rfl rfl
 have R0:=range_one R0
 obtain⟨R1,r⟩:=range_app (m:=2) r rfl rfl
 have R1:=range_one R1
 obtain⟨R2,r⟩:=range_app (m:=3) r rfl rfl
 have R2:=range_one R2
 clear r R0 R1
 have HL:=Lib.hid hL;clear hL
 go_enter Tryz.func154,Tryz.ntmps154
 go_upto_region 1 with (fail)
 rw [← hW0]
 clear hW0
 have g2:=g2.upd (E0.upd []) (fun _ _ h=>by cases h)
 have U2:Upd w W0 (F2):=E0.upd _
 go_wp2_with fail
 refine (mark_EntryS g2 (q:=q) oM oM).mono ?_
 rintro e w2 ⟨rfl,x2,m2⟩
 obtain⟨z2,hz2⟩:∃ z,z=q+(nmEntryS d.Entries:Nat):=⟨_,rfl⟩
 rw [← hz2]
 have y2:=Int.le_of_eq hz2;have v2:=Int.le_of_eq hz2.symm;have Hz2:=Lib.hid hz2;clear hz2
 have UZ:=U2.trans (x2.more (fun k h=>by simp [h]))
 clear R2
 go_wp2_with fail
 go_ret
 have hL:=HL.out
 subst hL
 have hz2:=Hz2.out
 subst hz2
 exact⟨congrArg (fun z:Int=>Ending.returned (Value.int .i64 z)) oM,UZ,t2,F2,rfl,m2,rfl⟩
theorem held_Book (h:MkBook B w v d F q) (hq0:0≤q) (hq1:q+(nmBook d:Nat)≤4611686018427387904):Calls Tryz.prog 190 #[v,.int .i64 q] w (RetV w (.int .i64 (q+(nmBook d:Nat)))):=by
 obtain⟨t2,F2,rfl,m2,hF⟩:=h
 obtain rfl:F2=F:=hF.symm
 unfold nmBook at hq1 ⊢
 obtain⟨L,hL⟩:∃ L:List Value,L=([Value.int .i64 d.Base] ++ ([Value.int .i64 d.Time] ++ ([t2] ++ []))):=⟨_,rfl⟩
 rw [← hL]
 obtain⟨W0,hW0⟩:∃ W0,W0=w.alloc (.cells L.toArray 78):=⟨_,rfl⟩
 have E0:Ext w W0:=by rw [hW0];exact (Ext.refl _).alloc _
 have r:W0.rangeAt w.heap.size 0 L:=by rw [hW0];exact (Bk.new _ _ _).ra
 rw [hL] at r
 obtain⟨R0,r⟩:=range_app (m:=1) r rfl rfl
 have R0:=range_one R0
 obtain⟨R1,r⟩:=range_app (m:=2) r rfl rfl
 have R1:=range_one R1
 obtain⟨R2,r⟩:=range_app (m:=3) r rfl rfl
 have R2:=range_one R2
 clear r R0 R1
 have HL:=Lib.hid hL;clear hL
 go_enter Tryz.func190,Tryz.ntmps190
 go_upto_region 1 with (fail)
 rw [← hW0]
 clear hW0
 clear HL
 have X0:Ext W0 W0:=Ext.refl _
 obtain⟨z2,hz2⟩:∃ z,z=q+(nmEntryS d.Entries:Nat):=⟨_,rfl⟩
 have cq:=X0.cell R2
 go_wp2_with fail
 clear cq
 refine (held_EntryS (m2.ext (E0.trans X0)) oM oM).mono ?_
 rintro e w2 ⟨rfl,x2⟩
 have X2':=X0.trans x2
 rw [← hz2]
 have y2:=Int.le_of_eq hz2;have v2:=Int.le_of_eq hz2.symm;clear hz2
 have hd2:decide (z2<0)=false:=by simp;omega
 go_wp2_with fail
 go_ret
 exact⟨congrArg (fun z:Int=>Ending.returned (Value.int .i64 z)) oM,E0.trans X2'⟩
end
def nmClient (d:DClient):Nat:=nmWantS d.Todo+nmGotS d.Gots
def MkClient (B:Nat) (w:World) (v:Value) (d:DClient) (F:List Nat) (q:Int):Prop:=∃ t1:Value,∃ t2:Value,∃ F1:List Nat,∃ F2:List Nat,v=.agg ([Value.int .i64 d.Id] ++ ([t1] ++ ([t2] ++ ([Value.int .i64 d.Last] ++ [])))).toArray∧MkWantS B w t1 d.Todo F1 (q)∧MkGotS B w t2 d.Gots F2 (q+(nmWantS d.Todo:Nat))∧F=F1 ++ F2
section
variable {B B':Nat} {w w':World} {v:Value} {d:DClient} {F:List Nat} {q:Int}
theorem MkClient.ext (h:MkClient B w v d F q) (x:Ext w w'):MkClient B w' v d F q:=by
 obtain⟨t1,t2,F1,F2,e,m1,m2,hF⟩:=h
 exact⟨t1,t2,F1,F2,e,m1.ext x,m2.ext x,hF⟩
theorem MkClient.upd (h:MkClient B w v d F q) {fs:List Nat} (x:Upd w w' fs) (hn:∀ k,k ∈ F→k ∈ fs→False):MkClient B w' v d F q:=by
 obtain⟨t1,t2,F1,F2,e,m1,m2,rfl⟩:=h
 exact⟨t1,t2,F1,F2,e,m1.upd x (fun k h=>hn k (by simp [h])),m2.upd x (fun k h=>hn k (by simp [h])),rfl⟩
theorem OwClient.upd (h:OwClient B w v d F) {fs:List Nat} (x:Upd w w' fs) (hn:∀ k,k ∈ F→k ∈ fs→False):OwClient B w' v d F:=by
 obtain⟨t1,t2,F1,F2,e,g1,g2,hdj,rfl⟩:=h
 exact⟨t1,t2,F1,F2,e,g1.upd x (fun k h=>hn k (by simp [h])),g2.upd x (fun k h=>hn k (by simp [h])),hdj,rfl⟩
theorem mark_Client (h:OwClient B w v d F) (hq0:0≤q) (hq1:q+(nmClient d:Nat)≤4611686018427387904):Calls Tryz.prog 62 #[v,.int .i64 q] w (RetM w F (.int .i64 (q+(nmClient d:Nat))) fun w'=>MkClient B w' v d F q):=by
 obtain⟨t1,t2,F1,F2,rfl,g1,g2,hdj,rfl⟩:=h
 unfold nmClient at hq1 ⊢
 have d1_2:∀ k,k ∈ F1→k ∈ F2→False:=pw_at hdj 0 1 oM (by simp)
 have f1:w.heap.size ∉ F1:=fun h=>by have:=(g1.low _ h).2;omega
 have f2:w.heap.size ∉ F2:=fun h=>by have:=(g2.low _ h).2;omega
 obtain⟨L,hL⟩:∃ L:List Value,L=([Value.int .i64 d.Id] ++ ([t1] ++ ([t2] ++ ([Value.int .i64 d.Last] ++ [])))):=⟨_,rfl⟩
 rw [← hL]
 obtain⟨W0,hW0⟩:∃ W0,W0=w.alloc (.cells L.toArray 100):=⟨_,rfl⟩
 have E0:Ext w W0:=by rw [hW0];exact (Ext.refl _).alloc _
 have r:W0.rangeAt w.heap.size 0 L:=by rw [hW0];exact (Bk.new _ _ _).ra
 rw [hL] at r
 obtain⟨R0,r⟩:=range_app (m:=1) r rfl rfl
 have R0:=range_one R0
 obtain⟨R1,r⟩:=range_app (m:=2) r rfl rfl
 have R1:=range_one R1
 obtain⟨R2,r⟩:=range_app (m:=3) r rfl rfl
 have R2:=range_one R2
 obtain⟨R3,r⟩:=range_app (m:=4) r rfl rfl
 have R3:=range_one R3
 clear r R0 R3
 have HL:=Lib.hid hL;clear hL
 go_enter Tryz.func62,Tryz.ntmps62
 go_upto_region 1 with (fail)
 rw [← hW0]
 clear hW0
 have g1:=g1.upd (E0.upd []) (fun _ _ h=>by cases h)
 have g2:=g2.upd (E0.upd []) (fun _ _ h=>by cases h)
 have U1:Upd w W0 (F1 ++ F2):=E0.upd _
 go_wp2_with fail
 refine (mark_WantS g1 (q:=q) oM oM).mono ?_
 rintro e w1 ⟨rfl,x1,m1⟩
 obtain⟨z1,hz1⟩:∃ z,z=q+(nmWantS d.Todo:Nat):=⟨_,rfl⟩
 rw [← hz1]
 have y1:=Int.le_of_eq hz1;have v1:=Int.le_of_eq hz1.symm;have Hz1:=Lib.hid hz1;clear hz1
 have g2:=g2.upd x1 (fun k a b=>d1_2 k b a)
 have R2:=cell_updF R2 x1 f1
 have U2:=U1.trans (x1.more (fun k h=>by simp [h]))
 clear R1
 go_wp2_with fail
 refine (mark_GotS g2 (q:=z1) oM oM).mono ?_
 rintro e w2 ⟨rfl,x2,m2⟩
 obtain⟨z2,hz2⟩:∃ z,z=z1+(nmGotS d.Gots:Nat):=⟨_,rfl⟩
 rw [← hz2]
 have y2:=Int.le_of_eq hz2;have v2:=Int.le_of_eq hz2.symm;have Hz2:=Lib.hid hz2;clear hz2
 have m1:=m1.upd x2 (fun k a b=>d1_2 k a b)
 have UZ:=U2.trans (x2.more (fun k h=>by simp [h]))
 clear R2
 go_wp2_with fail
 go_ret
 have hL:=HL.out
 subst hL
 have hz2:=Hz2.out
 subst hz2
 have hz1:=Hz1.out
 subst hz1
 exact⟨congrArg (fun z:Int=>Ending.returned (Value.int .i64 z)) oM,UZ,t1,t2,F1,F2,rfl,m1,m2,rfl⟩
theorem held_Client (h:MkClient B w v d F q) (hq0:0≤q) (hq1:q+(nmClient d:Nat)≤4611686018427387904):Calls Tryz.prog 93 #[v,.int .i64 q] w (RetV w (.int .i64 (q+(nmClient d:Nat)))):=by
 obtain⟨t1,t2,F1,F2,rfl,m1,m2,rfl⟩:=h
 unfold nmClient at hq1 ⊢
 obtain⟨L,hL⟩:∃ L:List Value,L=([Value.int .i64 d.Id] ++ ([t1] ++ ([t2] ++ ([Value.int .i64 d.Last] ++ [])))):=⟨_,rfl⟩
 rw [← hL]
 obtain⟨W0,hW0⟩:∃ W0,W0=w.alloc (.cells L.toArray 100):=⟨_,rfl⟩
 have E0:Ext w W0:=by rw [hW0];exact (Ext.refl _).alloc _
 have r:W0.rangeAt w.heap.size 0 L:=by rw [hW0];exact (Bk.new _ _ _).ra
 rw [hL] at r
 obtain⟨R0,r⟩:=range_app (m:=1) r rfl rfl
 have R0:=range_one R0
 obtain⟨R1,r⟩:=range_app (m:=2) r rfl rfl
 have R1:=range_one R1
 obtain⟨R2,r⟩:=range_app (m:=3) r rfl rfl
 have R2:=range_one R2
 obtain⟨R3,r⟩:=range_app (m:=4) r rfl rfl
 have R3:=range_one R3
 clear r R0 R3
 have HL:=Lib.hid hL;clear hL
 go_enter Tryz.func93,Tryz.ntmps93
 go_upto_region 1 with (fail)
 rw [← hW0]
 clear hW0
 clear HL
 have X0:Ext W0 W0:=Ext.refl _
 obtain⟨z1,hz1⟩:∃ z,z=q+(nmWantS d.Todo:Nat):=⟨_,rfl⟩
 rw [← hz1] at m2
 have cq:=X0.cell R1
 go_wp2_with fail
 clear cq
 refine (held_WantS (m1.ext (E0.trans X0)) oM oM).mono ?_
 rintro e w1 ⟨rfl,x1⟩
 have X1':=X0.trans x1
 rw [← hz1]
 have y1:=Int.le_of_eq hz1;have v1:=Int.le_of_eq hz1.symm;clear hz1
 have hd1:decide (z1<0)=false:=by simp;omega
 obtain⟨z2,hz2⟩:∃ z,z=z1+(nmGotS d.Gots:Nat):=⟨_,rfl⟩
 have cq:=X1'.cell R2
 go_wp2_with fail
 clear cq
 refine (held_GotS (m2.ext (E0.trans X1')) oM oM).mono ?_
 rintro e w2 ⟨rfl,x2⟩
 have X2':=X1'.trans x2
 rw [← hz2]
 have y2:=Int.le_of_eq hz2;have v2:=Int.le_of_eq hz2.symm;clear hz2
 have hd2:decide (z2<0)=false:=by simp;omega
 go_wp2_with fail
 go_ret
 exact⟨congrArg (fun z:Int=>Ending.returned (Value.int .i64 z)) oM,E0.trans X2'⟩
end
def nmNet (d:DNet):Nat:=nmMsgS d.Flight+nmLinkS d.Cuts
def MkNet (B:Nat) (w:World) (v:Value) (d:DNet) (F:List Nat) (q:Int):Prop:=∃ t0:Value,∃ t1:Value,∃ F0:List Nat,∃ F1:List Nat,v=.agg ([t0] ++ ([t1] ++ [])).toArray∧MkMsgS B w t0 d.Flight F0 (q)∧MkLinkS B w t1 d.Cuts F1 (q+(nmMsgS d.Flight:Nat))∧F=F0 ++ F1
section
variable {B B':Nat} {w w':World} {v:Value} {d:DNet} {F:List Nat} {q:Int}
theorem MkNet.ext (h:MkNet B w v d F q) (x:Ext w w'):MkNet B w' v d F q:=by
 obtain⟨t0,t1,F0,F1,e,m0,m1,hF⟩:=h
 exact⟨t0,t1,F0,F1,e,m0.ext x,m1.ext x,hF⟩
theorem MkNet.upd (h:MkNet B w v d F q) {fs:List Nat} (x:Upd w w' fs) (hn:∀ k,k ∈ F→k ∈ fs→False):MkNet B w' v d F q:=by
 obtain⟨t0,t1,F0,F1,e,m0,m1,rfl⟩:=h
 exact⟨t0,t1,F0,F1,e,m0.upd x (fun k h=>hn k (by simp [h])),m1.upd x (fun k h=>hn k (by simp [h])),rfl⟩
theorem OwNet.upd (h:OwNet B w v d F) {fs:List Nat} (x:Upd w w' fs) (hn:∀ k,k ∈ F→k ∈ fs→False):OwNet B w' v d F:=by
 obtain⟨t0,t1,F0,F1,e,g0,g1,hdj,rfl⟩:=h
 exact⟨t0,t1,F0,F1,e,g0.upd x (fun k h=>hn k (by simp [h])),g1.upd x (fun k h=>hn k (by simp [h])),hdj,rfl⟩
theorem mark_Net (h:OwNet B w v d F) (hq0:0≤q) (hq1:q+(nmNet d:Nat)≤4611686018427387904):Calls Tryz.prog 63 #[v,.int .i64 q] w (RetM w F (.int .i64 (q+(nmNet d:Nat))) fun w'=>MkNet B w' v d F q):=by
 obtain⟨t0,t1,F0,F1,rfl,g0,g1,hdj,rfl⟩:=h
 unfold nmNet at hq1 ⊢
 have d0_1:∀ k,k ∈ F0→k ∈ F1→False:=pw_at hdj 0 1 oM (by simp)
 have f0:w.heap.size ∉ F0:=fun h=>by have:=(g0.low _ h).2;omega
 have f1:w.heap.size ∉ F1:=fun h=>by have:=(g1.low _ h).2;omega
 obtain⟨L,hL⟩:∃ L:List Value,L=([t0] ++ ([t1] ++ [])):=⟨_,rfl⟩
 rw [← hL]
 obtain⟨W0,hW0⟩:∃ W0,W0=w.alloc (.cells L.toArray 104):=⟨_,rfl⟩
 have E0:Ext w W0:=by rw [hW0];exact (Ext.refl _).alloc _
 have r:W0.rangeAt w.heap.size 0 L:=by rw [hW0];exact (Bk.new _ _ _).ra
 rw [hL] at r
 obtain⟨R0,r⟩:=range_app (m:=1) r rfl rfl
 have R0:=range_one R0
 obtain⟨R1,r⟩:=range_app (m:=2) r rfl rfl
 have R1:=range_one R1
 clear r 
 have HL:=Lib.hid hL;clear hL
 go_enter Tryz.func63,Tryz.ntmps63
 go_upto_region 1 with (fail)
 rw [← hW0]
 clear hW0
 have g0:=g0.upd (E0.upd []) (fun _ _ h=>by cases h)
 have g1:=g1.upd (E0.upd []) (fun _ _ h=>by cases h)
 have U0:Upd w W0 (F0 ++ F1):=E0.upd _
 go_wp2_with fail
 refine (mark_MsgS g0 (q:=q) oM oM).mono ?_
 rintro e w0 ⟨rfl,x0,m0⟩
 obtain⟨z0,hz0⟩:∃ z,z=q+(nmMsgS d.Flight:Nat):=⟨_,rfl⟩
 rw [← hz0]
 have y0:=Int.le_of_eq hz0;have v0:=Int.le_of_eq hz0.symm;have Hz0:=Lib.hid hz0;clear hz0
 have g1:=g1.upd x0 (fun k a b=>d0_1 k b a)
 have R1:=cell_updF R1 x0 f0
 have U1:=U0.trans (x0.more (fun k h=>by simp [h]))
 clear R0
 go_wp2_with fail
 refine (mark_LinkS g1 (q:=z0) oM oM).mono ?_
 rintro e w1 ⟨rfl,x1,m1⟩
 obtain⟨z1,hz1⟩:∃ z,z=z0+(nmLinkS d.Cuts:Nat):=⟨_,rfl⟩
 rw [← hz1]
 have y1:=Int.le_of_eq hz1;have v1:=Int.le_of_eq hz1.symm;have Hz1:=Lib.hid hz1;clear hz1
 have m0:=m0.upd x1 (fun k a b=>d0_1 k a b)
 have UZ:=U1.trans (x1.more (fun k h=>by simp [h]))
 clear R1
 go_wp2_with fail
 go_ret
 have hL:=HL.out
 subst hL
 have hz1:=Hz1.out
 subst hz1
 have hz0:=Hz0.out
 subst hz0
 exact⟨congrArg (fun z:Int=>Ending.returned (Value.int .i64 z)) oM,UZ,t0,t1,F0,F1,rfl,m0,m1,rfl⟩
theorem held_Net (h:MkNet B w v d F q) (hq0:0≤q) (hq1:q+(nmNet d:Nat)≤4611686018427387904):Calls Tryz.prog 94 #[v,.int .i64 q] w (RetV w (.int .i64 (q+(nmNet d:Nat)))):=by
 obtain⟨t0,t1,F0,F1,rfl,m0,m1,rfl⟩:=h
 unfold nmNet at hq1 ⊢
 obtain⟨L,hL⟩:∃ L:List Value,L=([t0] ++ ([t1] ++ [])):=⟨_,rfl⟩
 rw [← hL]
 obtain⟨W0,hW0⟩:∃ W0,W0=w.alloc (.cells L.toArray 104):=⟨_,rfl⟩
 have E0:Ext w W0:=by rw [hW0];exact (Ext.refl _).alloc _
 have r:W0.rangeAt w.heap.size 0 L:=by rw [hW0];exact (Bk.new _ _ _).ra
 rw [hL] at r
 obtain⟨R0,r⟩:=range_app (m:=1) r rfl rfl
 have R0:=range_one R0
 obtain⟨R1,r⟩:=range_app (m:=2) r rfl rfl
 have R1:=range_one R1
 clear r 
 have HL:=Lib.hid hL;clear hL
 go_enter Tryz.func94,Tryz.ntmps94
 go_upto_region 1 with (fail)
 rw [← hW0]
 clear hW0
 clear HL
 have X0:Ext W0 W0:=Ext.refl _
 obtain⟨z0,hz0⟩:∃ z,z=q+(nmMsgS d.Flight:Nat):=⟨_,rfl⟩
 rw [← hz0] at m1
 have cq:=X0.cell R0
 go_wp2_with fail
 clear cq
 refine (held_MsgS (m0.ext (E0.trans X0)) oM oM).mono ?_
 rintro e w0 ⟨rfl,x0⟩
 have X0':=X0.trans x0
 rw [← hz0]
 have y0:=Int.le_of_eq hz0;have v0:=Int.le_of_eq hz0.symm;clear hz0
 have hd0:decide (z0<0)=false:=by simp;omega
 obtain⟨z1,hz1⟩:∃ z,z=z0+(nmLinkS d.Cuts:Nat):=⟨_,rfl⟩
 have cq:=X0'.cell R1
 go_wp2_with fail
 clear cq
 refine (held_LinkS (m1.ext (E0.trans X0')) oM oM).mono ?_
 rintro e w1 ⟨rfl,x1⟩
 have X1':=X0'.trans x1
 rw [← hz1]
 have y1:=Int.le_of_eq hz1;have v1:=Int.le_of_eq hz1.symm;clear hz1
 have hd1:decide (z1<0)=false:=by simp;omega
 go_wp2_with fail
 go_ret
 exact⟨congrArg (fun z:Int=>Ending.returned (Value.int .i64 z)) oM,E0.trans X1'⟩
end
def nmLog (d:DLogNode):Nat:=nmTwo d.Two+nmHead d.Head+nmHead d.Next+nmBook d.Book+nmMarkS d.Seen+nmAckS d.Owe
def MkLog (B:Nat) (w:World) (v:Value) (d:DLogNode) (F:List Nat) (q:Int):Prop:=∃ p0:List Value,∃ p1:List Value,∃ p2:List Value,∃ p4:List Value,∃ t5:Value,∃ t7:Value,∃ F0:List Nat,∃ F1:List Nat,∃ F2:List Nat,∃ F4:List Nat,∃ F5:List Nat,∃ F7:List Nat,v=.agg (p0 ++ (p1 ++ (p2 ++ ([Value.bool d.More] ++ (p4 ++ ([t5] ++ ([Value.int .i64 d.Durable] ++ ([t7] ++ [])))))))).toArray∧p0.length=4∧p1.length=4∧p2.length=4∧p4.length=3∧MkTwo B w (.agg p0.toArray) d.Two F0 (q)∧MkHead B w (.agg p1.toArray) d.Head F1 (q+(nmTwo d.Two:Nat))∧MkHead B w (.agg p2.toArray) d.Next F2 (q+(nmTwo d.Two:Nat)+(nmHead d.Head:Nat))∧MkBook B w (.agg p4.toArray) d.Book F4 (q+(nmTwo d.Two:Nat)+(nmHead d.Head:Nat)+(nmHead d.Next:Nat))∧MkMarkS B w t5 d.Seen F5 (q+(nmTwo d.Two:Nat)+(nmHead d.Head:Nat)+(nmHead d.Next:Nat)+(nmBook d.Book:Nat))∧MkAckS B w t7 d.Owe F7 (q+(nmTwo d.Two:Nat)+(nmHead d.Head:Nat)+(nmHead d.Next:Nat)+(nmBook d.Book:Nat)+(nmMarkS d.Seen:Nat))∧F=F0 ++ F1 ++ F2 ++ F4 ++ F5 ++ F7
section
variable {B B':Nat} {w w':World} {v:Value} {d:DLogNode} {F:List Nat} {q:Int}
theorem MkLog.ext (h:MkLog B w v d F q) (x:Ext w w'):MkLog B w' v d F q:=by
 obtain⟨p0,p1,p2,p4,t5,t7,F0,F1,F2,F4,F5,F7,e,l0,l1,l2,l4,m0,m1,m2,m4,m5,m7,hF⟩:=h
 exact⟨p0,p1,p2,p4,t5,t7,F0,F1,F2,F4,F5,F7,e,l0,l1,l2,l4,m0.ext x,m1.ext x,m2.ext x,m4.ext x,m5.ext x,m7.ext x,hF⟩
theorem MkLog.upd (h:MkLog B w v d F q) {fs:List Nat} (x:Upd w w' fs) (hn:∀ k,k ∈ F→k ∈ fs→False):MkLog B w' v d F q:=by
 obtain⟨p0,p1,p2,p4,t5,t7,F0,F1,F2,F4,F5,F7,e,l0,l1,l2,l4,m0,m1,m2,m4,m5,m7,rfl⟩:=h
 exact⟨p0,p1,p2,p4,t5,t7,F0,F1,F2,F4,F5,F7,e,l0,l1,l2,l4,m0.upd x (fun k h=>hn k (by simp [h])),m1.upd x (fun k h=>hn k (by simp [h])),m2.upd x (fun k h=>hn k (by simp [h])),m4.upd x (fun k h=>hn k (by simp [h])),m5.upd x (fun k h=>hn k (by simp [h])),m7.upd x (fun k h=>hn k (by simp [h])),rfl⟩
theorem OwLog.upd (h:OwLog B w v d F) {fs:List Nat} (x:Upd w w' fs) (hn:∀ k,k ∈ F→k ∈ fs→False):OwLog B w' v d F:=by
 obtain⟨p0,p1,p2,p4,t5,t7,F0,F1,F2,F4,F5,F7,e,l0,l1,l2,l4,g0,g1,g2,g4,g5,g7,hdj,rfl⟩:=h
 exact⟨p0,p1,p2,p4,t5,t7,F0,F1,F2,F4,F5,F7,e,l0,l1,l2,l4,g0.upd x (fun k h=>hn k (by simp [h])),g1.upd x (fun k h=>hn k (by simp [h])),g2.upd x (fun k h=>hn k (by simp [h])),g4.upd x (fun k h=>hn k (by simp [h])),g5.upd x (fun k h=>hn k (by simp [h])),g7.upd x (fun k h=>hn k (by simp [h])),hdj,rfl⟩
theorem mark_Log (h:OwLog B w v d F) (hq0:0≤q) (hq1:q+(nmLog d:Nat)≤4611686018427387904):Calls Tryz.prog 59 #[v,.int .i64 q] w (RetM w F (.int .i64 (q+(nmLog d:Nat))) fun w'=>MkLog B w' v d F q):=by
 obtain⟨p0,p1,p2,p4,t5,t7,F0,F1,F2,F4,F5,F7,rfl,l0,l1,l2,l4,g0,g1,g2,g4,g5,g7,hdj,rfl⟩:=h
 unfold nmLog at hq1 ⊢
 have d0_1:∀ k,k ∈ F0→k ∈ F1→False:=pw_at hdj 0 1 oM (by simp)
 have d0_2:∀ k,k ∈ F0→k ∈ F2→False:=pw_at hdj 0 2 oM (by simp)
 have d0_4:∀ k,k ∈ F0→k ∈ F4→False:=pw_at hdj 0 3 oM (by simp)
 have d0_5:∀ k,k ∈ F0→k ∈ F5→False:=pw_at hdj 0 4 oM (by simp)
 have d0_7:∀ k,k ∈ F0→k ∈ F7→False:=pw_at hdj 0 5 oM (by simp)
 have d1_2:∀ k,k ∈ F1→k ∈ F2→False:=pw_at hdj 1 2 oM (by simp)
 have d1_4:∀ k,k ∈ F1→k ∈ F4→False:=pw_at hdj 1 3 oM (by simp)
 have d1_5:∀ k,k ∈ F1→k ∈ F5→False:=pw_at hdj 1 4 oM (by simp)
 have d1_7:∀ k,k ∈ F1→k ∈ F7→False:=pw_at hdj 1 5 oM (by simp)
 have d2_4:∀ k,k ∈ F2→k ∈ F4→False:=pw_at hdj 2 3 oM (by simp)
 have d2_5:∀ k,k ∈ F2→k ∈ F5→False:=pw_at hdj 2 4 oM (by simp)
 have d2_7:∀ k,k ∈ F2→k ∈ F7→False:=pw_at hdj 2 5 oM (by simp)
 have d4_5:∀ k,k ∈ F4→k ∈ F5→False:=pw_at hdj 3 4 oM (by simp)
 have d4_7:∀ k,k ∈ F4→k ∈ F7→False:=pw_at hdj 3 5 oM (by simp)
 have d5_7:∀ k,k ∈ F5→k ∈ F7→False:=pw_at hdj 4 5 oM (by simp)
 have f0:w.heap.size ∉ F0:=fun h=>by have:=(g0.low _ h).2;omega
 have f1:w.heap.size ∉ F1:=fun h=>by have:=(g1.low _ h).2;omega
 have f2:w.heap.size ∉ F2:=fun h=>by have:=(g2.low _ h).2;omega
 have f4:w.heap.size ∉ F4:=fun h=>by have:=(g4.low _ h).2;omega
 have f5:w.heap.size ∉ F5:=fun h=>by have:=(g5.low _ h).2;omega
 have f7:w.heap.size ∉ F7:=fun h=>by have:=(g7.low _ h).2;omega
 obtain⟨L,hL⟩:∃ L:List Value,L=(p0 ++ (p1 ++ (p2 ++ ([Value.bool d.More] ++ (p4 ++ ([t5] ++ ([Value.int .i64 d.Durable] ++ ([t7] ++ [])))))))):=⟨_,rfl⟩
 rw [← hL]
 obtain⟨W0,hW0⟩:∃ W0,W0=w.alloc (.cells L.toArray 81):=⟨_,rfl⟩
 have E0:Ext w W0:=by rw [hW0];exact (Ext.refl _).alloc _
 have r:W0.rangeAt w.heap.size 0 L:=by rw [hW0];exact (Bk.new _ _ _).ra
 rw [hL] at r
 obtain⟨R0,r⟩:=range_app (m:=4) r l0 rfl
 obtain⟨R1,r⟩:=range_app (m:=8) r l1 rfl
 obtain⟨R2,r⟩:=range_app (m:=12) r l2 rfl
 obtain⟨R3,r⟩:=range_app (m:=13) r rfl rfl
 have R3:=range_one R3
 obtain⟨R4,r⟩:=range_app (m:=16) r l4 rfl
 obtain⟨R5,r⟩:=range_app (m:=17) r rfl rfl
 have R5:=range_one R5
 obtain⟨R6,r⟩:=range_app (m:=18) r rfl rfl
 have R6:=range_one R6
 obtain⟨R7,r⟩:=range_app (m:=19) r rfl rfl
 have R7:=range_one R7
 clear r R3 R6
 have HL:=Lib.hid hL;clear hL
 go_enter Tryz.func59,Tryz.ntmps59
 go_upto_region 1 with (fail)
 rw [← hW0]
 clear hW0
 have g0:=g0.upd (E0.upd []) (fun _ _ h=>by cases h)
 have g1:=g1.upd (E0.upd []) (fun _ _ h=>by cases h)
 have g2:=g2.upd (E0.upd []) (fun _ _ h=>by cases h)
 have g4:=g4.upd (E0.upd []) (fun _ _ h=>by cases h)
 have g5:=g5.upd (E0.upd []) (fun _ _ h=>by cases h)
 have g7:=g7.upd (E0.upd []) (fun _ _ h=>by cases h)
 have U0:Upd w W0 (F0 ++ F1 ++ F2 ++ F4 ++ F5 ++ F7):=E0.upd _
 go_wp2_with (first|(refine wpList_load_mid rfl 72 _ rfl (w.heap.size) 0 (by rfl) p0 _ R0 Tryz.underlying72 rfl (by rw [l0];kernel_rfl) ?_))
 refine (mark_Two g0 (q:=q) oM oM).mono ?_
 rintro e w0 ⟨rfl,x0,m0⟩
 obtain⟨z0,hz0⟩:∃ z,z=q+(nmTwo d.Two:Nat):=⟨_,rfl⟩
 rw [← hz0]
 have y0:=Int.le_of_eq hz0;have v0:=Int.le_of_eq hz0.symm;have Hz0:=Lib.hid hz0;clear hz0
 have g1:=g1.upd x0 (fun k a b=>d0_1 k b a)
 have R1:=rangeAt_updF R1 x0 f0
 have g2:=g2.upd x0 (fun k a b=>d0_2 k b a)
 have R2:=rangeAt_updF R2 x0 f0
 have g4:=g4.upd x0 (fun k a b=>d0_4 k b a)
 have R4:=rangeAt_updF R4 x0 f0
 have g5:=g5.upd x0 (fun k a b=>d0_5 k b a)
 have R5:=cell_updF R5 x0 f0
 have g7:=g7.upd x0 (fun k a b=>d0_7 k b a)
 have R7:=cell_updF R7 x0 f0
 have U1:=U0.trans (x0.more (fun k h=>by simp [h]))
 clear R0
 go_wp2_with (first|(refine wpList_load_mid rfl 75 _ rfl (w.heap.size) 4 (by rfl) p1 _ R1 Tryz.underlying75 rfl (by rw [l1];kernel_rfl) ?_))
 refine (mark_Head g1 (q:=z0) oM oM).mono ?_
 rintro e w1 ⟨rfl,x1,m1⟩
 obtain⟨z1,hz1⟩:∃ z,z=z0+(nmHead d.Head:Nat):=⟨_,rfl⟩
 rw [← hz1]
 have y1:=Int.le_of_eq hz1;have v1:=Int.le_of_eq hz1.symm;have Hz1:=Lib.hid hz1;clear hz1
 have m0:=m0.upd x1 (fun k a b=>d0_1 k a b)
 have g2:=g2.upd x1 (fun k a b=>d1_2 k b a)
 have R2:=rangeAt_updF R2 x1 f1
 have g4:=g4.upd x1 (fun k a b=>d1_4 k b a)
 have R4:=rangeAt_updF R4 x1 f1
 have g5:=g5.upd x1 (fun k a b=>d1_5 k b a)
 have R5:=cell_updF R5 x1 f1
 have g7:=g7.upd x1 (fun k a b=>d1_7 k b a)
 have R7:=cell_updF R7 x1 f1
 have U2:=U1.trans (x1.more (fun k h=>by simp [h]))
 clear R1
 go_wp2_with (first|(refine wpList_load_mid rfl 75 _ rfl (w.heap.size) 8 (by rfl) p2 _ R2 Tryz.underlying75 rfl (by rw [l2];kernel_rfl) ?_))
 refine (mark_Head g2 (q:=z1) oM oM).mono ?_
 rintro e w2 ⟨rfl,x2,m2⟩
 obtain⟨z2,hz2⟩:∃ z,z=z1+(nmHead d.Next:Nat):=⟨_,rfl⟩
 rw [← hz2]
 have y2:=Int.le_of_eq hz2;have v2:=Int.le_of_eq hz2.symm;have Hz2:=Lib.hid hz2;clear hz2
 have m0:=m0.upd x2 (fun k a b=>d0_2 k a b)
 have m1:=m1.upd x2 (fun k a b=>d1_2 k a b)
 have g4:=g4.upd x2 (fun k a b=>d2_4 k b a)
 have R4:=rangeAt_updF R4 x2 f2
 have g5:=g5.upd x2 (fun k a b=>d2_5 k b a)
 have R5:=cell_updF R5 x2 f2
 have g7:=g7.upd x2 (fun k a b=>d2_7 k b a)
 have R7:=cell_updF R7 x2 f2
 have U4:=U2.trans (x2.more (fun k h=>by simp [h]))
 clear R2
 go_wp2_with (first|(refine wpList_load_mid rfl 78 _ rfl (w.heap.size) 13 (by rfl) p4 _ R4 Tryz.underlying78 rfl (by rw [l4];kernel_rfl) ?_))
 refine (mark_Book g4 (q:=z2) oM oM).mono ?_
 rintro e w4 ⟨rfl,x4,m4⟩
 obtain⟨z4,hz4⟩:∃ z,z=z2+(nmBook d.Book:Nat):=⟨_,rfl⟩
 rw [← hz4]
 have y4:=Int.le_of_eq hz4;have v4:=Int.le_of_eq hz4.symm;have Hz4:=Lib.hid hz4;clear hz4
 have m0:=m0.upd x4 (fun k a b=>d0_4 k a b)
 have m1:=m1.upd x4 (fun k a b=>d1_4 k a b)
 have m2:=m2.upd x4 (fun k a b=>d2_4 k a b)
 have g5:=g5.upd x4 (fun k a b=>d4_5 k b a)
 have R5:=cell_updF R5 x4 f4
 have g7:=g7.upd x4 (fun k a b=>d4_7 k b a)
 have R7:=cell_updF R7 x4 f4
 have U5:=U4.trans (x4.more (fun k h=>by simp [h]))
 clear R4
 go_wp2_with fail
 refine (mark_MarkS g5 (q:=z4) oM oM).mono ?_
 rintro e w5 ⟨rfl,x5,m5⟩
 obtain⟨z5,hz5⟩:∃ z,z=z4+(nmMarkS d.Seen:Nat):=⟨_,rfl⟩
 rw [← hz5]
 have y5:=Int.le_of_eq hz5;have v5:=Int.le_of_eq hz5.symm;have Hz5:=Lib.hid hz5;clear hz5
 have m0:=m0.upd x5 (fun k a b=>d0_5 k a b)
 have m1:=m1.upd x5 (fun k a b=>d1_5 k a b)
 have m2:=m2.upd x5 (fun k a b=>d2_5 k a b)
 have m4:=m4.upd x5 (fun k a b=>d4_5 k a b)
 have g7:=g7.upd x5 (fun k a b=>d5_7 k b a)
 have R7:=cell_updF R7 x5 f5
 have U7:=U5.trans (x5.more (fun k h=>by simp [h]))
 clear R5
 go_wp2_with fail
 refine (mark_AckS g7 (q:=z5) oM oM).mono ?_
 rintro e w7 ⟨rfl,x7,m7⟩
 obtain⟨z7,hz7⟩:∃ z,z=z5+(nmAckS d.Owe:Nat):=⟨_,rfl⟩
 rw [← hz7]
 have y7:=Int.le_of_eq hz7;have v7:=Int.le_of_eq hz7.symm;have Hz7:=Lib.hid hz7;clear hz7
 have m0:=m0.upd x7 (fun k a b=>d0_7 k a b)
 have m1:=m1.upd x7 (fun k a b=>d1_7 k a b)
 have m2:=m2.upd x7 (fun k a b=>d2_7 k a b)
 have m4:=m4.upd x7 (fun k a b=>d4_7 k a b)
 have m5:=m5.upd x7 (fun k a b=>d5_7 k a b)
 have UZ:=U7.trans (x7.more (fun k h=>by simp [h]))
 clear R7
 go_wp2_with fail
 go_ret
 have hL:=HL.out
 subst hL
 have hz7:=Hz7.out
 subst hz7
 have hz5:=Hz5.out
 subst hz5
 have hz4:=Hz4.out
 subst hz4
 have hz2:=Hz2.out
 subst hz2
 have hz1:=Hz1.out
 subst hz1
 have hz0:=Hz0.out
 subst hz0
 exact⟨congrArg (fun z:Int=>Ending.returned (Value.int .i64 z)) oM,UZ,p0,p1,p2,p4,t5,t7,F0,F1,F2,F4,F5,F7,rfl,l0,l1,l2,l4,m0,m1,m2,m4,m5,m7,rfl⟩
theorem held_Log (h:MkLog B w v d F q) (hq0:0≤q) (hq1:q+(nmLog d:Nat)≤4611686018427387904):Calls Tryz.prog 90 #[v,.int .i64 q] w (RetV w (.int .i64 (q+(nmLog d:Nat)))):=by
 obtain⟨p0,p1,p2,p4,t5,t7,F0,F1,F2,F4,F5,F7,rfl,l0,l1,l2,l4,m0,m1,m2,m4,m5,m7,rfl⟩:=h
 unfold nmLog at hq1 ⊢
 obtain⟨L,hL⟩:∃ L:List Value,L=(p0 ++ (p1 ++ (p2 ++ ([Value.bool d.More] ++ (p4 ++ ([t5] ++ ([Value.int .i64 d.Durable] ++ ([t7] ++ [])))))))):=⟨_,rfl⟩
 rw [← hL]
 obtain⟨W0,hW0⟩:∃ W0,W0=w.alloc (.cells L.toArray 81):=⟨_,rfl⟩
 have E0:Ext w W0:=by rw [hW0];exact (Ext.refl _).alloc _
 have r:W0.rangeAt w.heap.size 0 L:=by rw [hW0];exact (Bk.new _ _ _).ra
 rw [hL] at r
 obtain⟨R0,r⟩:=range_app (m:=4) r l0 rfl
 obtain⟨R1,r⟩:=range_app (m:=8) r l1 rfl
 obtain⟨R2,r⟩:=range_app (m:=12) r l2 rfl
 obtain⟨R3,r⟩:=range_app (m:=13) r rfl rfl
 have R3:=range_one R3
 obtain⟨R4,r⟩:=range_app (m:=16) r l4 rfl
 obtain⟨R5,r⟩:=range_app (m:=17) r rfl rfl
 have R5:=range_one R5
 obtain⟨R6,r⟩:=range_app (m:=18) r rfl rfl
 have R6:=range_one R6
 obtain⟨R7,r⟩:=range_app (m:=19) r rfl rfl
 have R7:=range_one R7
 clear r R3 R6
 have HL:=Lib.hid hL;clear hL
 go_enter Tryz.func90,Tryz.ntmps90
 go_upto_region 1 with (fail)
 rw [← hW0]
 clear hW0
 clear HL
 have X0:Ext W0 W0:=Ext.refl _
 obtain⟨z0,hz0⟩:∃ z,z=q+(nmTwo d.Two:Nat):=⟨_,rfl⟩
 rw [← hz0] at m1 m2 m4 m5 m7
 go_wp2_with (first|(refine wpList_load_mid rfl 72 _ rfl (w.heap.size) 0 (by rfl) p0 _ (rangeAt_ext R0 extT) Tryz.underlying72 rfl (by rw [l0];kernel_rfl) ?_))
 refine (held_Two (m0.ext (E0.trans X0)) oM oM).mono ?_
 rintro e w0 ⟨rfl,x0⟩
 have X0':=X0.trans x0
 rw [← hz0]
 have y0:=Int.le_of_eq hz0;have v0:=Int.le_of_eq hz0.symm;clear hz0
 have hd0:decide (z0<0)=false:=by simp;omega
 obtain⟨z1,hz1⟩:∃ z,z=z0+(nmHead d.Head:Nat):=⟨_,rfl⟩
 rw [← hz1] at m2 m4 m5 m7
 go_wp2_with (first|(refine wpList_load_mid rfl 75 _ rfl (w.heap.size) 4 (by rfl) p1 _ (rangeAt_ext R1 extT) Tryz.underlying75 rfl (by rw [l1];kernel_rfl) ?_))
 refine (held_Head (m1.ext (E0.trans X0')) oM oM).mono ?_
 rintro e w1 ⟨rfl,x1⟩
 have X1':=X0'.trans x1
 rw [← hz1]
 have y1:=Int.le_of_eq hz1;have v1:=Int.le_of_eq hz1.symm;clear hz1
 have hd1:decide (z1<0)=false:=by simp;omega
 obtain⟨z2,hz2⟩:∃ z,z=z1+(nmHead d.Next:Nat):=⟨_,rfl⟩
 rw [← hz2] at m4 m5 m7
 go_wp2_with (first|(refine wpList_load_mid rfl 75 _ rfl (w.heap.size) 8 (by rfl) p2 _ (rangeAt_ext R2 extT) Tryz.underlying75 rfl (by rw [l2];kernel_rfl) ?_))
 refine (held_Head (m2.ext (E0.trans X1')) oM oM).mono ?_
 rintro e w2 ⟨rfl,x2⟩
 have X2':=X1'.trans x2
 rw [← hz2]
 have y2:=Int.le_of_eq hz2;have v2:=Int.le_of_eq hz2.symm;clear hz2
 have hd2:decide (z2<0)=false:=by simp;omega
 obtain⟨z4,hz4⟩:∃ z,z=z2+(nmBook d.Book:Nat):=⟨_,rfl⟩
 rw [← hz4] at m5 m7
 go_wp2_with (first|(refine wpList_load_mid rfl 78 _ rfl (w.heap.size) 13 (by rfl) p4 _ (rangeAt_ext R4 extT) Tryz.underlying78 rfl (by rw [l4];kernel_rfl) ?_))
 refine (held_Book (m4.ext (E0.trans X2')) oM oM).mono ?_
 rintro e w4 ⟨rfl,x4⟩
 have X4':=X2'.trans x4
 rw [← hz4]
 have y4:=Int.le_of_eq hz4;have v4:=Int.le_of_eq hz4.symm;clear hz4
 have hd4:decide (z4<0)=false:=by simp;omega
 obtain⟨z5,hz5⟩:∃ z,z=z4+(nmMarkS d.Seen:Nat):=⟨_,rfl⟩
 rw [← hz5] at m7
 have cq:=X4'.cell R5
 go_wp2_with fail
 clear cq
 refine (held_MarkS (m5.ext (E0.trans X4')) oM oM).mono ?_
 rintro e w5 ⟨rfl,x5⟩
 have X5':=X4'.trans x5
 rw [← hz5]
 have y5:=Int.le_of_eq hz5;have v5:=Int.le_of_eq hz5.symm;clear hz5
 have hd5:decide (z5<0)=false:=by simp;omega
 obtain⟨z7,hz7⟩:∃ z,z=z5+(nmAckS d.Owe:Nat):=⟨_,rfl⟩
 have cq:=X5'.cell R7
 go_wp2_with fail
 clear cq
 refine (held_AckS (m7.ext (E0.trans X5')) oM oM).mono ?_
 rintro e w7 ⟨rfl,x7⟩
 have X7':=X5'.trans x7
 rw [← hz7]
 have y7:=Int.le_of_eq hz7;have v7:=Int.le_of_eq hz7.symm;clear hz7
 have hd7:decide (z7<0)=false:=by simp;omega
 go_wp2_with fail
 go_ret
 exact⟨congrArg (fun z:Int=>Ending.returned (Value.int .i64 z)) oM,E0.trans X7'⟩
end
def nmWorld (d:DWorld):Nat:=nmLog d.Log+nStore d.Store+numSched d.Left+numSched d.Right+nmClient d.Ann+nmClient d.Bob+nmNet d.Net+nmInt64S d.Clocks+nmBoolS d.Up
def MkWorld (B:Nat) (w:World) (v:Value) (d:DWorld) (F:List Nat) (q:Int):Prop:=∃ p0:List Value,∃ p1:List Value,∃ p2:List Value,∃ p3:List Value,∃ p4:List Value,∃ p5:List Value,∃ p6:List Value,∃ t7:Value,∃ t8:Value,∃ F0:List Nat,∃ F1:List Nat,∃ F2:List Nat,∃ F3:List Nat,∃ F4:List Nat,∃ F5:List Nat,∃ F6:List Nat,∃ F7:List Nat,∃ F8:List Nat,v=.agg (p0 ++ (p1 ++ (p2 ++ (p3 ++ (p4 ++ (p5 ++ (p6 ++ ([t7] ++ ([t8] ++ []))))))))).toArray∧p0.length=19∧p1.length=12∧p2.length=15∧p3.length=15∧p4.length=4∧p5.length=4∧p6.length=2∧MkLog B w (.agg p0.toArray) d.Log F0 (q)∧MkStoreK B w (.agg p1.toArray) d.Store F1 (q+(nmLog d.Log:Nat))∧MkSched B w (.agg p2.toArray) d.Left F2 (q+(nmLog d.Log:Nat)+(nStore d.Store:Nat))∧MkSched B w (.agg p3.toArray) d.Right F3 (q+(nmLog d.Log:Nat)+(nStore d.Store:Nat)+(numSched d.Left:Nat))∧MkClient B w (.agg p4.toArray) d.Ann F4 (q+(nmLog d.Log:Nat)+(nStore d.Store:Nat)+(numSched d.Left:Nat)+(numSched d.Right:Nat))∧MkClient B w (.agg p5.toArray) d.Bob F5 (q+(nmLog d.Log:Nat)+(nStore d.Store:Nat)+(numSched d.Left:Nat)+(numSched d.Right:Nat)+(nmClient d.Ann:Nat))∧MkNet B w (.agg p6.toArray) d.Net F6 (q+(nmLog d.Log:Nat)+(nStore d.Store:Nat)+(numSched d.Left:Nat)+(numSched d.Right:Nat)+(nmClient d.Ann:Nat)+(nmClient d.Bob:Nat))∧MkInt64S B w t7 d.Clocks F7 (q+(nmLog d.Log:Nat)+(nStore d.Store:Nat)+(numSched d.Left:Nat)+(numSched d.Right:Nat)+(nmClient d.Ann:Nat)+(nmClient d.Bob:Nat)+(nmNet d.Net:Nat))∧MkBoolS B w t8 d.Up F8 (q+(nmLog d.Log:Nat)+(nStore d.Store:Nat)+(numSched d.Left:Nat)+(numSched d.Right:Nat)+(nmClient d.Ann:Nat)+(nmClient d.Bob:Nat)+(nmNet d.Net:Nat)+(nmInt64S d.Clocks:Nat))∧F=F0 ++ F1 ++ F2 ++ F3 ++ F4 ++ F5 ++ F6 ++ F7 ++ F8
section
variable {B B':Nat} {w w':World} {v:Value} {d:DWorld} {F:List Nat} {q:Int}
theorem MkWorld.ext (h:MkWorld B w v d F q) (x:Ext w w'):MkWorld B w' v d F q:=by
 obtain⟨p0,p1,p2,p3,p4,p5,p6,t7,t8,F0,F1,F2,F3,F4,F5,F6,F7,F8,e,l0,l1,l2,l3,l4,l5,l6,m0,m1,m2,m3,m4,m5,m6,m7,m8,hF⟩:=h
 exact⟨p0,p1,p2,p3,p4,p5,p6,t7,t8,F0,F1,F2,F3,F4,F5,F6,F7,F8,e,l0,l1,l2,l3,l4,l5,l6,m0.ext x,m1.ext x,m2.ext x,m3.ext x,m4.ext x,m5.ext x,m6.ext x,m7.ext x,m8.ext x,hF⟩
theorem MkWorld.upd (h:MkWorld B w v d F q) {fs:List Nat} (x:Upd w w' fs) (hn:∀ k,k ∈ F→k ∈ fs→False):MkWorld B w' v d F q:=by
 obtain⟨p0,p1,p2,p3,p4,p5,p6,t7,t8,F0,F1,F2,F3,F4,F5,F6,F7,F8,e,l0,l1,l2,l3,l4,l5,l6,m0,m1,m2,m3,m4,m5,m6,m7,m8,rfl⟩:=h
 exact⟨p0,p1,p2,p3,p4,p5,p6,t7,t8,F0,F1,F2,F3,F4,F5,F6,F7,F8,e,l0,l1,l2,l3,l4,l5,l6,m0.upd x (fun k h=>hn k (by simp [h])),m1.upd x (fun k h=>hn k (by simp [h])),m2.upd x (fun k h=>hn k (by simp [h])),m3.upd x (fun k h=>hn k (by simp [h])),m4.upd x (fun k h=>hn k (by simp [h])),m5.upd x (fun k h=>hn k (by simp [h])),m6.upd x (fun k h=>hn k (by simp [h])),m7.upd x (fun k h=>hn k (by simp [h])),m8.upd x (fun k h=>hn k (by simp [h])),rfl⟩
theorem OwWorld.upd (h:OwWorld B w v d F) {fs:List Nat} (x:Upd w w' fs) (hn:∀ k,k ∈ F→k ∈ fs→False):OwWorld B w' v d F:=by
 obtain⟨p0,p1,p2,p3,p4,p5,p6,t7,t8,F0,F1,F2,F3,F4,F5,F6,F7,F8,e,l0,l1,l2,l3,l4,l5,l6,g0,g1,g2,g3,g4,g5,g6,g7,g8,hdj,rfl⟩:=h
 exact⟨p0,p1,p2,p3,p4,p5,p6,t7,t8,F0,F1,F2,F3,F4,F5,F6,F7,F8,e,l0,l1,l2,l3,l4,l5,l6,g0.upd x (fun k h=>hn k (by simp [h])),g1.upd x (fun k h=>hn k (by simp [h])),g2.upd x (fun k h=>hn k (by simp [h])),g3.upd x (fun k h=>hn k (by simp [h])),g4.upd x (fun k h=>hn k (by simp [h])),g5.upd x (fun k h=>hn k (by simp [h])),g6.upd x (fun k h=>hn k (by simp [h])),g7.upd x (fun k h=>hn k (by simp [h])),g8.upd x (fun k h=>hn k (by simp [h])),hdj,rfl⟩
theorem mark_World (h:OwWorld B w v d F) (hq0:0≤q) (hq1:q+(nmWorld d:Nat)≤4611686018427387904):Calls Tryz.prog 18 #[v,.int .i64 q] w (RetM w F (.int .i64 (q+(nmWorld d:Nat))) fun w'=>MkWorld B w' v d F q):=by
 obtain⟨p0,p1,p2,p3,p4,p5,p6,t7,t8,F0,F1,F2,F3,F4,F5,F6,F7,F8,rfl,l0,l1,l2,l3,l4,l5,l6,g0,g1,g2,g3,g4,g5,g6,g7,g8,hdj,rfl⟩:=h
 unfold nmWorld at hq1 ⊢
 have d0_1:∀ k,k ∈ F0→k ∈ F1→False:=pw_at hdj 0 1 oM (by simp)
 have d0_2:∀ k,k ∈ F0→k ∈ F2→False:=pw_at hdj 0 2 oM (by simp)
 have d0_3:∀ k,k ∈ F0→k ∈ F3→False:=pw_at hdj 0 3 oM (by simp)
 have d0_4:∀ k,k ∈ F0→k ∈ F4→False:=pw_at hdj 0 4 oM (by simp)
 have d0_5:∀ k,k ∈ F0→k ∈ F5→False:=pw_at hdj 0 5 oM (by simp)
 have d0_6:∀ k,k ∈ F0→k ∈ F6→False:=pw_at hdj 0 6 oM (by simp)
 have d0_7:∀ k,k ∈ F0→k ∈ F7→False:=pw_at hdj 0 7 oM (by simp)
 have d0_8:∀ k,k ∈ F0→k ∈ F8→False:=pw_at hdj 0 8 oM (by simp)
 have d1_2:∀ k,k ∈ F1→k ∈ F2→False:=pw_at hdj 1 2 oM (by simp)
 have d1_3:∀ k,k ∈ F1→k ∈ F3→False:=pw_at hdj 1 3 oM (by simp)
 have d1_4:∀ k,k ∈ F1→k ∈ F4→False:=pw_at hdj 1 4 oM (by simp)
 have d1_5:∀ k,k ∈ F1→k ∈ F5→False:=pw_at hdj 1 5 oM (by simp)
 have d1_6:∀ k,k ∈ F1→k ∈ F6→False:=pw_at hdj 1 6 oM (by simp)
 have d1_7:∀ k,k ∈ F1→k ∈ F7→False:=pw_at hdj 1 7 oM (by simp)
 have d1_8:∀ k,k ∈ F1→k ∈ F8→False:=pw_at hdj 1 8 oM (by simp)
 have d2_3:∀ k,k ∈ F2→k ∈ F3→False:=pw_at hdj 2 3 oM (by simp)
 have d2_4:∀ k,k ∈ F2→k ∈ F4→False:=pw_at hdj 2 4 oM (by simp)
 have d2_5:∀ k,k ∈ F2→k ∈ F5→False:=pw_at hdj 2 5 oM (by simp)
 have d2_6:∀ k,k ∈ F2→k ∈ F6→False:=pw_at hdj 2 6 oM (by simp)
 have d2_7:∀ k,k ∈ F2→k ∈ F7→False:=pw_at hdj 2 7 oM (by simp)
 have d2_8:∀ k,k ∈ F2→k ∈ F8→False:=pw_at hdj 2 8 oM (by simp)
 have d3_4:∀ k,k ∈ F3→k ∈ F4→False:=pw_at hdj 3 4 oM (by simp)
 have d3_5:∀ k,k ∈ F3→k ∈ F5→False:=pw_at hdj 3 5 oM (by simp)
 have d3_6:∀ k,k ∈ F3→k ∈ F6→False:=pw_at hdj 3 6 oM (by simp)
 have d3_7:∀ k,k ∈ F3→k ∈ F7→False:=pw_at hdj 3 7 oM (by simp)
 have d3_8:∀ k,k ∈ F3→k ∈ F8→False:=pw_at hdj 3 8 oM (by simp)
 have d4_5:∀ k,k ∈ F4→k ∈ F5→False:=pw_at hdj 4 5 oM (by simp)
 have d4_6:∀ k,k ∈ F4→k ∈ F6→False:=pw_at hdj 4 6 oM (by simp)
 have d4_7:∀ k,k ∈ F4→k ∈ F7→False:=pw_at hdj 4 7 oM (by simp)
 have d4_8:∀ k,k ∈ F4→k ∈ F8→False:=pw_at hdj 4 8 oM (by simp)
 have d5_6:∀ k,k ∈ F5→k ∈ F6→False:=pw_at hdj 5 6 oM (by simp)
 have d5_7:∀ k,k ∈ F5→k ∈ F7→False:=pw_at hdj 5 7 oM (by simp)
 have d5_8:∀ k,k ∈ F5→k ∈ F8→False:=pw_at hdj 5 8 oM (by simp)
 have d6_7:∀ k,k ∈ F6→k ∈ F7→False:=pw_at hdj 6 7 oM (by simp)
 have d6_8:∀ k,k ∈ F6→k ∈ F8→False:=pw_at hdj 6 8 oM (by simp)
 have d7_8:∀ k,k ∈ F7→k ∈ F8→False:=pw_at hdj 7 8 oM (by simp)
 have f0:w.heap.size ∉ F0:=fun h=>by have:=(g0.low _ h).2;omega
 have f1:w.heap.size ∉ F1:=fun h=>by have:=(g1.low _ h).2;omega
 have f2:w.heap.size ∉ F2:=fun h=>by have:=(g2.low _ h).2;omega
 have f3:w.heap.size ∉ F3:=fun h=>by have:=(g3.low _ h).2;omega
 have f4:w.heap.size ∉ F4:=fun h=>by have:=(g4.low _ h).2;omega
 have f5:w.heap.size ∉ F5:=fun h=>by have:=(g5.low _ h).2;omega
 have f6:w.heap.size ∉ F6:=fun h=>by have:=(g6.low _ h).2;omega
 have f7:w.heap.size ∉ F7:=fun h=>by have:=(g7.low _ h).2;omega
 have f8:w.heap.size ∉ F8:=fun h=>by have:=(g8.low _ h).2;omega
 obtain⟨L,hL⟩:∃ L:List Value,L=(p0 ++ (p1 ++ (p2 ++ (p3 ++ (p4 ++ (p5 ++ (p6 ++ ([t7] ++ ([t8] ++ []))))))))):=⟨_,rfl⟩
 rw [← hL]
 obtain⟨W0,hW0⟩:∃ W0,W0=w.alloc (.cells L.toArray 106):=⟨_,rfl⟩
 have E0:Ext w W0:=by rw [hW0];exact (Ext.refl _).alloc _
 have r:W0.rangeAt w.heap.size 0 L:=by rw [hW0];exact (Bk.new _ _ _).ra
 rw [hL] at r
 obtain⟨R0,r⟩:=range_app (m:=19) r l0 rfl
 obtain⟨R1,r⟩:=range_app (m:=31) r l1 rfl
 obtain⟨R2,r⟩:=range_app (m:=46) r l2 rfl
 obtain⟨R3,r⟩:=range_app (m:=61) r l3 rfl
 obtain⟨R4,r⟩:=range_app (m:=65) r l4 rfl
 obtain⟨R5,r⟩:=range_app (m:=69) r l5 rfl
 obtain⟨R6,r⟩:=range_app (m:=71) r l6 rfl
 obtain⟨R7,r⟩:=range_app (m:=72) r rfl rfl
 have R7:=range_one R7
 obtain⟨R8,r⟩:=range_app (m:=73) r rfl rfl
 have R8:=range_one R8
 clear r 
 have HL:=Lib.hid hL;clear hL
 go_enter Tryz.func18,Tryz.ntmps18
 go_upto_region 1 with (fail)
 rw [← hW0]
 clear hW0
 have g0:=g0.upd (E0.upd []) (fun _ _ h=>by cases h)
 have g1:=g1.upd (E0.upd []) (fun _ _ h=>by cases h)
 have g2:=g2.upd (E0.upd []) (fun _ _ h=>by cases h)
 have g3:=g3.upd (E0.upd []) (fun _ _ h=>by cases h)
 have g4:=g4.upd (E0.upd []) (fun _ _ h=>by cases h)
 have g5:=g5.upd (E0.upd []) (fun _ _ h=>by cases h)
 have g6:=g6.upd (E0.upd []) (fun _ _ h=>by cases h)
 have g7:=g7.upd (E0.upd []) (fun _ _ h=>by cases h)
 have g8:=g8.upd (E0.upd []) (fun _ _ h=>by cases h)
 have U0:Upd w W0 (F0 ++ F1 ++ F2 ++ F3 ++ F4 ++ F5 ++ F6 ++ F7 ++ F8):=E0.upd _
 go_wp2_with (first|(refine wpList_load_mid rfl 81 _ rfl (w.heap.size) 0 (by rfl) p0 _ R0 Tryz.underlying81 rfl (by rw [l0];kernel_rfl) ?_))
 refine (mark_Log g0 (q:=q) oM oM).mono ?_
 rintro e w0 ⟨rfl,x0,m0⟩
 obtain⟨z0,hz0⟩:∃ z,z=q+(nmLog d.Log:Nat):=⟨_,rfl⟩
 rw [← hz0]
 have y0:=Int.le_of_eq hz0;have v0:=Int.le_of_eq hz0.symm;have Hz0:=Lib.hid hz0;clear hz0
 have g1:=g1.upd x0 (fun k a b=>d0_1 k b a)
 have R1:=rangeAt_updF R1 x0 f0
 have g2:=g2.upd x0 (fun k a b=>d0_2 k b a)
 have R2:=rangeAt_updF R2 x0 f0
 have g3:=g3.upd x0 (fun k a b=>d0_3 k b a)
 have R3:=rangeAt_updF R3 x0 f0
 have g4:=g4.upd x0 (fun k a b=>d0_4 k b a)
 have R4:=rangeAt_updF R4 x0 f0
 have g5:=g5.upd x0 (fun k a b=>d0_5 k b a)
 have R5:=rangeAt_updF R5 x0 f0
 have g6:=g6.upd x0 (fun k a b=>d0_6 k b a)
 have R6:=rangeAt_updF R6 x0 f0
 have g7:=g7.upd x0 (fun k a b=>d0_7 k b a)
 have R7:=cell_updF R7 x0 f0
 have g8:=g8.upd x0 (fun k a b=>d0_8 k b a)
 have R8:=cell_updF R8 x0 f0
 have U1:=U0.trans (x0.more (fun k h=>by simp [h]))
 clear R0
 go_wp2_with (first|(refine wpList_load_mid rfl 88 _ rfl (w.heap.size) 19 (by rfl) p1 _ R1 Tryz.underlying88 rfl (by rw [l1];kernel_rfl) ?_))
 refine (markK_Store g1 (q:=z0) oM oM).mono ?_
 rintro e w1 ⟨rfl,x1,m1⟩
 obtain⟨z1,hz1⟩:∃ z,z=z0+(nStore d.Store:Nat):=⟨_,rfl⟩
 rw [← hz1]
 have y1:=Int.le_of_eq hz1;have v1:=Int.le_of_eq hz1.symm;have Hz1:=Lib.hid hz1;clear hz1
 have m0:=m0.upd x1 (fun k a b=>d0_1 k a b)
 have g2:=g2.upd x1 (fun k a b=>d1_2 k b a)
 have R2:=rangeAt_updF R2 x1 f1
 have g3:=g3.upd x1 (fun k a b=>d1_3 k b a)
 have R3:=rangeAt_updF R3 x1 f1
 have g4:=g4.upd x1 (fun k a b=>d1_4 k b a)
 have R4:=rangeAt_updF R4 x1 f1
 have g5:=g5.upd x1 (fun k a b=>d1_5 k b a)
 have R5:=rangeAt_updF R5 x1 f1
 have g6:=g6.upd x1 (fun k a b=>d1_6 k b a)
 have R6:=rangeAt_updF R6 x1 f1
 have g7:=g7.upd x1 (fun k a b=>d1_7 k b a)
 have R7:=cell_updF R7 x1 f1
 have g8:=g8.upd x1 (fun k a b=>d1_8 k b a)
 have R8:=cell_updF R8 x1 f1
 have U2:=U1.trans (x1.more (fun k h=>by simp [h]))
 clear R1
 go_wp2_with (first|(refine wpList_load_mid rfl 96 _ rfl (w.heap.size) 31 (by rfl) p2 _ R2 Tryz.underlying96 rfl (by rw [l2];kernel_rfl) ?_))
 refine (mark_Sched g2 (q:=z1) oM oM).mono ?_
 rintro e w2 ⟨rfl,x2,m2⟩
 obtain⟨z2,hz2⟩:∃ z,z=z1+(numSched d.Left:Nat):=⟨_,rfl⟩
 rw [← hz2]
 have y2:=Int.le_of_eq hz2;have v2:=Int.le_of_eq hz2.symm;have Hz2:=Lib.hid hz2;clear hz2
 have m0:=m0.upd x2 (fun k a b=>d0_2 k a b)
 have m1:=m1.upd x2 (fun k a b=>d1_2 k a b)
 have g3:=g3.upd x2 (fun k a b=>d2_3 k b a)
 have R3:=rangeAt_updF R3 x2 f2
 have g4:=g4.upd x2 (fun k a b=>d2_4 k b a)
 have R4:=rangeAt_updF R4 x2 f2
 have g5:=g5.upd x2 (fun k a b=>d2_5 k b a)
 have R5:=rangeAt_updF R5 x2 f2
 have g6:=g6.upd x2 (fun k a b=>d2_6 k b a)
 have R6:=rangeAt_updF R6 x2 f2
 have g7:=g7.upd x2 (fun k a b=>d2_7 k b a)
 have R7:=cell_updF R7 x2 f2
 have g8:=g8.upd x2 (fun k a b=>d2_8 k b a)
 have R8:=cell_updF R8 x2 f2
 have U3:=U2.trans (x2.more (fun k h=>by simp [h]))
 clear R2
 go_wp2_with (first|(refine wpList_load_mid rfl 96 _ rfl (w.heap.size) 46 (by rfl) p3 _ R3 Tryz.underlying96 rfl (by rw [l3];kernel_rfl) ?_))
 refine (mark_Sched g3 (q:=z2) oM oM).mono ?_
 rintro e w3 ⟨rfl,x3,m3⟩
 obtain⟨z3,hz3⟩:∃ z,z=z2+(numSched d.Right:Nat):=⟨_,rfl⟩
 rw [← hz3]
 have y3:=Int.le_of_eq hz3;have v3:=Int.le_of_eq hz3.symm;have Hz3:=Lib.hid hz3;clear hz3
 have m0:=m0.upd x3 (fun k a b=>d0_3 k a b)
 have m1:=m1.upd x3 (fun k a b=>d1_3 k a b)
 have m2:=m2.upd x3 (fun k a b=>d2_3 k a b)
 have g4:=g4.upd x3 (fun k a b=>d3_4 k b a)
 have R4:=rangeAt_updF R4 x3 f3
 have g5:=g5.upd x3 (fun k a b=>d3_5 k b a)
 have R5:=rangeAt_updF R5 x3 f3
 have g6:=g6.upd x3 (fun k a b=>d3_6 k b a)
 have R6:=rangeAt_updF R6 x3 f3
 have g7:=g7.upd x3 (fun k a b=>d3_7 k b a)
 have R7:=cell_updF R7 x3 f3
 have g8:=g8.upd x3 (fun k a b=>d3_8 k b a)
 have R8:=cell_updF R8 x3 f3
 have U4:=U3.trans (x3.more (fun k h=>by simp [h]))
 clear R3
 go_wp2_with (first|(refine wpList_load_mid rfl 100 _ rfl (w.heap.size) 61 (by rfl) p4 _ R4 Tryz.underlying100 rfl (by rw [l4];kernel_rfl) ?_))
 refine (mark_Client g4 (q:=z3) oM oM).mono ?_
 rintro e w4 ⟨rfl,x4,m4⟩
 obtain⟨z4,hz4⟩:∃ z,z=z3+(nmClient d.Ann:Nat):=⟨_,rfl⟩
 rw [← hz4]
 have y4:=Int.le_of_eq hz4;have v4:=Int.le_of_eq hz4.symm;have Hz4:=Lib.hid hz4;clear hz4
 have m0:=m0.upd x4 (fun k a b=>d0_4 k a b)
 have m1:=m1.upd x4 (fun k a b=>d1_4 k a b)
 have m2:=m2.upd x4 (fun k a b=>d2_4 k a b)
 have m3:=m3.upd x4 (fun k a b=>d3_4 k a b)
 have g5:=g5.upd x4 (fun k a b=>d4_5 k b a)
 have R5:=rangeAt_updF R5 x4 f4
 have g6:=g6.upd x4 (fun k a b=>d4_6 k b a)
 have R6:=rangeAt_updF R6 x4 f4
 have g7:=g7.upd x4 (fun k a b=>d4_7 k b a)
 have R7:=cell_updF R7 x4 f4
 have g8:=g8.upd x4 (fun k a b=>d4_8 k b a)
 have R8:=cell_updF R8 x4 f4
 have U5:=U4.trans (x4.more (fun k h=>by simp [h]))
 clear R4
 go_wp2_with (first|(refine wpList_load_mid rfl 100 _ rfl (w.heap.size) 65 (by rfl) p5 _ R5 Tryz.underlying100 rfl (by rw [l5];kernel_rfl) ?_))
 refine (mark_Client g5 (q:=z4) oM oM).mono ?_
 rintro e w5 ⟨rfl,x5,m5⟩
 obtain⟨z5,hz5⟩:∃ z,z=z4+(nmClient d.Bob:Nat):=⟨_,rfl⟩
 rw [← hz5]
 have y5:=Int.le_of_eq hz5;have v5:=Int.le_of_eq hz5.symm;have Hz5:=Lib.hid hz5;clear hz5
 have m0:=m0.upd x5 (fun k a b=>d0_5 k a b)
 have m1:=m1.upd x5 (fun k a b=>d1_5 k a b)
 have m2:=m2.upd x5 (fun k a b=>d2_5 k a b)
 have m3:=m3.upd x5 (fun k a b=>d3_5 k a b)
 have m4:=m4.upd x5 (fun k a b=>d4_5 k a b)
 have g6:=g6.upd x5 (fun k a b=>d5_6 k b a)
 have R6:=rangeAt_updF R6 x5 f5
 have g7:=g7.upd x5 (fun k a b=>d5_7 k b a)
 have R7:=cell_updF R7 x5 f5
 have g8:=g8.upd x5 (fun k a b=>d5_8 k b a)
 have R8:=cell_updF R8 x5 f5
 have U6:=U5.trans (x5.more (fun k h=>by simp [h]))
 clear R5
 go_wp2_with (first|(refine wpList_load_mid rfl 104 _ rfl (w.heap.size) 69 (by rfl) p6 _ R6 Tryz.underlying104 rfl (by rw [l6];kernel_rfl) ?_))
 refine (mark_Net g6 (q:=z5) oM oM).mono ?_
 rintro e w6 ⟨rfl,x6,m6⟩
 obtain⟨z6,hz6⟩:∃ z,z=z5+(nmNet d.Net:Nat):=⟨_,rfl⟩
 rw [← hz6]
 have y6:=Int.le_of_eq hz6;have v6:=Int.le_of_eq hz6.symm;have Hz6:=Lib.hid hz6;clear hz6
 have m0:=m0.upd x6 (fun k a b=>d0_6 k a b)
 have m1:=m1.upd x6 (fun k a b=>d1_6 k a b)
 have m2:=m2.upd x6 (fun k a b=>d2_6 k a b)
 have m3:=m3.upd x6 (fun k a b=>d3_6 k a b)
 have m4:=m4.upd x6 (fun k a b=>d4_6 k a b)
 have m5:=m5.upd x6 (fun k a b=>d5_6 k a b)
 have g7:=g7.upd x6 (fun k a b=>d6_7 k b a)
 have R7:=cell_updF R7 x6 f6
 have g8:=g8.upd x6 (fun k a b=>d6_8 k b a)
 have R8:=cell_updF R8 x6 f6
 have U7:=U6.trans (x6.more (fun k h=>by simp [h]))
 clear R6
 go_wp2_with fail
 refine (mark_Int64S g7 (q:=z6) oM oM).mono ?_
 rintro e w7 ⟨rfl,x7,m7⟩
 obtain⟨z7,hz7⟩:∃ z,z=z6+(nmInt64S d.Clocks:Nat):=⟨_,rfl⟩
 rw [← hz7]
 have y7:=Int.le_of_eq hz7;have v7:=Int.le_of_eq hz7.symm;have Hz7:=Lib.hid hz7;clear hz7
 have m0:=m0.upd x7 (fun k a b=>d0_7 k a b)
 have m1:=m1.upd x7 (fun k a b=>d1_7 k a b)
 have m2:=m2.upd x7 (fun k a b=>d2_7 k a b)
 have m3:=m3.upd x7 (fun k a b=>d3_7 k a b)
 have m4:=m4.upd x7 (fun k a b=>d4_7 k a b)
 have m5:=m5.upd x7 (fun k a b=>d5_7 k a b)
 have m6:=m6.upd x7 (fun k a b=>d6_7 k a b)
 have g8:=g8.upd x7 (fun k a b=>d7_8 k b a)
 have R8:=cell_updF R8 x7 f7
 have U8:=U7.trans (x7.more (fun k h=>by simp [h]))
 clear R7
 go_wp2_with fail
 refine (mark_BoolS g8 (q:=z7) oM oM).mono ?_
 rintro e w8 ⟨rfl,x8,m8⟩
 obtain⟨z8,hz8⟩:∃ z,z=z7+(nmBoolS d.Up:Nat):=⟨_,rfl⟩
 rw [← hz8]
 have y8:=Int.le_of_eq hz8;have v8:=Int.le_of_eq hz8.symm;have Hz8:=Lib.hid hz8;clear hz8
 have m0:=m0.upd x8 (fun k a b=>d0_8 k a b)
 have m1:=m1.upd x8 (fun k a b=>d1_8 k a b)
 have m2:=m2.upd x8 (fun k a b=>d2_8 k a b)
 have m3:=m3.upd x8 (fun k a b=>d3_8 k a b)
 have m4:=m4.upd x8 (fun k a b=>d4_8 k a b)
 have m5:=m5.upd x8 (fun k a b=>d5_8 k a b)
 have m6:=m6.upd x8 (fun k a b=>d6_8 k a b)
 have m7:=m7.upd x8 (fun k a b=>d7_8 k a b)
 have UZ:=U8.trans (x8.more (fun k h=>by simp [h]))
 clear R8
 go_wp2_with fail
 go_ret
 have hL:=HL.out
 subst hL
 have hz8:=Hz8.out
 subst hz8
 have hz7:=Hz7.out
 subst hz7
 have hz6:=Hz6.out
 subst hz6
 have hz5:=Hz5.out
 subst hz5
 have hz4:=Hz4.out
 subst hz4
 have hz3:=Hz3.out
 subst hz3
 have hz2:=Hz2.out
 subst hz2
 have hz1:=Hz1.out
 subst hz1
 have hz0:=Hz0.out
 subst hz0
 exact⟨congrArg (fun z:Int=>Ending.returned (Value.int .i64 z)) oM,UZ,p0,p1,p2,p3,p4,p5,p6,t7,t8,F0,F1,F2,F3,F4,F5,F6,F7,F8,rfl,l0,l1,l2,l3,l4,l5,l6,m0,m1,m2,m3,m4,m5,m6,m7,m8,rfl⟩
theorem held_World (h:MkWorld B w v d F q) (hq0:0≤q) (hq1:q+(nmWorld d:Nat)≤4611686018427387904):Calls Tryz.prog 32 #[v,.int .i64 q] w (RetV w (.int .i64 (q+(nmWorld d:Nat)))):=by
 obtain⟨p0,p1,p2,p3,p4,p5,p6,t7,t8,F0,F1,F2,F3,F4,F5,F6,F7,F8,rfl,l0,l1,l2,l3,l4,l5,l6,m0,m1,m2,m3,m4,m5,m6,m7,m8,rfl⟩:=h
 unfold nmWorld at hq1 ⊢
 obtain⟨L,hL⟩:∃ L:List Value,L=(p0 ++ (p1 ++ (p2 ++ (p3 ++ (p4 ++ (p5 ++ (p6 ++ ([t7] ++ ([t8] ++ []))))))))):=⟨_,rfl⟩
 rw [← hL]
 obtain⟨W0,hW0⟩:∃ W0,W0=w.alloc (.cells L.toArray 106):=⟨_,rfl⟩
 have E0:Ext w W0:=by rw [hW0];exact (Ext.refl _).alloc _
 have r:W0.rangeAt w.heap.size 0 L:=by rw [hW0];exact (Bk.new _ _ _).ra
 rw [hL] at r
 obtain⟨R0,r⟩:=range_app (m:=19) r l0 rfl
 obtain⟨R1,r⟩:=range_app (m:=31) r l1 rfl
 obtain⟨R2,r⟩:=range_app (m:=46) r l2 rfl
 obtain⟨R3,r⟩:=range_app (m:=61) r l3 rfl
 obtain⟨R4,r⟩:=range_app (m:=65) r l4 rfl
 obtain⟨R5,r⟩:=range_app (m:=69) r l5 rfl
 obtain⟨R6,r⟩:=range_app (m:=71) r l6 rfl
 obtain⟨R7,r⟩:=range_app (m:=72) r rfl rfl
 have R7:=range_one R7
 obtain⟨R8,r⟩:=range_app (m:=73) r rfl rfl
 have R8:=range_one R8
 clear r 
 have HL:=Lib.hid hL;clear hL
 go_enter Tryz.func32,Tryz.ntmps32
 go_upto_region 1 with (fail)
 rw [← hW0]
 clear hW0
 clear HL
 have X0:Ext W0 W0:=Ext.refl _
 obtain⟨z0,hz0⟩:∃ z,z=q+(nmLog d.Log:Nat):=⟨_,rfl⟩
 rw [← hz0] at m1 m2 m3 m4 m5 m6 m7 m8
 go_wp2_with (first|(refine wpList_load_mid rfl 81 _ rfl (w.heap.size) 0 (by rfl) p0 _ (rangeAt_ext R0 extT) Tryz.underlying81 rfl (by rw [l0];kernel_rfl) ?_))
 refine (held_Log (m0.ext (E0.trans X0)) oM oM).mono ?_
 rintro e w0 ⟨rfl,x0⟩
 have X0':=X0.trans x0
 rw [← hz0]
 have y0:=Int.le_of_eq hz0;have v0:=Int.le_of_eq hz0.symm;clear hz0
 have hd0:decide (z0<0)=false:=by simp;omega
 obtain⟨z1,hz1⟩:∃ z,z=z0+(nStore d.Store:Nat):=⟨_,rfl⟩
 rw [← hz1] at m2 m3 m4 m5 m6 m7 m8
 go_wp2_with (first|(refine wpList_load_mid rfl 88 _ rfl (w.heap.size) 19 (by rfl) p1 _ (rangeAt_ext R1 extT) Tryz.underlying88 rfl (by rw [l1];kernel_rfl) ?_))
 refine (heldK_Store (m1.ext (E0.trans X0')) oM oM).mono ?_
 rintro e w1 ⟨rfl,x1⟩
 have X1':=X0'.trans x1
 rw [← hz1]
 have y1:=Int.le_of_eq hz1;have v1:=Int.le_of_eq hz1.symm;clear hz1
 have hd1:decide (z1<0)=false:=by simp;omega
 obtain⟨z2,hz2⟩:∃ z,z=z1+(numSched d.Left:Nat):=⟨_,rfl⟩
 rw [← hz2] at m3 m4 m5 m6 m7 m8
 go_wp2_with (first|(refine wpList_load_mid rfl 96 _ rfl (w.heap.size) 31 (by rfl) p2 _ (rangeAt_ext R2 extT) Tryz.underlying96 rfl (by rw [l2];kernel_rfl) ?_))
 refine (held_Sched (m2.ext (E0.trans X1')) oM oM).mono ?_
 rintro e w2 ⟨rfl,x2⟩
 have X2':=X1'.trans x2
 rw [← hz2]
 have y2:=Int.le_of_eq hz2;have v2:=Int.le_of_eq hz2.symm;clear hz2
 have hd2:decide (z2<0)=false:=by simp;omega
 obtain⟨z3,hz3⟩:∃ z,z=z2+(numSched d.Right:Nat):=⟨_,rfl⟩
 rw [← hz3] at m4 m5 m6 m7 m8
 go_wp2_with (first|(refine wpList_load_mid rfl 96 _ rfl (w.heap.size) 46 (by rfl) p3 _ (rangeAt_ext R3 extT) Tryz.underlying96 rfl (by rw [l3];kernel_rfl) ?_))
 refine (held_Sched (m3.ext (E0.trans X2')) oM oM).mono ?_
 rintro e w3 ⟨rfl,x3⟩
 have X3':=X2'.trans x3
 rw [← hz3]
 have y3:=Int.le_of_eq hz3;have v3:=Int.le_of_eq hz3.symm;clear hz3
 have hd3:decide (z3<0)=false:=by simp;omega
 obtain⟨z4,hz4⟩:∃ z,z=z3+(nmClient d.Ann:Nat):=⟨_,rfl⟩
 rw [← hz4] at m5 m6 m7 m8
 go_wp2_with (first|(refine wpList_load_mid rfl 100 _ rfl (w.heap.size) 61 (by rfl) p4 _ (rangeAt_ext R4 extT) Tryz.underlying100 rfl (by rw [l4];kernel_rfl) ?_))
 refine (held_Client (m4.ext (E0.trans X3')) oM oM).mono ?_
 rintro e w4 ⟨rfl,x4⟩
 have X4':=X3'.trans x4
 rw [← hz4]
 have y4:=Int.le_of_eq hz4;have v4:=Int.le_of_eq hz4.symm;clear hz4
 have hd4:decide (z4<0)=false:=by simp;omega
 obtain⟨z5,hz5⟩:∃ z,z=z4+(nmClient d.Bob:Nat):=⟨_,rfl⟩
 rw [← hz5] at m6 m7 m8
 go_wp2_with (first|(refine wpList_load_mid rfl 100 _ rfl (w.heap.size) 65 (by rfl) p5 _ (rangeAt_ext R5 extT) Tryz.underlying100 rfl (by rw [l5];kernel_rfl) ?_))
 refine (held_Client (m5.ext (E0.trans X4')) oM oM).mono ?_
 rintro e w5 ⟨rfl,x5⟩
 have X5':=X4'.trans x5
 rw [← hz5]
 have y5:=Int.le_of_eq hz5;have v5:=Int.le_of_eq hz5.symm;clear hz5
 have hd5:decide (z5<0)=false:=by simp;omega
 obtain⟨z6,hz6⟩:∃ z,z=z5+(nmNet d.Net:Nat):=⟨_,rfl⟩
 rw [← hz6] at m7 m8
 go_wp2_with (first|(refine wpList_load_mid rfl 104 _ rfl (w.heap.size) 69 (by rfl) p6 _ (rangeAt_ext R6 extT) Tryz.underlying104 rfl (by rw [l6];kernel_rfl) ?_))
 refine (held_Net (m6.ext (E0.trans X5')) oM oM).mono ?_
 rintro e w6 ⟨rfl,x6⟩
 have X6':=X5'.trans x6
 rw [← hz6]
 have y6:=Int.le_of_eq hz6;have v6:=Int.le_of_eq hz6.symm;clear hz6
 have hd6:decide (z6<0)=false:=by simp;omega
 obtain⟨z7,hz7⟩:∃ z,z=z6+(nmInt64S d.Clocks:Nat):=⟨_,rfl⟩
 rw [← hz7] at m8
 have cq:=X6'.cell R7
 go_wp2_with fail
 clear cq
 refine (held_Int64S (m7.ext (E0.trans X6')) oM oM).mono ?_
 rintro e w7 ⟨rfl,x7⟩
 have X7':=X6'.trans x7
 rw [← hz7]
 have y7:=Int.le_of_eq hz7;have v7:=Int.le_of_eq hz7.symm;clear hz7
 have hd7:decide (z7<0)=false:=by simp;omega
 obtain⟨z8,hz8⟩:∃ z,z=z7+(nmBoolS d.Up:Nat):=⟨_,rfl⟩
 have cq:=X7'.cell R8
 go_wp2_with fail
 clear cq
 refine (held_BoolS (m8.ext (E0.trans X7')) oM oM).mono ?_
 rintro e w8 ⟨rfl,x8⟩
 have X8':=X7'.trans x8
 rw [← hz8]
 have y8:=Int.le_of_eq hz8;have v8:=Int.le_of_eq hz8.symm;clear hz8
 have hd8:decide (z8<0)=false:=by simp;omega
 go_wp2_with fail
 go_ret
 exact⟨congrArg (fun z:Int=>Ending.returned (Value.int .i64 z)) oM,E0.trans X8'⟩
end
end Go.Proofs.YtkpmbocbbgocbaaGreat
