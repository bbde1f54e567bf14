/- KW K2 Kh Kb Kc Kn HelpU. -/
import Derived.Test.YtkpmbocbbgocbaaGreatGa
import Derived.Test.YtkpmbocbbgocbaaGreatB0
import Derived.Test.YtkpmbocbbgocbaaGreatB1
import Derived.Test.YtkpmbocbbgocbaaGreatGu
import Derived.Test.YtkpmbocbbgocbaaGreatGl
import Derived.Test.YtkpmbocbbgocbaaGreatGm
import Derived.Test.YtkpmbocbbgocbaaGreatGb
set_option linter.unusedSimpArgs false
set_option linter.unusedVariables false
set_option maxHeartbeats 8000000
set_option maxRecDepth 100000
namespace Go.G8
open Go.RowKit
open Go.Proofs.YtkpmbocbbgocbaaGreat
theorem Ext.ofSet {w W V:World} {b:Nat} {row:Array Value} (e:V=W.setRow b row) (h:Ext w W) (hb:w.heap.size≤b):Ext w V:=e ▸ Ext.setRow h hb row
theorem Bk.ofSet {W V:World} {b c:Nat} {t:TypeId} {L:List Value} {row:Array Value} (e:V=W.setRow c row) (h:Bk W b t L) (hn:b ≠ c):Bk V b t L:=e ▸ Bk.rowFar h hn row
theorem Chg.ofSet {B:Nat} {w W V:World} {b:Nat} {row:Array Value} (e:V=W.setRow b row) (h:Chg B w W) (hb:b<B ∨ w.heap.size≤b):Chg B w V:=e ▸ Chg.setRow h hb row
theorem range_app {w:World} {g o n m:Nat} {p r:List Value} (h:w.rangeAt g o (p ++ r)) (hp:p.length=n) (e:o+n=m):w.rangeAt g o p∧w.rangeAt g m r:=by
 subst hp;subst e
 refine⟨fun j v hv=>h j v (by rw [List.getElem?_append_left (List.getElem?_eq_some_iff.1 hv).1];exact hv),fun j v hv=>?_⟩
 have:=h (p.length+j) v (by rw [List.getElem?_append_right oM,Nat.add_sub_cancel_left];exact hv)
 rwa [← Nat.add_assoc] at this
theorem range_one {w:World} {g o:Nat} {v:Value} (h:w.rangeAt g o [v]):w.cell? ⟨g,o,none⟩=some v:=h 0 v rfl
theorem Bk.ra {w:World} {g:Nat} {t:TypeId} {L:List Value} (h:Bk w g t L):w.rangeAt g 0 L:=Bk.range (A:=[]) (C:=[]) (Bk.cast h (by simp)) rfl
end Go.G8
namespace Go.Proofs.YtkpmbocbbgocbaaGreat
open Go.RowKit Go.G8
def RdInt64S (w:World) (v:Value) (l:List Int):Prop:=Ints 1 w v l
def OwInt64S (B:Nat) (w:World) (v:Value) (l:List Int) (F:List Nat):Prop:=OwnI B 2 1 w v l∧F=feet [v]
section
variable {B B':Nat} {w w':World} {v:Value} {l:List Int} {F:List Nat}
theorem RdInt64S.shape (h:RdInt64S w v l):∃ a n k,v=.slice a n k:=Ints.shape h
theorem RdInt64S.ext (h:RdInt64S w v l) (x:Ext w w'):RdInt64S w' v l:=Ints.ext h x
theorem OwInt64S.rd (h:OwInt64S B w v l F):RdInt64S w v l:=h.1.ints
theorem OwInt64S.keep (h:OwInt64S B w v l F) (x:Chg B w w'):OwInt64S B w' v l F:=⟨h.1.keep x,h.2⟩
theorem OwInt64S.mono (h:OwInt64S B w v l F) (x:B'≤B):OwInt64S B' w v l F:=⟨h.1.mono x,h.2⟩
theorem OwInt64S.low (h:OwInt64S B w v l F):∀ k,k ∈ F→B≤k∧k<w.heap.size:=by obtain⟨h,rfl⟩:=h;exact h.foot
theorem OwInt64S.upd (h:OwInt64S B w v l F) {fs:List Nat} (x:Upd w w' fs) (hn:∀ k,k ∈ F→k ∈ fs→False):OwInt64S B w' v l F:=by
 obtain⟨h,rfl⟩:=h
 exact⟨OwnI.upd' h x hn,rfl⟩
theorem eq_Int64S {u:Value} (h:RdInt64S w v l) (k:RdInt64S w u l):Calls Tryz.prog 17 #[v,u] w (RetV w (.bool true)):=eqInt64S_c w v u _ h k
end
def RdMarkS (w:World) (v:Value) (l:List DMark):Prop:=Ints 3 w v (flMark l)
def OwMarkS (B:Nat) (w:World) (v:Value) (l:List DMark) (F:List Nat):Prop:=OwnI B 290 3 w v (flMark l)∧F=feet [v]
section
variable {B B':Nat} {w w':World} {v:Value} {l:List DMark} {F:List Nat}
theorem RdMarkS.shape (h:RdMarkS w v l):∃ a n k,v=.slice a n k:=Ints.shape h
theorem RdMarkS.ext (h:RdMarkS w v l) (x:Ext w w'):RdMarkS w' v l:=Ints.ext h x
theorem OwMarkS.rd (h:OwMarkS B w v l F):RdMarkS w v l:=h.1.ints
theorem OwMarkS.keep (h:OwMarkS B w v l F) (x:Chg B w w'):OwMarkS B w' v l F:=⟨h.1.keep x,h.2⟩
theorem OwMarkS.mono (h:OwMarkS B w v l F) (x:B'≤B):OwMarkS B' w v l F:=⟨h.1.mono x,h.2⟩
theorem OwMarkS.low (h:OwMarkS B w v l F):∀ k,k ∈ F→B≤k∧k<w.heap.size:=by obtain⟨h,rfl⟩:=h;exact h.foot
theorem OwMarkS.upd (h:OwMarkS B w v l F) {fs:List Nat} (x:Upd w w' fs) (hn:∀ k,k ∈ F→k ∈ fs→False):OwMarkS B w' v l F:=by
 obtain⟨h,rfl⟩:=h
 exact⟨OwnI.upd' h x hn,rfl⟩
theorem eq_MarkS {u:Value} (h:RdMarkS w v l) (k:RdMarkS w u l):Calls Tryz.prog 143 #[v,u] w (RetV w (.bool true)):=eqMarkS_c w v u _ h k
end
def RdAckS (w:World) (v:Value) (l:List DAck):Prop:=Ints 4 w v (flAck l)
def OwAckS (B:Nat) (w:World) (v:Value) (l:List DAck) (F:List Nat):Prop:=OwnI B 284 4 w v (flAck l)∧F=feet [v]
section
variable {B B':Nat} {w w':World} {v:Value} {l:List DAck} {F:List Nat}
theorem RdAckS.shape (h:RdAckS w v l):∃ a n k,v=.slice a n k:=Ints.shape h
theorem RdAckS.ext (h:RdAckS w v l) (x:Ext w w'):RdAckS w' v l:=Ints.ext h x
theorem OwAckS.rd (h:OwAckS B w v l F):RdAckS w v l:=h.1.ints
theorem OwAckS.keep (h:OwAckS B w v l F) (x:Chg B w w'):OwAckS B w' v l F:=⟨h.1.keep x,h.2⟩
theorem OwAckS.mono (h:OwAckS B w v l F) (x:B'≤B):OwAckS B' w v l F:=⟨h.1.mono x,h.2⟩
theorem OwAckS.low (h:OwAckS B w v l F):∀ k,k ∈ F→B≤k∧k<w.heap.size:=by obtain⟨h,rfl⟩:=h;exact h.foot
theorem OwAckS.upd (h:OwAckS B w v l F) {fs:List Nat} (x:Upd w w' fs) (hn:∀ k,k ∈ F→k ∈ fs→False):OwAckS B w' v l F:=by
 obtain⟨h,rfl⟩:=h
 exact⟨OwnI.upd' h x hn,rfl⟩
theorem eq_AckS {u:Value} (h:RdAckS w v l) (k:RdAckS w u l):Calls Tryz.prog 144 #[v,u] w (RetV w (.bool true)):=eqAckS_c w v u _ h k
end
def RdWantS (w:World) (v:Value) (l:List DWant):Prop:=Ints 7 w v (flWant l)
def OwWantS (B:Nat) (w:World) (v:Value) (l:List DWant) (F:List Nat):Prop:=OwnI B 161 7 w v (flWant l)∧F=feet [v]
def sznWantS (l:List DWant):Nat:=l.length
section
variable {B B':Nat} {w w':World} {v:Value} {l:List DWant} {F:List Nat}
theorem RdWantS.shape (h:RdWantS w v l):∃ a n k,v=.slice a n k:=Ints.shape h
theorem RdWantS.ext (h:RdWantS w v l) (x:Ext w w'):RdWantS w' v l:=Ints.ext h x
theorem OwWantS.rd (h:OwWantS B w v l F):RdWantS w v l:=h.1.ints
theorem OwWantS.keep (h:OwWantS B w v l F) (x:Chg B w w'):OwWantS B w' v l F:=⟨h.1.keep x,h.2⟩
theorem OwWantS.mono (h:OwWantS B w v l F) (x:B'≤B):OwWantS B' w v l F:=⟨h.1.mono x,h.2⟩
theorem OwWantS.low (h:OwWantS B w v l F):∀ k,k ∈ F→B≤k∧k<w.heap.size:=by obtain⟨h,rfl⟩:=h;exact h.foot
theorem OwWantS.upd (h:OwWantS B w v l F) {fs:List Nat} (x:Upd w w' fs) (hn:∀ k,k ∈ F→k ∈ fs→False):OwWantS B w' v l F:=by
 obtain⟨h,rfl⟩:=h
 exact⟨OwnI.upd' h x hn,rfl⟩
theorem to_WantS (h:RdWantS w v l) (hs:sznWantS l≤1048576):Calls Tryz.prog 29 #[v] w (Ret w fun v' w'=>∃ F,OwWantS w.heap.size w' v' l F):=by
 refine (toWantS_c w v _ l.length (length_flWant _) h hs).mono ?_
 rintro e w' ⟨u,rfl,hx,g⟩
 exact⟨u,rfl,hx,_,g,rfl⟩
theorem sz_WantS (h:RdWantS w v l) {left:Int} (h0:0≤left) (h1:left≤1048576):Calls Tryz.prog 28 #[v,.int .i64 left] w (Ret w fun v' _=>SzR left (sznWantS l) v'):=szWantS_c w v _ l.length (length_flWant _) left h h0 h1
theorem eq_WantS {u:Value} (h:RdWantS w v l) (k:RdWantS w u l):Calls Tryz.prog 30 #[v,u] w (RetV w (.bool true)):=eqWantS_c w v u _ h k
end
def RdGotS (w:World) (v:Value) (l:List DGot):Prop:=Ints 4 w v (flGot l)
def OwGotS (B:Nat) (w:World) (v:Value) (l:List DGot) (F:List Nat):Prop:=OwnI B 276 4 w v (flGot l)∧F=feet [v]
section
variable {B B':Nat} {w w':World} {v:Value} {l:List DGot} {F:List Nat}
theorem RdGotS.shape (h:RdGotS w v l):∃ a n k,v=.slice a n k:=Ints.shape h
theorem RdGotS.ext (h:RdGotS w v l) (x:Ext w w'):RdGotS w' v l:=Ints.ext h x
theorem OwGotS.rd (h:OwGotS B w v l F):RdGotS w v l:=h.1.ints
theorem OwGotS.keep (h:OwGotS B w v l F) (x:Chg B w w'):OwGotS B w' v l F:=⟨h.1.keep x,h.2⟩
theorem OwGotS.mono (h:OwGotS B w v l F) (x:B'≤B):OwGotS B' w v l F:=⟨h.1.mono x,h.2⟩
theorem OwGotS.low (h:OwGotS B w v l F):∀ k,k ∈ F→B≤k∧k<w.heap.size:=by obtain⟨h,rfl⟩:=h;exact h.foot
theorem OwGotS.upd (h:OwGotS B w v l F) {fs:List Nat} (x:Upd w w' fs) (hn:∀ k,k ∈ F→k ∈ fs→False):OwGotS B w' v l F:=by
 obtain⟨h,rfl⟩:=h
 exact⟨OwnI.upd' h x hn,rfl⟩
theorem eq_GotS {u:Value} (h:RdGotS w v l) (k:RdGotS w u l):Calls Tryz.prog 149 #[v,u] w (RetV w (.bool true)):=eqGotS_c w v u _ h k
end
def RdLinkS (w:World) (v:Value) (l:List DLink):Prop:=Ints 2 w v (flLink l)
def OwLinkS (B:Nat) (w:World) (v:Value) (l:List DLink) (F:List Nat):Prop:=OwnI B 258 2 w v (flLink l)∧F=feet [v]
section
variable {B B':Nat} {w w':World} {v:Value} {l:List DLink} {F:List Nat}
theorem RdLinkS.shape (h:RdLinkS w v l):∃ a n k,v=.slice a n k:=Ints.shape h
theorem RdLinkS.ext (h:RdLinkS w v l) (x:Ext w w'):RdLinkS w' v l:=Ints.ext h x
theorem OwLinkS.rd (h:OwLinkS B w v l F):RdLinkS w v l:=h.1.ints
theorem OwLinkS.keep (h:OwLinkS B w v l F) (x:Chg B w w'):OwLinkS B w' v l F:=⟨h.1.keep x,h.2⟩
theorem OwLinkS.mono (h:OwLinkS B w v l F) (x:B'≤B):OwLinkS B' w v l F:=⟨h.1.mono x,h.2⟩
theorem OwLinkS.low (h:OwLinkS B w v l F):∀ k,k ∈ F→B≤k∧k<w.heap.size:=by obtain⟨h,rfl⟩:=h;exact h.foot
theorem OwLinkS.upd (h:OwLinkS B w v l F) {fs:List Nat} (x:Upd w w' fs) (hn:∀ k,k ∈ F→k ∈ fs→False):OwLinkS B w' v l F:=by
 obtain⟨h,rfl⟩:=h
 exact⟨OwnI.upd' h x hn,rfl⟩
theorem eq_LinkS {u:Value} (h:RdLinkS w v l) (k:RdLinkS w u l):Calls Tryz.prog 151 #[v,u] w (RetV w (.bool true)):=eqLinkS_c w v u _ h k
end
def RdEntryS (w:World) (v:Value) (l:List DEntry):Prop:=Ints 9 w v (flEntry l)
def OwEntryS (B:Nat) (w:World) (v:Value) (l:List DEntry) (F:List Nat):Prop:=OwnI B 281 9 w v (flEntry l)∧F=feet [v]
section
variable {B B':Nat} {w w':World} {v:Value} {l:List DEntry} {F:List Nat}
theorem RdEntryS.shape (h:RdEntryS w v l):∃ a n k,v=.slice a n k:=Ints.shape h
theorem RdEntryS.ext (h:RdEntryS w v l) (x:Ext w w'):RdEntryS w' v l:=Ints.ext h x
theorem OwEntryS.rd (h:OwEntryS B w v l F):RdEntryS w v l:=h.1.ints
theorem OwEntryS.keep (h:OwEntryS B w v l F) (x:Chg B w w'):OwEntryS B w' v l F:=⟨h.1.keep x,h.2⟩
theorem OwEntryS.mono (h:OwEntryS B w v l F) (x:B'≤B):OwEntryS B' w v l F:=⟨h.1.mono x,h.2⟩
theorem OwEntryS.low (h:OwEntryS B w v l F):∀ k,k ∈ F→B≤k∧k<w.heap.size:=by obtain⟨h,rfl⟩:=h;exact h.foot
theorem OwEntryS.upd (h:OwEntryS B w v l F) {fs:List Nat} (x:Upd w w' fs) (hn:∀ k,k ∈ F→k ∈ fs→False):OwEntryS B w' v l F:=by
 obtain⟨h,rfl⟩:=h
 exact⟨OwnI.upd' h x hn,rfl⟩
theorem eq_EntryS {u:Value} (h:RdEntryS w v l) (k:RdEntryS w u l):Calls Tryz.prog 246 #[v,u] w (RetV w (.bool true)):=eqEntryS_c w v u _ h k
end
def RdMsgS (w:World) (v:Value) (l:List DMsg):Prop:=RdMsgs w v (nestMsg l)
def OwMsgS (B:Nat) (w:World) (v:Value) (l:List DMsg) (F:List Nat):Prop:=OwMsgs B w v (nestMsg l) F
section
variable {B B':Nat} {w w':World} {v:Value} {l:List DMsg} {F:List Nat}
theorem RdMsgS.shape (h:RdMsgS w v l):∃ a n k,v=.slice a n k:=RdMsgs.shape h
theorem RdMsgS.ext (h:RdMsgS w v l) (x:Ext w w'):RdMsgS w' v l:=RdMsgs.ext h x
theorem OwMsgS.rd (h:OwMsgS B w v l F):RdMsgS w v l:=OwMsgs.rd h
theorem OwMsgS.keep (h:OwMsgS B w v l F) (x:Chg B w w'):OwMsgS B w' v l F:=OwMsgs.keep h x
theorem OwMsgS.mono (h:OwMsgS B w v l F) (x:B'≤B):OwMsgS B' w v l F:=OwMsgs.mono h x
theorem OwMsgS.low (h:OwMsgS B w v l F):∀ k,k ∈ F→B≤k∧k<w.heap.size:=OwMsgs.low h
theorem OwMsgS.upd (h:OwMsgS B w v l F) {fs:List Nat} (x:Upd w w' fs) (hn:∀ k,k ∈ F→k ∈ fs→False):OwMsgS B w' v l F:=OwMsgs.upd h x hn
theorem eq_MsgS {u:Value} (h:RdMsgS w v l) (k:RdMsgS w u l):Calls Tryz.prog 150 #[v,u] w (RetV w (.bool true)):=eq_Msgs h k
end
theorem RdDisk.cells {w:World} {v:Value} {d:DDisk} (h:RdDisk w v d):∃ L:List Value,v=.agg L.toArray∧L.length=2∧∀ x,x ∈ L→x.oneCell'=true:=by
 obtain⟨a0,n0,k0,a1,n1,k1,rfl⟩:=h.shape
 exact⟨_,rfl,rfl,by intro x hx;simp only [List.mem_cons,List.not_mem_nil,or_false] at hx;rcases hx with rfl|rfl <;> rfl⟩
theorem OwDisk.keepK {B:Nat} {w w':World} {v:Value} {d:DDisk} {F:List Nat} (h:OwDisk B w v d F) (x:Chg B w w'):OwDisk B w' v d F:=by
 obtain⟨t0,t1,s0,s1,e,h0,h1,hd,hF⟩:=h
 exact⟨t0,t1,s0,s1,e,h0.keep x,h1.keep x,hd,hF⟩
theorem OwDisk.monoK {B B':Nat} {w:World} {v:Value} {d:DDisk} {F:List Nat} (h:OwDisk B w v d F) (x:B'≤B):OwDisk B' w v d F:=by
 obtain⟨t0,t1,s0,s1,e,h0,h1,hd,hF⟩:=h
 exact⟨t0,t1,s0,s1,e,h0.mono x,h1.mono x,hd,hF⟩
theorem RdStore.cells {w:World} {v:Value} {d:DStore} (h:RdStore w v d):∃ L:List Value,v=.agg L.toArray∧L.length=12∧∀ x,x ∈ L→x.oneCell'=true:=by
 obtain⟨a0,n0,k0,a1,n1,k1,a4,n4,k4,a5,n5,k5,rfl⟩:=h.shape
 exact⟨_,rfl,rfl,by intro x hx;simp only [List.mem_cons,List.not_mem_nil,or_false] at hx;rcases hx with rfl|rfl|rfl|rfl|rfl|rfl|rfl|rfl|rfl|rfl|rfl|rfl <;> rfl⟩
theorem RdSched.cells {w:World} {v:Value} {d:DSched} (h:RdSched w v d):∃ L:List Value,v=.agg L.toArray∧L.length=15∧∀ x,x ∈ L→x.oneCell'=true:=by
 obtain⟨a7,n7,k7,rfl⟩:=h.shape
 exact⟨_,rfl,rfl,by intro x hx;simp only [List.mem_cons,List.not_mem_nil,or_false] at hx;rcases hx with rfl|rfl|rfl|rfl|rfl|rfl|rfl|rfl|rfl|rfl|rfl|rfl|rfl|rfl|rfl <;> rfl⟩
def RdTwo (w:World) (v:Value) (d:DTwo):Prop:=∃ p0:List Value,∃ p1:List Value,v=.agg (p0 ++ (p1 ++ [])).toArray∧p0.length=2∧p1.length=2∧RdDisk w (.agg p0.toArray) d.A∧RdDisk w (.agg p1.toArray) d.B
def OwTwo (B:Nat) (w:World) (v:Value) (d:DTwo) (F:List Nat):Prop:=∃ p0:List Value,∃ p1:List Value,∃ F0:List Nat,∃ F1:List Nat,v=.agg (p0 ++ (p1 ++ [])).toArray∧p0.length=2∧p1.length=2∧OwDisk B w (.agg p0.toArray) d.A F0∧OwDisk B w (.agg p1.toArray) d.B F1∧[F0,F1].Pairwise (fun a b=>∀ k,k ∈ a→k ∈ b→False)∧F=F0 ++ F1
section
variable {B B':Nat} {w w':World} {v:Value} {d:DTwo} {F:List Nat}
theorem RdTwo.ext (h:RdTwo w v d) (x:Ext w w'):RdTwo w' v d:=by
 obtain⟨p0,p1,e,l0,l1,g0,g1⟩:=h
 exact⟨p0,p1,e,l0,l1,g0.ext x,g1.ext x⟩
theorem OwTwo.rd (h:OwTwo B w v d F):RdTwo w v d:=by
 obtain⟨p0,p1,F0,F1,e,l0,l1,g0,g1,hdj,hF⟩:=h
 exact⟨p0,p1,e,l0,l1,g0.rd,g1.rd⟩
theorem OwTwo.keep (h:OwTwo B w v d F) (x:Chg B w w'):OwTwo B w' v d F:=by
 obtain⟨p0,p1,F0,F1,e,l0,l1,g0,g1,hdj,hF⟩:=h
 exact⟨p0,p1,F0,F1,e,l0,l1,g0.keepK x,g1.keepK x,hdj,hF⟩
theorem OwTwo.mono (h:OwTwo B w v d F) (x:B'≤B):OwTwo B' w v d F:=by
 obtain⟨p0,p1,F0,F1,e,l0,l1,g0,g1,hdj,hF⟩:=h
 exact⟨p0,p1,F0,F1,e,l0,l1,g0.monoK x,g1.monoK x,hdj,hF⟩
theorem OwTwo.low (h:OwTwo B w v d F):∀ k,k ∈ F→B≤k∧k<w.heap.size:=by
 obtain⟨p0,p1,F0,F1,e,l0,l1,g0,g1,hdj,rfl⟩:=h
 intro k hk
 simp only [List.mem_append] at hk
 rcases hk with hk|hk
 ·
  exact g0.low k hk
 exact g1.low k hk
theorem RdTwo.cells (h:RdTwo w v d):∃ L:List Value,v=.agg L.toArray∧L.length=4∧∀ x,x ∈ L→x.oneCell'=true:=by
 obtain⟨p0,p1,rfl,l0,l1,g0,g1⟩:=h
 refine⟨_,rfl,by simp [l0,l1],?_⟩
 intro x hx
 simp only [List.mem_append,List.mem_cons,List.not_mem_nil,or_false] at hx
 rcases hx with hx|hx
 ·
  obtain⟨L,e,-,h1⟩:=g0.cells;rw [agg_inj e] at hx;exact h1 x hx
 obtain⟨L,e,-,h1⟩:=g1.cells;rw [agg_inj e] at hx;exact h1 x hx
theorem eq_Two {u:Value} (h:RdTwo w v d) (k:RdTwo w u d):Calls Tryz.prog 140 #[v,u] w (RetV w (.bool true)):=by
 obtain⟨p0,p1,rfl,l0,l1,g0,g1⟩:=h
 obtain⟨r0,r1,rfl,m0,m1,f0,f1⟩:=k
 obtain⟨L,hL⟩:∃ L:List Value,L=(p0 ++ (p1 ++ [])):=⟨_,rfl⟩
 obtain⟨M,hM⟩:∃ L:List Value,L=(r0 ++ (r1 ++ [])):=⟨_,rfl⟩
 rw [← hL,← hM]
 obtain⟨W0,hW0⟩:∃ W0,W0=(w.alloc (.cells L.toArray 72)).alloc (.cells M.toArray 72):=⟨_,rfl⟩
 have E0:Ext w W0:=by rw [hW0];exact ((Ext.refl _).alloc _).alloc _
 have r:W0.rangeAt w.heap.size 0 L:=by rw [hW0];exact Bk.ra (Bk.alloc (Bk.new _ _ _) _)
 rw [hL] at r;clear hL
 obtain⟨R0,r⟩:=range_app (m:=2) r l0 rfl
 obtain⟨R1,r⟩:=range_app (m:=4) r l1 rfl
 clear r
 have r:W0.rangeAt (w.heap.size+1) 0 M:=by rw [hW0];exact Bk.ra (Blk.new2 _ _ _ _)
 rw [hM] at r;clear hM
 obtain⟨S0,r⟩:=range_app (m:=2) r m0 rfl
 obtain⟨S1,r⟩:=range_app (m:=4) r m1 rfl
 clear r
 go_enter Tryz.func140,Tryz.ntmps140
 go_upto_region 1 with (fail)
 rw [← hW0]
 clear hW0
 have X0:Ext W0 W0:=Ext.refl _
 go_wp2_with (first|(refine wpList_load_mid rfl 70 _ rfl (w.heap.size) 0 (by rfl) p0 _ (rangeAt_ext R0 extT) Tryz.underlying70 rfl (by rw [l0];kernel_rfl) ?_)|(refine wpList_load_mid rfl 70 _ rfl (w.heap.size+1) 0 (by rfl) r0 _ (rangeAt_ext S0 extT) Tryz.underlying70 rfl (by rw [m0];kernel_rfl) ?_))
 refine (eq_Disk (g0.ext (E0.trans X0)) (f0.ext (E0.trans X0))).mono ?_
 rintro e w1 ⟨rfl,x1⟩
 have X1:=X0.trans x1
 go_wp2_with (first|(refine wpList_load_mid rfl 70 _ rfl (w.heap.size) 2 (by rfl) p1 _ (rangeAt_ext R1 extT) Tryz.underlying70 rfl (by rw [l1];kernel_rfl) ?_)|(refine wpList_load_mid rfl 70 _ rfl (w.heap.size+1) 2 (by rfl) r1 _ (rangeAt_ext S1 extT) Tryz.underlying70 rfl (by rw [m1];kernel_rfl) ?_))
 refine (eq_Disk (g1.ext (E0.trans X1)) (f1.ext (E0.trans X1))).mono ?_
 rintro e w2 ⟨rfl,x2⟩
 have X2:=X1.trans x2
 go_wp2_with fail
 go_ret
 exact⟨rfl,E0.trans X2⟩
end
def RdHead (w:World) (v:Value) (d:DHead):Prop:=∃ t3:Value,v=.agg ([Value.int .i64 d.Num] ++ ([Value.int .i64 d.Base] ++ ([Value.int .i64 d.Time] ++ ([t3] ++ [])))).toArray∧RdMarkS w t3 d.Seen
def OwHead (B:Nat) (w:World) (v:Value) (d:DHead) (F:List Nat):Prop:=∃ t3:Value,∃ F3:List Nat,v=.agg ([Value.int .i64 d.Num] ++ ([Value.int .i64 d.Base] ++ ([Value.int .i64 d.Time] ++ ([t3] ++ [])))).toArray∧OwMarkS B w t3 d.Seen F3∧[F3].Pairwise (fun a b=>∀ k,k ∈ a→k ∈ b→False)∧F=F3
section
variable {B B':Nat} {w w':World} {v:Value} {d:DHead} {F:List Nat}
theorem RdHead.ext (h:RdHead w v d) (x:Ext w w'):RdHead w' v d:=by
 obtain⟨t3,e,g3⟩:=h
 exact⟨t3,e,g3.ext x⟩
theorem OwHead.rd (h:OwHead B w v d F):RdHead w v d:=by
 obtain⟨t3,F3,e,g3,hdj,hF⟩:=h
 exact⟨t3,e,g3.rd⟩
theorem OwHead.keep (h:OwHead B w v d F) (x:Chg B w w'):OwHead B w' v d F:=by
 obtain⟨t3,F3,e,g3,hdj,hF⟩:=h
 exact⟨t3,F3,e,g3.keep x,hdj,hF⟩
theorem OwHead.mono (h:OwHead B w v d F) (x:B'≤B):OwHead B' w v d F:=by
 obtain⟨t3,F3,e,g3,hdj,hF⟩:=h
 exact⟨t3,F3,e,g3.mono x,hdj,hF⟩
theorem OwHead.low (h:OwHead B w v d F):∀ k,k ∈ F→B≤k∧k<w.heap.size:=by
 obtain⟨t3,F3,e,g3,hdj,rfl⟩:=h
 intro k hk
 exact g3.low k hk
theorem RdHead.cells (h:RdHead w v d):∃ L:List Value,v=.agg L.toArray∧L.length=4∧∀ x,x ∈ L→x.oneCell'=true:=by
 obtain⟨t3,rfl,g3⟩:=h
 refine⟨_,rfl,by simp [],?_⟩
 intro x hx
 simp only [List.mem_append,List.mem_cons,List.not_mem_nil,or_false] at hx
 rcases hx with rfl|rfl|rfl|rfl
 ·
  rfl
 ·
  rfl
 ·
  rfl
 obtain⟨a,n,k,rfl⟩:=g3.shape;rfl
theorem eq_Head {u:Value} (h:RdHead w v d) (k:RdHead w u d):Calls Tryz.prog 141 #[v,u] w (RetV w (.bool true)):=by
 obtain⟨t3,rfl,g3⟩:=h
 obtain⟨s3,rfl,f3⟩:=k
 obtain⟨L,hL⟩:∃ L:List Value,L=([Value.int .i64 d.Num] ++ ([Value.int .i64 d.Base] ++ ([Value.int .i64 d.Time] ++ ([t3] ++ [])))):=⟨_,rfl⟩
 obtain⟨M,hM⟩:∃ L:List Value,L=([Value.int .i64 d.Num] ++ ([Value.int .i64 d.Base] ++ ([Value.int .i64 d.Time] ++ ([s3] ++ [])))):=⟨_,rfl⟩
 rw [← hL,← hM]
 obtain⟨W0,hW0⟩:∃ W0,W0=(w.alloc (.cells L.toArray 75)).alloc (.cells M.toArray 75):=⟨_,rfl⟩
 have E0:Ext w W0:=by rw [hW0];exact ((Ext.refl _).alloc _).alloc _
 have r:W0.rangeAt w.heap.size 0 L:=by rw [hW0];exact Bk.ra (Bk.alloc (Bk.new _ _ _) _)
 rw [hL] at r;clear hL
 obtain⟨R0,r⟩:=range_app (m:=1) r rfl rfl
 have R0:=range_one R0
 obtain⟨R1,r⟩:=range_app (m:=2) r rfl rfl
 have R1:=range_one R1
 obtain⟨R2,r⟩:=range_app (m:=3) r rfl rfl
 have R2:=range_one R2
 obtain⟨R3,r⟩:=range_app (m:=4) r rfl rfl
 have R3:=range_one R3
 clear r
 have r:W0.rangeAt (w.heap.size+1) 0 M:=by rw [hW0];exact Bk.ra (Blk.new2 _ _ _ _)
 rw [hM] at r;clear hM
 obtain⟨S0,r⟩:=range_app (m:=1) r rfl rfl
 have S0:=range_one S0
 obtain⟨S1,r⟩:=range_app (m:=2) r rfl rfl
 have S1:=range_one S1
 obtain⟨S2,r⟩:=range_app (m:=3) r rfl rfl
 have S2:=range_one S2
 obtain⟨S3,r⟩:=range_app (m:=4) r rfl rfl
 have S3:=range_one S3
 clear r
 go_enter Tryz.func141,Tryz.ntmps141
 go_upto_region 1 with (fail)
 rw [← hW0]
 clear hW0
 have X0:Ext W0 W0:=Ext.refl _
 have ca0:=X0.cell R0;have cb0:=X0.cell S0
 have ca1:=X0.cell R1;have cb1:=X0.cell S1
 have ca2:=X0.cell R2;have cb2:=X0.cell S2
 have ca3:=X0.cell R3;have cb3:=X0.cell S3
 go_wp2_with fail
 refine (eq_MarkS (g3.ext (E0.trans X0)) (f3.ext (E0.trans X0))).mono ?_
 rintro e w1 ⟨rfl,x1⟩
 have X1:=X0.trans x1
 clear ca0 cb0 ca1 cb1 ca2 cb2 ca3 cb3
 go_wp2_with fail
 go_ret
 exact⟨rfl,E0.trans X1⟩
end
def RdBook (w:World) (v:Value) (d:DBook):Prop:=∃ t2:Value,v=.agg ([Value.int .i64 d.Base] ++ ([Value.int .i64 d.Time] ++ ([t2] ++ []))).toArray∧RdEntryS w t2 d.Entries
def OwBook (B:Nat) (w:World) (v:Value) (d:DBook) (F:List Nat):Prop:=∃ t2:Value,∃ F2:List Nat,v=.agg ([Value.int .i64 d.Base] ++ ([Value.int .i64 d.Time] ++ ([t2] ++ []))).toArray∧OwEntryS B w t2 d.Entries F2∧[F2].Pairwise (fun a b=>∀ k,k ∈ a→k ∈ b→False)∧F=F2
section
variable {B B':Nat} {w w':World} {v:Value} {d:DBook} {F:List Nat}
theorem RdBook.ext (h:RdBook w v d) (x:Ext w w'):RdBook w' v d:=by
 obtain⟨t2,e,g2⟩:=h
 exact⟨t2,e,g2.ext x⟩
theorem OwBook.rd (h:OwBook B w v d F):RdBook w v d:=by
 obtain⟨t2,F2,e,g2,hdj,hF⟩:=h
 exact⟨t2,e,g2.rd⟩
theorem OwBook.keep (h:OwBook B w v d F) (x:Chg B w w'):OwBook B w' v d F:=by
 obtain⟨t2,F2,e,g2,hdj,hF⟩:=h
 exact⟨t2,F2,e,g2.keep x,hdj,hF⟩
theorem OwBook.mono (h:OwBook B w v d F) (x:B'≤B):OwBook B' w v d F:=by
 obtain⟨t2,F2,e,g2,hdj,hF⟩:=h
 exact⟨t2,F2,e,g2.mono x,hdj,hF⟩
theorem OwBook.low (h:OwBook B w v d F):∀ k,k ∈ F→B≤k∧k<w.heap.size:=by
 obtain⟨t2,F2,e,g2,hdj,rfl⟩:=h
 intro k hk
 exact g2.low k hk
theorem RdBook.cells (h:RdBook w v d):∃ L:List Value,v=.agg L.toArray∧L.length=3∧∀ x,x ∈ L→x.oneCell'=true:=by
 obtain⟨t2,rfl,g2⟩:=h
 refine⟨_,rfl,by simp [],?_⟩
 intro x hx
 simp only [List.mem_append,List.mem_cons,List.not_mem_nil,or_false] at hx
 rcases hx with rfl|rfl|rfl
 ·
  rfl
 ·
  rfl
 obtain⟨a,n,k,rfl⟩:=g2.shape;rfl
theorem eq_Book {u:Value} (h:RdBook w v d) (k:RdBook w u d):Calls Tryz.prog 142 #[v,u] w (RetV w (.bool true)):=by
 obtain⟨t2,rfl,g2⟩:=h
 obtain⟨s2,rfl,f2⟩:=k
 obtain⟨L,hL⟩:∃ L:List Value,L=([Value.int .i64 d.Base] ++ ([Value.int .i64 d.Time] ++ ([t2] ++ []))):=⟨_,rfl⟩
 obtain⟨M,hM⟩:∃ L:List Value,L=([Value.int .i64 d.Base] ++ ([Value.int .i64 d.Time] ++ ([s2] ++ []))):=⟨_,rfl⟩
 rw [← hL,← hM]
 obtain⟨W0,hW0⟩:∃ W0,W0=(w.alloc (.cells L.toArray 78)).alloc (.cells M.toArray 78):=⟨_,rfl⟩
 have E0:Ext w W0:=by rw [hW0];exact ((Ext.refl _).alloc _).alloc _
 have r:W0.rangeAt w.heap.size 0 L:=by rw [hW0];exact Bk.ra (Bk.alloc (Bk.new _ _ _) _)
 rw [hL] at r;clear hL
 obtain⟨R0,r⟩:=range_app (m:=1) r rfl rfl
 have R0:=range_one R0
 obtain⟨R1,r⟩:=range_app (m:=2) r rfl rfl
 have R1:=range_one R1
 obtain⟨R2,r⟩:=range_app (m:=3) r rfl rfl
 have R2:=range_one R2
 clear r
 have r:W0.rangeAt (w.heap.size+1) 0 M:=by rw [hW0];exact Bk.ra (Blk.new2 _ _ _ _)
 rw [hM] at r;clear hM
 obtain⟨S0,r⟩:=range_app (m:=1) r rfl rfl
 have S0:=range_one S0
 obtain⟨S1,r⟩:=range_app (m:=2) r rfl rfl
 have S1:=range_one S1
 obtain⟨S2,r⟩:=range_app (m:=3) r rfl rfl
 have S2:=range_one S2
 clear r
 go_enter Tryz.func142,Tryz.ntmps142
 go_upto_region 1 with (fail)
 rw [← hW0]
 clear hW0
 have X0:Ext W0 W0:=Ext.refl _
 have ca0:=X0.cell R0;have cb0:=X0.cell S0
 have ca1:=X0.cell R1;have cb1:=X0.cell S1
 have ca2:=X0.cell R2;have cb2:=X0.cell S2
 go_wp2_with fail
 refine (eq_EntryS (g2.ext (E0.trans X0)) (f2.ext (E0.trans X0))).mono ?_
 rintro e w1 ⟨rfl,x1⟩
 have X1:=X0.trans x1
 clear ca0 cb0 ca1 cb1 ca2 cb2
 go_wp2_with fail
 go_ret
 exact⟨rfl,E0.trans X1⟩
end
def RdClient (w:World) (v:Value) (d:DClient):Prop:=∃ t1:Value,∃ t2:Value,v=.agg ([Value.int .i64 d.Id] ++ ([t1] ++ ([t2] ++ ([Value.int .i64 d.Last] ++ [])))).toArray∧RdWantS w t1 d.Todo∧RdGotS w t2 d.Gots
def OwClient (B:Nat) (w:World) (v:Value) (d:DClient) (F:List Nat):Prop:=∃ t1:Value,∃ t2:Value,∃ F1:List Nat,∃ F2:List Nat,v=.agg ([Value.int .i64 d.Id] ++ ([t1] ++ ([t2] ++ ([Value.int .i64 d.Last] ++ [])))).toArray∧OwWantS B w t1 d.Todo F1∧OwGotS B w t2 d.Gots F2∧[F1,F2].Pairwise (fun a b=>∀ k,k ∈ a→k ∈ b→False)∧F=F1 ++ F2
section
variable {B B':Nat} {w w':World} {v:Value} {d:DClient} {F:List Nat}
theorem RdClient.ext (h:RdClient w v d) (x:Ext w w'):RdClient w' v d:=by
 obtain⟨t1,t2,e,g1,g2⟩:=h
 exact⟨t1,t2,e,g1.ext x,g2.ext x⟩
theorem OwClient.rd (h:OwClient B w v d F):RdClient w v d:=by
 obtain⟨t1,t2,F1,F2,e,g1,g2,hdj,hF⟩:=h
 exact⟨t1,t2,e,g1.rd,g2.rd⟩
theorem OwClient.keep (h:OwClient B w v d F) (x:Chg B w w'):OwClient B w' v d F:=by
 obtain⟨t1,t2,F1,F2,e,g1,g2,hdj,hF⟩:=h
 exact⟨t1,t2,F1,F2,e,g1.keep x,g2.keep x,hdj,hF⟩
theorem OwClient.mono (h:OwClient B w v d F) (x:B'≤B):OwClient B' w v d F:=by
 obtain⟨t1,t2,F1,F2,e,g1,g2,hdj,hF⟩:=h
 exact⟨t1,t2,F1,F2,e,g1.mono x,g2.mono x,hdj,hF⟩
theorem OwClient.low (h:OwClient B w v d F):∀ k,k ∈ F→B≤k∧k<w.heap.size:=by
 obtain⟨t1,t2,F1,F2,e,g1,g2,hdj,rfl⟩:=h
 intro k hk
 simp only [List.mem_append] at hk
 rcases hk with hk|hk
 ·
  exact g1.low k hk
 exact g2.low k hk
theorem RdClient.cells (h:RdClient w v d):∃ L:List Value,v=.agg L.toArray∧L.length=4∧∀ x,x ∈ L→x.oneCell'=true:=by
 obtain⟨t1,t2,rfl,g1,g2⟩:=h
 refine⟨_,rfl,by simp [],?_⟩
 intro x hx
 simp only [List.mem_append,List.mem_cons,List.not_mem_nil,or_false] at hx
 rcases hx with rfl|rfl|rfl|rfl
 ·
  rfl
 ·
  obtain⟨a,n,k,rfl⟩:=g1.shape;rfl
 ·
  obtain⟨a,n,k,rfl⟩:=g2.shape;rfl
 rfl
theorem eq_Client {u:Value} (h:RdClient w v d) (k:RdClient w u d):Calls Tryz.prog 55 #[v,u] w (RetV w (.bool true)):=by
 obtain⟨t1,t2,rfl,g1,g2⟩:=h
 obtain⟨s1,s2,rfl,f1,f2⟩:=k
 obtain⟨L,hL⟩:∃ L:List Value,L=([Value.int .i64 d.Id] ++ ([t1] ++ ([t2] ++ ([Value.int .i64 d.Last] ++ [])))):=⟨_,rfl⟩
 obtain⟨M,hM⟩:∃ L:List Value,L=([Value.int .i64 d.Id] ++ ([s1] ++ ([s2] ++ ([Value.int .i64 d.Last] ++ [])))):=⟨_,rfl⟩
 rw [← hL,← hM]
 obtain⟨W0,hW0⟩:∃ W0,W0=(w.alloc (.cells L.toArray 100)).alloc (.cells M.toArray 100):=⟨_,rfl⟩
 have E0:Ext w W0:=by rw [hW0];exact ((Ext.refl _).alloc _).alloc _
 have r:W0.rangeAt w.heap.size 0 L:=by rw [hW0];exact Bk.ra (Bk.alloc (Bk.new _ _ _) _)
 rw [hL] at r;clear hL
 obtain⟨R0,r⟩:=range_app (m:=1) r rfl rfl
 have R0:=range_one R0
 obtain⟨R1,r⟩:=range_app (m:=2) r rfl rfl
 have R1:=range_one R1
 obtain⟨R2,r⟩:=range_app (m:=3) r rfl rfl
 have R2:=range_one R2
 obtain⟨R3,r⟩:=range_app (m:=4) r rfl rfl
 have R3:=range_one R3
 clear r
 have r:W0.rangeAt (w.heap.size+1) 0 M:=by rw [hW0];exact Bk.ra (Blk.new2 _ _ _ _)
 rw [hM] at r;clear hM
 obtain⟨S0,r⟩:=range_app (m:=1) r rfl rfl
 have S0:=range_one S0
 obtain⟨S1,r⟩:=range_app (m:=2) r rfl rfl
 have S1:=range_one S1
 obtain⟨S2,r⟩:=range_app (m:=3) r rfl rfl
 have S2:=range_one S2
 obtain⟨S3,r⟩:=range_app (m:=4) r rfl rfl
 have S3:=range_one S3
 clear r
 go_enter Tryz.func55,Tryz.ntmps55
 go_upto_region 1 with (fail)
 rw [← hW0]
 clear hW0
 have X0:Ext W0 W0:=Ext.refl _
 have ca0:=X0.cell R0;have cb0:=X0.cell S0
 have ca1:=X0.cell R1;have cb1:=X0.cell S1
 go_wp2_with fail
 refine (eq_WantS (g1.ext (E0.trans X0)) (f1.ext (E0.trans X0))).mono ?_
 rintro e w1 ⟨rfl,x1⟩
 have X1:=X0.trans x1
 clear ca0 cb0 ca1 cb1
 have ca2:=X1.cell R2;have cb2:=X1.cell S2
 go_wp2_with fail
 refine (eq_GotS (g2.ext (E0.trans X1)) (f2.ext (E0.trans X1))).mono ?_
 rintro e w2 ⟨rfl,x2⟩
 have X2:=X1.trans x2
 clear ca2 cb2
 have ca3:=X2.cell R3;have cb3:=X2.cell S3
 go_wp2_with fail
 go_ret
 exact⟨rfl,E0.trans X2⟩
end
def RdNet (w:World) (v:Value) (d:DNet):Prop:=∃ t0:Value,∃ t1:Value,v=.agg ([t0] ++ ([t1] ++ [])).toArray∧RdMsgS w t0 d.Flight∧RdLinkS w t1 d.Cuts
def OwNet (B:Nat) (w:World) (v:Value) (d:DNet) (F:List Nat):Prop:=∃ t0:Value,∃ t1:Value,∃ F0:List Nat,∃ F1:List Nat,v=.agg ([t0] ++ ([t1] ++ [])).toArray∧OwMsgS B w t0 d.Flight F0∧OwLinkS B w t1 d.Cuts F1∧[F0,F1].Pairwise (fun a b=>∀ k,k ∈ a→k ∈ b→False)∧F=F0 ++ F1
section
variable {B B':Nat} {w w':World} {v:Value} {d:DNet} {F:List Nat}
theorem RdNet.ext (h:RdNet w v d) (x:Ext w w'):RdNet w' v d:=by
 obtain⟨t0,t1,e,g0,g1⟩:=h
 exact⟨t0,t1,e,g0.ext x,g1.ext x⟩
theorem OwNet.rd (h:OwNet B w v d F):RdNet w v d:=by
 obtain⟨t0,t1,F0,F1,e,g0,g1,hdj,hF⟩:=h
 exact⟨t0,t1,e,g0.rd,g1.rd⟩
theorem OwNet.keep (h:OwNet B w v d F) (x:Chg B w w'):OwNet B w' v d F:=by
 obtain⟨t0,t1,F0,F1,e,g0,g1,hdj,hF⟩:=h
 exact⟨t0,t1,F0,F1,e,g0.keep x,g1.keep x,hdj,hF⟩
theorem OwNet.mono (h:OwNet B w v d F) (x:B'≤B):OwNet B' w v d F:=by
 obtain⟨t0,t1,F0,F1,e,g0,g1,hdj,hF⟩:=h
 exact⟨t0,t1,F0,F1,e,g0.mono x,g1.mono x,hdj,hF⟩
theorem OwNet.low (h:OwNet B w v d F):∀ k,k ∈ F→B≤k∧k<w.heap.size:=by
 obtain⟨t0,t1,F0,F1,e,g0,g1,hdj,rfl⟩:=h
 intro k hk
 simp only [List.mem_append] at hk
 rcases hk with hk|hk
 ·
  exact g0.low k hk
 exact g1.low k hk
theorem RdNet.cells (h:RdNet w v d):∃ L:List Value,v=.agg L.toArray∧L.length=2∧∀ x,x ∈ L→x.oneCell'=true:=by
 obtain⟨t0,t1,rfl,g0,g1⟩:=h
 refine⟨_,rfl,by simp [],?_⟩
 intro x hx
 simp only [List.mem_append,List.mem_cons,List.not_mem_nil,or_false] at hx
 rcases hx with rfl|rfl
 ·
  obtain⟨a,n,k,rfl⟩:=g0.shape;rfl
 obtain⟨a,n,k,rfl⟩:=g1.shape;rfl
theorem eq_Net {u:Value} (h:RdNet w v d) (k:RdNet w u d):Calls Tryz.prog 56 #[v,u] w (RetV w (.bool true)):=by
 obtain⟨t0,t1,rfl,g0,g1⟩:=h
 obtain⟨s0,s1,rfl,f0,f1⟩:=k
 obtain⟨L,hL⟩:∃ L:List Value,L=([t0] ++ ([t1] ++ [])):=⟨_,rfl⟩
 obtain⟨M,hM⟩:∃ L:List Value,L=([s0] ++ ([s1] ++ [])):=⟨_,rfl⟩
 rw [← hL,← hM]
 obtain⟨W0,hW0⟩:∃ W0,W0=(w.alloc (.cells L.toArray 104)).alloc (.cells M.toArray 104):=⟨_,rfl⟩
 have E0:Ext w W0:=by rw [hW0];exact ((Ext.refl _).alloc _).alloc _
 have r:W0.rangeAt w.heap.size 0 L:=by rw [hW0];exact Bk.ra (Bk.alloc (Bk.new _ _ _) _)
 rw [hL] at r;clear hL
 obtain⟨R0,r⟩:=range_app (m:=1) r rfl rfl
 have R0:=range_one R0
 obtain⟨R1,r⟩:=range_app (m:=2) r rfl rfl
 have R1:=range_one R1
 clear r
 have r:W0.rangeAt (w.heap.size+1) 0 M:=by rw [hW0];exact Bk.ra (Blk.new2 _ _ _ _)
 rw [hM] at r;clear hM
 obtain⟨S0,r⟩:=range_app (m:=1) r rfl rfl
 have S0:=range_one S0
 obtain⟨S1,r⟩:=range_app (m:=2) r rfl rfl
 have S1:=range_one S1
 clear r
 go_enter Tryz.func56,Tryz.ntmps56
 go_upto_region 1 with (fail)
 rw [← hW0]
 clear hW0
 have X0:Ext W0 W0:=Ext.refl _
 have ca0:=X0.cell R0;have cb0:=X0.cell S0
 go_wp2_with fail
 refine (eq_MsgS (g0.ext (E0.trans X0)) (f0.ext (E0.trans X0))).mono ?_
 rintro e w1 ⟨rfl,x1⟩
 have X1:=X0.trans x1
 clear ca0 cb0
 have ca1:=X1.cell R1;have cb1:=X1.cell S1
 go_wp2_with fail
 refine (eq_LinkS (g1.ext (E0.trans X1)) (f1.ext (E0.trans X1))).mono ?_
 rintro e w2 ⟨rfl,x2⟩
 have X2:=X1.trans x2
 clear ca1 cb1
 go_wp2_with fail
 go_ret
 exact⟨rfl,E0.trans X2⟩
end
end Go.Proofs.YtkpmbocbbgocbaaGreat
namespace Go.G8
open Go.RowKit
open Go.Proofs.YtkpmbocbbgocbaaGreat
theorem Sl.bools {w:World} {v:Value} {l:List Bool} (h:Sl 1 w v (l.map .bool)):∃ a cap,v=.slice a l.length cap∧l.length≤cap∧cap≤maxLen ∧
  ∀ i,i<l.length→∃ x b off,l[i]?=some x∧a=some ⟨b,off,none⟩∧b<w.heap.size∧w.cell? ⟨b,off+i,none⟩=some (.bool x):=by
 obtain⟨a,len,cap,rfl,hl,hc,hm,hn,ha⟩:=h
 simp only [List.length_map,Nat.mul_one] at hl
 subst hl
 refine⟨a,cap,rfl,hc,hm,fun i hi=>?_⟩
 cases a with
 | none=>have:=hn rfl;omega
 | some p =>
  obtain⟨b,off,sp⟩:=p
  obtain⟨rfl,hb,hcell⟩:=ha b off sp rfl oM
  have hx:l[i]?=some l[i]:=List.getElem?_eq_getElem hi
  exact⟨l[i],b,off,hx,rfl,hb,hcell i _ (by rw [List.getElem?_map,hx];rfl)⟩
theorem Sl.shapeB {w:World} {v:Value} {l:List Bool} (h:Sl 1 w v (l.map .bool)):∃ a n k,v=.slice a n k:=by obtain⟨a,n,k,h,_⟩:=h;exact⟨a,n,k,h⟩
end Go.G8
namespace Go.Proofs.YtkpmbocbbgocbaaGreat
open Go.RowKit Go.G8
theorem eqBoolS_c (w:World) (va vb:Value) (l:List Bool) (ha:Sl 1 w va (l.map .bool)) (hb:Sl 1 w vb (l.map .bool)) :
  Calls Tryz.prog 57 #[va,vb] w (RetV w (.bool true)):=by
 obtain⟨a,ca,rfl,hca,hm,ha'⟩:=ha.bools
 obtain⟨b,cb,rfl,_,_,hb'⟩:=hb.bools
 have HA:=Lib.hid ha';have HB:=Lib.hid hb'
 clear ha' hb' ha hb
 unfold maxLen at hm
 go_enter Tryz.func57,Tryz.ntmps57
 go_wp2
 go_loopw [5] (fun i wr=>∃ k:Nat,k≤l.length∧i=.int .i64 k∧Ext w wr) (fun i _=>l.length - (intOf i).toNat)
 case atStart=>exact⟨0,Nat.zero_le _,rfl,Ext.refl _⟩
 case round =>
  obtain⟨k,hk,rfl,he⟩:=hrel
  by_cases hlt:k<l.length
  ·
   obtain⟨x0,b1,o1,hx0,rfl,_,c10⟩:=HA.out k hlt
   obtain⟨y0,b2,o2,hy0,rfl,_,c20⟩:=HB.out k hlt
   obtain rfl:x0=y0:=by rw [hx0] at hy0;exact Option.some.inj hy0
   have d0:=he.cell c10;have e0:=he.cell c20
   clear c10 c20 hx0 hy0
   cases x0
   all_goals
    go_wp2
    go_quiet (fail)
    go_wp2
    go_roundw
    case rel=>exact⟨k+1,by omega,by go_num,he.drewN _⟩
    case measure=>simp [intOf];omega
  go_wp2
  go_ret
  exact⟨rfl,he⟩
def RdBoolS (w:World) (v:Value) (l:List Bool):Prop:=Sl 1 w v (l.map .bool)
def OwBoolS (B:Nat) (w:World) (v:Value) (l:List Bool) (F:List Nat):Prop:=Own B 4 1 w v (l.map .bool)∧F=feet [v]
section
variable {B B':Nat} {w w':World} {v:Value} {l:List Bool} {F:List Nat}
theorem RdBoolS.shape (h:RdBoolS w v l):∃ a n k,v=.slice a n k:=Sl.shapeB h
theorem RdBoolS.ext (h:RdBoolS w v l) (x:Ext w w'):RdBoolS w' v l:=Sl.ext h x
theorem OwBoolS.rd (h:OwBoolS B w v l F):RdBoolS w v l:=Own.sl h.1
theorem OwBoolS.keep (h:OwBoolS B w v l F) (x:Chg B w w'):OwBoolS B w' v l F:=⟨Own.keep h.1 x,h.2⟩
theorem OwBoolS.mono (h:OwBoolS B w v l F) (x:B'≤B):OwBoolS B' w v l F:=⟨Own.mono h.1 x,h.2⟩
theorem OwBoolS.low (h:OwBoolS B w v l F):∀ k,k ∈ F→B≤k∧k<w.heap.size:=by obtain⟨h,rfl⟩:=h;exact Own.foot h
theorem eq_BoolS {u:Value} (h:RdBoolS w v l) (k:RdBoolS w u l):Calls Tryz.prog 57 #[v,u] w (RetV w (.bool true)):=eqBoolS_c w v u l h k
end
end Go.Proofs.YtkpmbocbbgocbaaGreat
