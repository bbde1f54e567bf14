/- KW K2 Kh Kb Kc Kn HelpU. -/
import Derived.Test.YtkpmbocbbgocbaaGreatGa
import Derived.Test.YtkpmbocbbgocbaaGreatB0
import Derived.Test.YtkpmbocbbgocbaaGreatB1
import Derived.Test.YtkpmbocbbgocbaaGreatGu
import Derived.Test.YtkpmbocbbgocbaaGreatGl
import Derived.Test.YtkpmbocbbgocbaaGreatGm
import Derived.Test.YtkpmbocbbgocbaaGreatGb
set_option linter.unusedSimpArgs false
set_option linter.unusedVariables false
set_option maxHeartbeats 8000000
set_option maxRecDepth 100000
namespace Go.G8
open Go.RowKit
open Go.Proofs.YtkpmbocbbgocbaaGreat
theorem Ext.ofSet {w W V:World} {b:Nat} {row:Array Value} (e:V=W.setRow b row) (h:Ext w W) (hb:w.heap.size≤b):Ext w V:=e ▸ Ext.setRow h hb row
theorem Bk.ofSet {W V:World} {b c:Nat} {t:TypeId} {L:List Value} {row:Array Value} (e:V=W.setRow c row) (h:Bk W b t L) (hn:b ≠ c):Bk V b t L:=e ▸ Bk.rowFar h hn row
theorem Chg.ofSet {B:Nat} {w W V:World} {b:Nat} {row:Array Value} (e:V=W.setRow b row) (h:Chg B w W) (hb:b<B ∨ w.heap.size≤b):Chg B w V:=e ▸ Chg.setRow h hb row
theorem range_app {w:World} {g o n m:Nat} {p r:List Value} (h:w.rangeAt g o (p ++ r)) (hp:p.length=n) (e:o+n=m):w.rangeAt g o p∧w.rangeAt g m r:=by
 subst hp;subst e
 refine⟨fun j v hv=>h j v (by rw [List.getElem?_append_left (List.getElem?_eq_some_iff.1 hv).1];exact hv),fun j v hv=>?_⟩
 have:=h (p.length+j) v (by rw [List.getElem?_append_right oM,Nat.add_sub_cancel_left];exact hv)
 rwa [← Nat.add_assoc] at this
theorem range_one {w:World} {g o:Nat} {v:Value} (h:w.rangeAt g o [v]):w.cell? ⟨g,o,none⟩=some v:=h 0 v rfl
theorem Bk.ra {w:World} {g:Nat} {t:TypeId} {L:List Value} (h:Bk w g t L):w.rangeAt g 0 L:=Bk.range (A:=[]) (C:=[]) (Bk.cast h (by simp)) rfl
theorem exU {w a b:World} {fs:List Nat} (h:Ext w a) (k:Upd a b fs) (hf:∀ x,x ∈ fs→w.heap.size≤x):Ext w b :=
 ⟨k.os.trans h.os,k.tape.trans h.tape,k.output.trans h.output,Nat.le_trans h.size k.size,fun i hi=>(k.block i (Nat.lt_of_lt_of_le hi h.size) (fun hm=>by have:=hf i hm;omega)).trans (h.block i hi)⟩
theorem Upd.chg {B:Nat} {w w':World} {fs:List Nat} (h:Upd w w' fs) (hB:∀ x,x ∈ fs→x<B):Chg B w w':=⟨h.size,fun k hk hl=>h.block k hl (fun hm=>by have:=hB k hm;omega)⟩
theorem two_lt {a b B:Nat} (h1:a<B) (h2:b<B):∀ x,x ∈ [a,b]→x<B:=by
 intro x hx
 simp only [List.mem_cons,List.not_mem_nil,or_false] at hx
 rcases hx with rfl|rfl <;> assumption
theorem two_ge {a b B:Nat} (h1:B≤a) (h2:B≤b):∀ x,x ∈ [a,b]→B≤x:=by
 intro x hx
 simp only [List.mem_cons,List.not_mem_nil,or_false] at hx
 rcases hx with rfl|rfl <;> assumption
theorem updSet {w V:World} {b:Nat} {row:Array Value} {fs:List Nat} (e:V=w.setRow b row) (hb:b ∈ fs):Upd w V fs:=by
 rw [e]
 exact⟨rfl,rfl,rfl,by rw [size_setRow];exact Nat.le_refl _,fun k _ hn=>heap_setRow_ne w _ (fun e=>hn (e ▸ hb))⟩
theorem cell_upd {w V:World} {g o:Nat} {v:Value} {a b:Nat} (h:w.cell? ⟨g,o,none⟩=some v) (u:Upd w V [a,b]) (hn:g<a∧g<b):V.cell? ⟨g,o,none⟩=some v:=by
 have hl:=World.block_lt_of_cell? w _ h
 have hb:=u.block g hl (by simp only [List.mem_cons,List.not_mem_nil,or_false];omega)
 unfold World.cell? at h ⊢
 rw [hb];exact h
theorem rangeAt_upd {w V:World} {g o:Nat} {cs:List Value} {a b:Nat} (h:w.rangeAt g o cs) (u:Upd w V [a,b]) (hn:g<a∧g<b):V.rangeAt g o cs:=fun j v hv=>cell_upd (h j v hv) u hn
theorem wpList_store_cells {P:Program} {ops:Array Oper} {rest:List Oper} {op:Oper} {a:Act} {w:World} {Q:Exit→Act→World→Prop} (hgd:op.guard=none) (ty:TypeId) (x y:Operand) (ho:op.op=.store ty x y)
  (g o:Nat) (v:Value) (new:List Value) (hx:a.eval x=.pointer (some ⟨g,o,none⟩)) (hy:a.eval y=v) (hc:v.cells=new.toArray)
  (t:TypeId) (Z:List Value) (hb:Bk w g t Z) (N n:Nat) (hz:Z.length=N) (hn:new.length=n) (hl:o+n≤N) (hi:(P.info? ty).map (·.size)=some n) (h1:∀ v ∈ new,v.oneCell'=true) (fs:List Nat) (hg:g ∈ fs)
  (h:∀ wz Z',Upd w wz fs→wz.heap.size=w.heap.size→Bk wz g t Z'→Z'.length=N→Z'.take (o+n)=Z.take o ++ new→(∀ b L T,b ≠ g→Bk w b T L→Bk wz b T L)→wpList P ops Q rest (a.put op.dst undef) wz):wpList P ops Q (op :: rest) a w:=by
 subst hz;subst hn
 have hs:Z=Z.take o ++ ((Z.drop o).take new.length ++ Z.drop (o+new.length)):=by
  rw [← List.drop_drop,List.take_append_drop,List.take_append_drop]
 refine wpList_store_part hgd ty x y ho g o v new hx hy hc t (Z.take o) ((Z.drop o).take new.length) (Z.drop (o+new.length)) (hs ▸ hb) (by rw [List.length_take];omega) (by rw [List.length_take,List.length_drop];omega) hi h1 (fun wz hV hB=>?_)
 refine h wz _ ?_ (by rw [hV];exact size_setRow _ _ _) hB ?_ ?_ (fun b L T hne hk=>Bk.ofSet hV hk hne)
 ·
  rw [hV]
  exact⟨rfl,rfl,rfl,by rw [size_setRow];exact Nat.le_refl _,fun k _ hn=>heap_setRow_ne w _ (fun e=>hn (e ▸ hg))⟩
 ·
  simp only [List.length_append,List.length_take,List.length_drop];omega
 rw [← List.append_assoc,List.take_append_of_le_length (by simp only [List.length_append,List.length_take];omega),List.take_of_length_le (by simp only [List.length_append,List.length_take];omega)]
end Go.G8
namespace Go.Proofs.YtkpmbocbbgocbaaGreat
open Go.RowKit Go.G8
def RdInt64S (w:World) (v:Value) (l:List Int):Prop:=Ints 1 w v l
def OwInt64S (B:Nat) (w:World) (v:Value) (l:List Int) (F:List Nat):Prop:=OwnI B 2 1 w v l∧F=feet [v]
def sznInt64S (l:List Int):Nat:=l.length
section
variable {B B':Nat} {w w':World} {v:Value} {l:List Int} {F:List Nat}
theorem RdInt64S.shape (h:RdInt64S w v l):∃ a n k,v=.slice a n k:=Ints.shape h
theorem RdInt64S.ext (h:RdInt64S w v l) (x:Ext w w'):RdInt64S w' v l:=Ints.ext h x
theorem OwInt64S.rd (h:OwInt64S B w v l F):RdInt64S w v l:=h.1.ints
theorem OwInt64S.keep (h:OwInt64S B w v l F) (x:Chg B w w'):OwInt64S B w' v l F:=⟨h.1.keep x,h.2⟩
theorem OwInt64S.mono (h:OwInt64S B w v l F) (x:B'≤B):OwInt64S B' w v l F:=⟨h.1.mono x,h.2⟩
theorem OwInt64S.low (h:OwInt64S B w v l F):∀ k,k ∈ F→B≤k∧k<w.heap.size:=by obtain⟨h,rfl⟩:=h;exact h.foot
theorem OwInt64S.upd (h:OwInt64S B w v l F) {fs:List Nat} (x:Upd w w' fs) (hn:∀ k,k ∈ F→k ∈ fs→False):OwInt64S B w' v l F:=by
 obtain⟨h,rfl⟩:=h
 exact⟨OwnI.upd' h x hn,rfl⟩
theorem to_Int64S (h:RdInt64S w v l) (hs:sznInt64S l≤1048576):Calls Tryz.prog 48 #[v] w (Ret w fun v' w'=>∃ F,OwInt64S w.heap.size w' v' l F):=by
 refine (toInt64S_c w v _ l.length oM h hs).mono ?_
 rintro e w' ⟨u,rfl,hx,g⟩
 exact⟨u,rfl,hx,_,g,rfl⟩
theorem sz_Int64S (h:RdInt64S w v l) {left:Int} (h0:0≤left) (h1:left≤1048576):Calls Tryz.prog 38 #[v,.int .i64 left] w (Ret w fun v' _=>SzR left (sznInt64S l) v'):=szInt64S_c w v _ l.length oM left h h0 h1
theorem eq_Int64S {u:Value} (h:RdInt64S w v l) (k:RdInt64S w u l):Calls Tryz.prog 17 #[v,u] w (RetV w (.bool true)):=eqInt64S_c w v u _ h k
end
def RdMarkS (w:World) (v:Value) (l:List DMark):Prop:=Ints 3 w v (flMark l)
def OwMarkS (B:Nat) (w:World) (v:Value) (l:List DMark) (F:List Nat):Prop:=OwnI B 290 3 w v (flMark l)∧F=feet [v]
def sznMarkS (l:List DMark):Nat:=l.length
section
variable {B B':Nat} {w w':World} {v:Value} {l:List DMark} {F:List Nat}
theorem RdMarkS.shape (h:RdMarkS w v l):∃ a n k,v=.slice a n k:=Ints.shape h
theorem RdMarkS.ext (h:RdMarkS w v l) (x:Ext w w'):RdMarkS w' v l:=Ints.ext h x
theorem OwMarkS.rd (h:OwMarkS B w v l F):RdMarkS w v l:=h.1.ints
theorem OwMarkS.keep (h:OwMarkS B w v l F) (x:Chg B w w'):OwMarkS B w' v l F:=⟨h.1.keep x,h.2⟩
theorem OwMarkS.mono (h:OwMarkS B w v l F) (x:B'≤B):OwMarkS B' w v l F:=⟨h.1.mono x,h.2⟩
theorem OwMarkS.low (h:OwMarkS B w v l F):∀ k,k ∈ F→B≤k∧k<w.heap.size:=by obtain⟨h,rfl⟩:=h;exact h.foot
theorem OwMarkS.upd (h:OwMarkS B w v l F) {fs:List Nat} (x:Upd w w' fs) (hn:∀ k,k ∈ F→k ∈ fs→False):OwMarkS B w' v l F:=by
 obtain⟨h,rfl⟩:=h
 exact⟨OwnI.upd' h x hn,rfl⟩
theorem to_MarkS (h:RdMarkS w v l) (hs:sznMarkS l≤1048576):Calls Tryz.prog 122 #[v] w (Ret w fun v' w'=>∃ F,OwMarkS w.heap.size w' v' l F):=by
 refine (toMarkS_c w v _ l.length (length_flMark _) h hs).mono ?_
 rintro e w' ⟨u,rfl,hx,g⟩
 exact⟨u,rfl,hx,_,g,rfl⟩
theorem sz_MarkS (h:RdMarkS w v l) {left:Int} (h0:0≤left) (h1:left≤1048576):Calls Tryz.prog 99 #[v,.int .i64 left] w (Ret w fun v' _=>SzR left (sznMarkS l) v'):=szMarkS_c w v _ l.length (length_flMark _) left h h0 h1
theorem eq_MarkS {u:Value} (h:RdMarkS w v l) (k:RdMarkS w u l):Calls Tryz.prog 143 #[v,u] w (RetV w (.bool true)):=eqMarkS_c w v u _ h k
end
def RdAckS (w:World) (v:Value) (l:List DAck):Prop:=Ints 4 w v (flAck l)
def OwAckS (B:Nat) (w:World) (v:Value) (l:List DAck) (F:List Nat):Prop:=OwnI B 284 4 w v (flAck l)∧F=feet [v]
def sznAckS (l:List DAck):Nat:=l.length
section
variable {B B':Nat} {w w':World} {v:Value} {l:List DAck} {F:List Nat}
theorem RdAckS.shape (h:RdAckS w v l):∃ a n k,v=.slice a n k:=Ints.shape h
theorem RdAckS.ext (h:RdAckS w v l) (x:Ext w w'):RdAckS w' v l:=Ints.ext h x
theorem OwAckS.rd (h:OwAckS B w v l F):RdAckS w v l:=h.1.ints
theorem OwAckS.keep (h:OwAckS B w v l F) (x:Chg B w w'):OwAckS B w' v l F:=⟨h.1.keep x,h.2⟩
theorem OwAckS.mono (h:OwAckS B w v l F) (x:B'≤B):OwAckS B' w v l F:=⟨h.1.mono x,h.2⟩
theorem OwAckS.low (h:OwAckS B w v l F):∀ k,k ∈ F→B≤k∧k<w.heap.size:=by obtain⟨h,rfl⟩:=h;exact h.foot
theorem OwAckS.upd (h:OwAckS B w v l F) {fs:List Nat} (x:Upd w w' fs) (hn:∀ k,k ∈ F→k ∈ fs→False):OwAckS B w' v l F:=by
 obtain⟨h,rfl⟩:=h
 exact⟨OwnI.upd' h x hn,rfl⟩
theorem to_AckS (h:RdAckS w v l) (hs:sznAckS l≤1048576):Calls Tryz.prog 123 #[v] w (Ret w fun v' w'=>∃ F,OwAckS w.heap.size w' v' l F):=by
 refine (toAckS_c w v _ l.length (length_flAck _) h hs).mono ?_
 rintro e w' ⟨u,rfl,hx,g⟩
 exact⟨u,rfl,hx,_,g,rfl⟩
theorem sz_AckS (h:RdAckS w v l) {left:Int} (h0:0≤left) (h1:left≤1048576):Calls Tryz.prog 100 #[v,.int .i64 left] w (Ret w fun v' _=>SzR left (sznAckS l) v'):=szAckS_c w v _ l.length (length_flAck _) left h h0 h1
theorem eq_AckS {u:Value} (h:RdAckS w v l) (k:RdAckS w u l):Calls Tryz.prog 144 #[v,u] w (RetV w (.bool true)):=eqAckS_c w v u _ h k
end
def RdWantS (w:World) (v:Value) (l:List DWant):Prop:=Ints 7 w v (flWant l)
def OwWantS (B:Nat) (w:World) (v:Value) (l:List DWant) (F:List Nat):Prop:=OwnI B 161 7 w v (flWant l)∧F=feet [v]
def sznWantS (l:List DWant):Nat:=l.length
section
variable {B B':Nat} {w w':World} {v:Value} {l:List DWant} {F:List Nat}
theorem RdWantS.shape (h:RdWantS w v l):∃ a n k,v=.slice a n k:=Ints.shape h
theorem RdWantS.ext (h:RdWantS w v l) (x:Ext w w'):RdWantS w' v l:=Ints.ext h x
theorem OwWantS.rd (h:OwWantS B w v l F):RdWantS w v l:=h.1.ints
theorem OwWantS.keep (h:OwWantS B w v l F) (x:Chg B w w'):OwWantS B w' v l F:=⟨h.1.keep x,h.2⟩
theorem OwWantS.mono (h:OwWantS B w v l F) (x:B'≤B):OwWantS B' w v l F:=⟨h.1.mono x,h.2⟩
theorem OwWantS.low (h:OwWantS B w v l F):∀ k,k ∈ F→B≤k∧k<w.heap.size:=by obtain⟨h,rfl⟩:=h;exact h.foot
theorem OwWantS.upd (h:OwWantS B w v l F) {fs:List Nat} (x:Upd w w' fs) (hn:∀ k,k ∈ F→k ∈ fs→False):OwWantS B w' v l F:=by
 obtain⟨h,rfl⟩:=h
 exact⟨OwnI.upd' h x hn,rfl⟩
theorem to_WantS (h:RdWantS w v l) (hs:sznWantS l≤1048576):Calls Tryz.prog 29 #[v] w (Ret w fun v' w'=>∃ F,OwWantS w.heap.size w' v' l F):=by
 refine (toWantS_c w v _ l.length (length_flWant _) h hs).mono ?_
 rintro e w' ⟨u,rfl,hx,g⟩
 exact⟨u,rfl,hx,_,g,rfl⟩
theorem sz_WantS (h:RdWantS w v l) {left:Int} (h0:0≤left) (h1:left≤1048576):Calls Tryz.prog 28 #[v,.int .i64 left] w (Ret w fun v' _=>SzR left (sznWantS l) v'):=szWantS_c w v _ l.length (length_flWant _) left h h0 h1
theorem eq_WantS {u:Value} (h:RdWantS w v l) (k:RdWantS w u l):Calls Tryz.prog 30 #[v,u] w (RetV w (.bool true)):=eqWantS_c w v u _ h k
end
def RdGotS (w:World) (v:Value) (l:List DGot):Prop:=Ints 4 w v (flGot l)
def OwGotS (B:Nat) (w:World) (v:Value) (l:List DGot) (F:List Nat):Prop:=OwnI B 276 4 w v (flGot l)∧F=feet [v]
def sznGotS (l:List DGot):Nat:=l.length
section
variable {B B':Nat} {w w':World} {v:Value} {l:List DGot} {F:List Nat}
theorem RdGotS.shape (h:RdGotS w v l):∃ a n k,v=.slice a n k:=Ints.shape h
theorem RdGotS.ext (h:RdGotS w v l) (x:Ext w w'):RdGotS w' v l:=Ints.ext h x
theorem OwGotS.rd (h:OwGotS B w v l F):RdGotS w v l:=h.1.ints
theorem OwGotS.keep (h:OwGotS B w v l F) (x:Chg B w w'):OwGotS B w' v l F:=⟨h.1.keep x,h.2⟩
theorem OwGotS.mono (h:OwGotS B w v l F) (x:B'≤B):OwGotS B' w v l F:=⟨h.1.mono x,h.2⟩
theorem OwGotS.low (h:OwGotS B w v l F):∀ k,k ∈ F→B≤k∧k<w.heap.size:=by obtain⟨h,rfl⟩:=h;exact h.foot
theorem OwGotS.upd (h:OwGotS B w v l F) {fs:List Nat} (x:Upd w w' fs) (hn:∀ k,k ∈ F→k ∈ fs→False):OwGotS B w' v l F:=by
 obtain⟨h,rfl⟩:=h
 exact⟨OwnI.upd' h x hn,rfl⟩
theorem to_GotS (h:RdGotS w v l) (hs:sznGotS l≤1048576):Calls Tryz.prog 128 #[v] w (Ret w fun v' w'=>∃ F,OwGotS w.heap.size w' v' l F):=by
 refine (toGotS_c w v _ l.length (length_flGot _) h hs).mono ?_
 rintro e w' ⟨u,rfl,hx,g⟩
 exact⟨u,rfl,hx,_,g,rfl⟩
theorem sz_GotS (h:RdGotS w v l) {left:Int} (h0:0≤left) (h1:left≤1048576):Calls Tryz.prog 104 #[v,.int .i64 left] w (Ret w fun v' _=>SzR left (sznGotS l) v'):=szGotS_c w v _ l.length (length_flGot _) left h h0 h1
theorem eq_GotS {u:Value} (h:RdGotS w v l) (k:RdGotS w u l):Calls Tryz.prog 149 #[v,u] w (RetV w (.bool true)):=eqGotS_c w v u _ h k
end
def RdLinkS (w:World) (v:Value) (l:List DLink):Prop:=Ints 2 w v (flLink l)
def OwLinkS (B:Nat) (w:World) (v:Value) (l:List DLink) (F:List Nat):Prop:=OwnI B 258 2 w v (flLink l)∧F=feet [v]
def sznLinkS (l:List DLink):Nat:=l.length
section
variable {B B':Nat} {w w':World} {v:Value} {l:List DLink} {F:List Nat}
theorem RdLinkS.shape (h:RdLinkS w v l):∃ a n k,v=.slice a n k:=Ints.shape h
theorem RdLinkS.ext (h:RdLinkS w v l) (x:Ext w w'):RdLinkS w' v l:=Ints.ext h x
theorem OwLinkS.rd (h:OwLinkS B w v l F):RdLinkS w v l:=h.1.ints
theorem OwLinkS.keep (h:OwLinkS B w v l F) (x:Chg B w w'):OwLinkS B w' v l F:=⟨h.1.keep x,h.2⟩
theorem OwLinkS.mono (h:OwLinkS B w v l F) (x:B'≤B):OwLinkS B' w v l F:=⟨h.1.mono x,h.2⟩
theorem OwLinkS.low (h:OwLinkS B w v l F):∀ k,k ∈ F→B≤k∧k<w.heap.size:=by obtain⟨h,rfl⟩:=h;exact h.foot
theorem OwLinkS.upd (h:OwLinkS B w v l F) {fs:List Nat} (x:Upd w w' fs) (hn:∀ k,k ∈ F→k ∈ fs→False):OwLinkS B w' v l F:=by
 obtain⟨h,rfl⟩:=h
 exact⟨OwnI.upd' h x hn,rfl⟩
theorem to_LinkS (h:RdLinkS w v l) (hs:sznLinkS l≤1048576):Calls Tryz.prog 130 #[v] w (Ret w fun v' w'=>∃ F,OwLinkS w.heap.size w' v' l F):=by
 refine (toLinkS_c w v _ l.length (length_flLink _) h hs).mono ?_
 rintro e w' ⟨u,rfl,hx,g⟩
 exact⟨u,rfl,hx,_,g,rfl⟩
theorem sz_LinkS (h:RdLinkS w v l) {left:Int} (h0:0≤left) (h1:left≤1048576):Calls Tryz.prog 106 #[v,.int .i64 left] w (Ret w fun v' _=>SzR left (sznLinkS l) v'):=szLinkS_c w v _ l.length (length_flLink _) left h h0 h1
theorem eq_LinkS {u:Value} (h:RdLinkS w v l) (k:RdLinkS w u l):Calls Tryz.prog 151 #[v,u] w (RetV w (.bool true)):=eqLinkS_c w v u _ h k
end
def RdEntryS (w:World) (v:Value) (l:List DEntry):Prop:=Ints 9 w v (flEntry l)
def OwEntryS (B:Nat) (w:World) (v:Value) (l:List DEntry) (F:List Nat):Prop:=OwnI B 281 9 w v (flEntry l)∧F=feet [v]
def sznEntryS (l:List DEntry):Nat:=l.length
section
variable {B B':Nat} {w w':World} {v:Value} {l:List DEntry} {F:List Nat}
theorem RdEntryS.shape (h:RdEntryS w v l):∃ a n k,v=.slice a n k:=Ints.shape h
theorem RdEntryS.ext (h:RdEntryS w v l) (x:Ext w w'):RdEntryS w' v l:=Ints.ext h x
theorem OwEntryS.rd (h:OwEntryS B w v l F):RdEntryS w v l:=h.1.ints
theorem OwEntryS.keep (h:OwEntryS B w v l F) (x:Chg B w w'):OwEntryS B w' v l F:=⟨h.1.keep x,h.2⟩
theorem OwEntryS.mono (h:OwEntryS B w v l F) (x:B'≤B):OwEntryS B' w v l F:=⟨h.1.mono x,h.2⟩
theorem OwEntryS.low (h:OwEntryS B w v l F):∀ k,k ∈ F→B≤k∧k<w.heap.size:=by obtain⟨h,rfl⟩:=h;exact h.foot
theorem OwEntryS.upd (h:OwEntryS B w v l F) {fs:List Nat} (x:Upd w w' fs) (hn:∀ k,k ∈ F→k ∈ fs→False):OwEntryS B w' v l F:=by
 obtain⟨h,rfl⟩:=h
 exact⟨OwnI.upd' h x hn,rfl⟩
theorem to_EntryS (h:RdEntryS w v l) (hs:sznEntryS l≤1048576):Calls Tryz.prog 225 #[v] w (Ret w fun v' w'=>∃ F,OwEntryS w.heap.size w' v' l F):=by
 refine (toEntryS_c w v _ l.length (length_flEntry _) h hs).mono ?_
 rintro e w' ⟨u,rfl,hx,g⟩
 exact⟨u,rfl,hx,_,g,rfl⟩
theorem sz_EntryS (h:RdEntryS w v l) {left:Int} (h0:0≤left) (h1:left≤1048576):Calls Tryz.prog 200 #[v,.int .i64 left] w (Ret w fun v' _=>SzR left (sznEntryS l) v'):=szEntryS_c w v _ l.length (length_flEntry _) left h h0 h1
theorem eq_EntryS {u:Value} (h:RdEntryS w v l) (k:RdEntryS w u l):Calls Tryz.prog 246 #[v,u] w (RetV w (.bool true)):=eqEntryS_c w v u _ h k
end
def RdMsgS (w:World) (v:Value) (l:List DMsg):Prop:=RdMsgs w v (nestMsg l)
def OwMsgS (B:Nat) (w:World) (v:Value) (l:List DMsg) (F:List Nat):Prop:=OwMsgs B w v (nestMsg l) F
def sznMsgS (l:List DMsg):Nat:=rowsSize (nestMsg l)
section
variable {B B':Nat} {w w':World} {v:Value} {l:List DMsg} {F:List Nat}
theorem RdMsgS.shape (h:RdMsgS w v l):∃ a n k,v=.slice a n k:=RdMsgs.shape h
theorem RdMsgS.ext (h:RdMsgS w v l) (x:Ext w w'):RdMsgS w' v l:=RdMsgs.ext h x
theorem OwMsgS.rd (h:OwMsgS B w v l F):RdMsgS w v l:=OwMsgs.rd h
theorem OwMsgS.keep (h:OwMsgS B w v l F) (x:Chg B w w'):OwMsgS B w' v l F:=OwMsgs.keep h x
theorem OwMsgS.mono (h:OwMsgS B w v l F) (x:B'≤B):OwMsgS B' w v l F:=OwMsgs.mono h x
theorem OwMsgS.low (h:OwMsgS B w v l F):∀ k,k ∈ F→B≤k∧k<w.heap.size:=OwMsgs.low h
theorem OwMsgS.upd (h:OwMsgS B w v l F) {fs:List Nat} (x:Upd w w' fs) (hn:∀ k,k ∈ F→k ∈ fs→False):OwMsgS B w' v l F:=OwMsgs.upd h x hn
theorem to_MsgS (h:RdMsgS w v l) (hs:sznMsgS l≤1048576):Calls Tryz.prog 129 #[v] w (Ret w fun v' w'=>∃ F,OwMsgS w.heap.size w' v' l F):=to_Msgs h hs
theorem sz_MsgS (h:RdMsgS w v l) {left:Int} (h0:0≤left) (h1:left≤1048576):Calls Tryz.prog 105 #[v,.int .i64 left] w (Ret w fun v' _=>SzR left (sznMsgS l) v'):=sz_Msgs h h0 h1
theorem eq_MsgS {u:Value} (h:RdMsgS w v l) (k:RdMsgS w u l):Calls Tryz.prog 150 #[v,u] w (RetV w (.bool true)):=eq_Msgs h k
end
theorem RdDisk.cells {w:World} {v:Value} {d:DDisk} (h:RdDisk w v d):∃ L:List Value,v=.agg L.toArray∧L.length=2∧∀ x,x ∈ L→x.oneCell'=true:=by
 obtain⟨a0,n0,k0,a1,n1,k1,rfl⟩:=h.shape
 exact⟨_,rfl,rfl,by intro x hx;simp only [List.mem_cons,List.not_mem_nil,or_false] at hx;rcases hx with rfl|rfl <;> rfl⟩
def sznDisk (d:DDisk):Nat:=rowsSize (nestInt64S d.Kept)+rowsSize (nestWrite d.Wait)
theorem OwDisk.keepK {B:Nat} {w w':World} {v:Value} {d:DDisk} {F:List Nat} (h:OwDisk B w v d F) (x:Chg B w w'):OwDisk B w' v d F:=by
 obtain⟨t0,t1,s0,s1,e,h0,h1,hd,hF⟩:=h
 exact⟨t0,t1,s0,s1,e,h0.keep x,h1.keep x,hd,hF⟩
theorem OwDisk.monoK {B B':Nat} {w:World} {v:Value} {d:DDisk} {F:List Nat} (h:OwDisk B w v d F) (x:B'≤B):OwDisk B' w v d F:=by
 obtain⟨t0,t1,s0,s1,e,h0,h1,hd,hF⟩:=h
 exact⟨t0,t1,s0,s1,e,h0.mono x,h1.mono x,hd,hF⟩
theorem szK_Disk {w:World} {v:Value} {d:DDisk} (h:RdDisk w v d) {left:Int} (h0:0≤left) (h1:left≤1048576):Calls Tryz.prog 101 #[v,.int .i64 left] w (Ret w fun v' _=>SzR left (sznDisk d) v'):=sz_Disk h h0 h1
theorem toK_Disk {w:World} {v:Value} {d:DDisk} (h:RdDisk w v d) (hs:sznDisk d≤1048576):Calls Tryz.prog 124 #[v] w (Ret w fun v' w'=>∃ F,OwDisk w.heap.size w' v' d F):=to_Disk h (by unfold sznDisk at hs;omega) (by unfold sznDisk at hs;omega)
theorem RdStore.cells {w:World} {v:Value} {d:DStore} (h:RdStore w v d):∃ L:List Value,v=.agg L.toArray∧L.length=12∧∀ x,x ∈ L→x.oneCell'=true:=by
 obtain⟨a0,n0,k0,a1,n1,k1,a4,n4,k4,a5,n5,k5,rfl⟩:=h.shape
 exact⟨_,rfl,rfl,by intro x hx;simp only [List.mem_cons,List.not_mem_nil,or_false] at hx;rcases hx with rfl|rfl|rfl|rfl|rfl|rfl|rfl|rfl|rfl|rfl|rfl|rfl <;> rfl⟩
def sznStore (s:DStore):Nat:=rowsSize (nestInt64S s.Disk.Kept)+rowsSize (nestWrite s.Disk.Wait)+s.State.Pairs.length+s.State.Jobs.length
theorem szK_Store {w:World} {v:Value} {d:DStore} (h:RdStore w v d) {left:Int} (h0:0≤left) (h1:left≤1048576):Calls Tryz.prog 34 #[v,.int .i64 left] w (Ret w fun v' _=>SzR left (sznStore d) v'):=sz_Store h h0 h1
theorem toK_Store {w:World} {v:Value} {d:DStore} (h:RdStore w v d) (hs:sznStore d≤1048576):Calls Tryz.prog 44 #[v] w (Ret w fun v' w'=>∃ F,OwStore w.heap.size w' v' d F):=to_Store h (by unfold sznStore at hs;omega) (by unfold sznStore at hs;omega) (by unfold sznStore at hs;omega) (by unfold sznStore at hs;omega)
theorem RdSched.cells {w:World} {v:Value} {d:DSched} (h:RdSched w v d):∃ L:List Value,v=.agg L.toArray∧L.length=15∧∀ x,x ∈ L→x.oneCell'=true:=by
 obtain⟨a7,n7,k7,rfl⟩:=h.shape
 exact⟨_,rfl,rfl,by intro x hx;simp only [List.mem_cons,List.not_mem_nil,or_false] at hx;rcases hx with rfl|rfl|rfl|rfl|rfl|rfl|rfl|rfl|rfl|rfl|rfl|rfl|rfl|rfl|rfl <;> rfl⟩
def sznSched (s:DSched):Nat:=s.View.Jobs.Open.length
theorem szK_Sched {w:World} {v:Value} {d:DSched} (h:RdSched w v d) {left:Int} (h0:0≤left) (h1:left≤1048576):Calls Tryz.prog 35 #[v,.int .i64 left] w (Ret w fun v' _=>SzR left (sznSched d) v'):=sz_Sched h h0 h1
theorem toK_Sched {w:World} {v:Value} {d:DSched} (h:RdSched w v d) (hs:sznSched d≤1048576):Calls Tryz.prog 45 #[v] w (Ret w fun v' w'=>∃ F,OwSched w.heap.size w' v' d F):=to_Sched h hs
def RdTwo (w:World) (v:Value) (d:DTwo):Prop:=∃ p0:List Value,∃ p1:List Value,v=.agg (p0 ++ (p1 ++ [])).toArray∧p0.length=2∧p1.length=2∧RdDisk w (.agg p0.toArray) d.A∧RdDisk w (.agg p1.toArray) d.B
def OwTwo (B:Nat) (w:World) (v:Value) (d:DTwo) (F:List Nat):Prop:=∃ p0:List Value,∃ p1:List Value,∃ F0:List Nat,∃ F1:List Nat,v=.agg (p0 ++ (p1 ++ [])).toArray∧p0.length=2∧p1.length=2∧OwDisk B w (.agg p0.toArray) d.A F0∧OwDisk B w (.agg p1.toArray) d.B F1∧[F0,F1].Pairwise (fun a b=>∀ k,k ∈ a→k ∈ b→False)∧F=F0 ++ F1
def sznTwo (d:DTwo):Nat:=sznDisk d.A+sznDisk d.B
section
variable {B B':Nat} {w w':World} {v:Value} {d:DTwo} {F:List Nat}
theorem RdTwo.ext (h:RdTwo w v d) (x:Ext w w'):RdTwo w' v d:=by
 obtain⟨p0,p1,e,l0,l1,g0,g1⟩:=h
 exact⟨p0,p1,e,l0,l1,g0.ext x,g1.ext x⟩
theorem OwTwo.rd (h:OwTwo B w v d F):RdTwo w v d:=by
 obtain⟨p0,p1,F0,F1,e,l0,l1,g0,g1,hdj,hF⟩:=h
 exact⟨p0,p1,e,l0,l1,g0.rd,g1.rd⟩
theorem OwTwo.keep (h:OwTwo B w v d F) (x:Chg B w w'):OwTwo B w' v d F:=by
 obtain⟨p0,p1,F0,F1,e,l0,l1,g0,g1,hdj,hF⟩:=h
 exact⟨p0,p1,F0,F1,e,l0,l1,g0.keepK x,g1.keepK x,hdj,hF⟩
theorem OwTwo.mono (h:OwTwo B w v d F) (x:B'≤B):OwTwo B' w v d F:=by
 obtain⟨p0,p1,F0,F1,e,l0,l1,g0,g1,hdj,hF⟩:=h
 exact⟨p0,p1,F0,F1,e,l0,l1,g0.monoK x,g1.monoK x,hdj,hF⟩
theorem OwTwo.low (h:OwTwo B w v d F):∀ k,k ∈ F→B≤k∧k<w.heap.size:=by
 obtain⟨p0,p1,F0,F1,e,l0,l1,g0,g1,hdj,rfl⟩:=h
 intro k hk
 simp only [List.mem_append] at hk
 rcases hk with hk|hk
 ·
  exact g0.low k hk
 exact g1.low k hk
theorem RdTwo.cells (h:RdTwo w v d):∃ L:List Value,v=.agg L.toArray∧L.length=4∧∀ x,x ∈ L→x.oneCell'=true:=by
 obtain⟨p0,p1,rfl,l0,l1,g0,g1⟩:=h
 refine⟨_,rfl,by simp [l0,l1],?_⟩
 intro x hx
 simp only [List.mem_append,List.mem_cons,List.not_mem_nil,or_false] at hx
 rcases hx with hx|hx
 ·
  obtain⟨L,e,-,h1⟩:=g0.cells;rw [agg_inj e] at hx;exact h1 x hx
 obtain⟨L,e,-,h1⟩:=g1.cells;rw [agg_inj e] at hx;exact h1 x hx
theorem sz_Two (h:RdTwo w v d) {left:Int} (h0:0≤left) (h1:left≤1048576):Calls Tryz.prog 96 #[v,.int .i64 left] w (Ret w fun v' _=>SzR left (sznTwo d) v'):=by
 obtain⟨p0,p1,rfl,l0,l1,g0,g1⟩:=h
 unfold sznTwo
 obtain⟨L,hL⟩:∃ L:List Value,L=(p0 ++ (p1 ++ [])):=⟨_,rfl⟩
 rw [← hL]
 obtain⟨W0,hW0⟩:∃ W0,W0=w.alloc (.cells L.toArray 27):=⟨_,rfl⟩
 have E0:Ext w W0:=by rw [hW0];exact (Ext.refl _).alloc _
 have r:W0.rangeAt w.heap.size 0 L:=by rw [hW0];exact (Bk.new _ _ _).ra
 rw [hL] at r;clear hL
 obtain⟨R0,r⟩:=range_app (m:=2) r l0 rfl
 obtain⟨R1,r⟩:=range_app (m:=4) r l1 rfl
 clear r
 go_enter Tryz.func96,Tryz.ntmps96
 go_upto_region 1 with (fail)
 rw [← hW0]
 clear hW0
 have X0:Ext W0 W0:=Ext.refl _
 go_wp2_with (first|(refine wpList_load_mid rfl 25 _ rfl (w.heap.size) 0 (by rfl) p0 _ (rangeAt_ext R0 extT) Tryz.underlying25 rfl (by rw [l0];kernel_rfl) ?_))
 refine (szK_Disk (g0.ext (E0.trans X0)) (left:=left) oM oM).mono ?_
 rintro e w1 ⟨v1,rfl,x1,hv⟩
 have X1:=X0.trans x1
 rcases hv with ⟨rfl,hq1⟩|⟨rfl,hq1⟩
 ·
  go_wp2_with fail
  go_ret
  exact⟨_,rfl,E0.trans X1,.inl ⟨rfl,by omega⟩⟩
 obtain⟨z1,hz1⟩:∃ z,z=left - (sznDisk d.A:Nat):=⟨_,rfl⟩
 rw [← hz1]
 have hy1:=Int.le_of_eq hz1;have hw1:=Int.le_of_eq hz1.symm;clear hz1
 have hd1:decide (z1<0)=false:=by simp;omega
 go_wp2_with (first|(refine wpList_load_mid rfl 25 _ rfl (w.heap.size) 2 (by rfl) p1 _ (rangeAt_ext R1 extT) Tryz.underlying25 rfl (by rw [l1];kernel_rfl) ?_))
 refine (szK_Disk (g1.ext (E0.trans X1)) (left:=z1) oM oM).mono ?_
 rintro e w2 ⟨v2,rfl,x2,hv⟩
 have X2:=X1.trans x2
 rcases hv with ⟨rfl,hq2⟩|⟨rfl,hq2⟩
 ·
  go_wp2_with fail
  go_ret
  exact⟨_,rfl,E0.trans X2,.inl ⟨rfl,by omega⟩⟩
 obtain⟨z2,hz2⟩:∃ z,z=z1 - (sznDisk d.B:Nat):=⟨_,rfl⟩
 rw [← hz2]
 have hy2:=Int.le_of_eq hz2;have hw2:=Int.le_of_eq hz2.symm;clear hz2
 have hd2:decide (z2<0)=false:=by simp;omega
 go_wp2_with fail
 go_ret
 exact⟨_,rfl,E0.trans X2,.inr ⟨congrArg (Value.int .i64) oM,by omega⟩⟩
theorem eq_Two {u:Value} (h:RdTwo w v d) (k:RdTwo w u d):Calls Tryz.prog 140 #[v,u] w (RetV w (.bool true)):=by
 obtain⟨p0,p1,rfl,l0,l1,g0,g1⟩:=h
 obtain⟨r0,r1,rfl,m0,m1,f0,f1⟩:=k
 obtain⟨L,hL⟩:∃ L:List Value,L=(p0 ++ (p1 ++ [])):=⟨_,rfl⟩
 obtain⟨M,hM⟩:∃ L:List Value,L=(r0 ++ (r1 ++ [])):=⟨_,rfl⟩
 rw [← hL,← hM]
 obtain⟨W0,hW0⟩:∃ W0,W0=(w.alloc (.cells L.toArray 72)).alloc (.cells M.toArray 72):=⟨_,rfl⟩
 have E0:Ext w W0:=by rw [hW0];exact ((Ext.refl _).alloc _).alloc _
 have r:W0.rangeAt w.heap.size 0 L:=by rw [hW0];exact Bk.ra (Bk.alloc (Bk.new _ _ _) _)
 rw [hL] at r;clear hL
 obtain⟨R0,r⟩:=range_app (m:=2) r l0 rfl
 obtain⟨R1,r⟩:=range_app (m:=4) r l1 rfl
 clear r
 have r:W0.rangeAt (w.heap.size+1) 0 M:=by rw [hW0];exact Bk.ra (Blk.new2 _ _ _ _)
 rw [hM] at r;clear hM
 obtain⟨S0,r⟩:=range_app (m:=2) r m0 rfl
 obtain⟨S1,r⟩:=range_app (m:=4) r m1 rfl
 clear r
 go_enter Tryz.func140,Tryz.ntmps140
 go_upto_region 1 with (fail)
 rw [← hW0]
 clear hW0
 have X0:Ext W0 W0:=Ext.refl _
 go_wp2_with (first|(refine wpList_load_mid rfl 70 _ rfl (w.heap.size) 0 (by rfl) p0 _ (rangeAt_ext R0 extT) Tryz.underlying70 rfl (by rw [l0];kernel_rfl) ?_)|(refine wpList_load_mid rfl 70 _ rfl (w.heap.size+1) 0 (by rfl) r0 _ (rangeAt_ext S0 extT) Tryz.underlying70 rfl (by rw [m0];kernel_rfl) ?_))
 refine (eq_Disk (g0.ext (E0.trans X0)) (f0.ext (E0.trans X0))).mono ?_
 rintro e w1 ⟨rfl,x1⟩
 have X1:=X0.trans x1
 go_wp2_with (first|(refine wpList_load_mid rfl 70 _ rfl (w.heap.size) 2 (by rfl) p1 _ (rangeAt_ext R1 extT) Tryz.underlying70 rfl (by rw [l1];kernel_rfl) ?_)|(refine wpList_load_mid rfl 70 _ rfl (w.heap.size+1) 2 (by rfl) r1 _ (rangeAt_ext S1 extT) Tryz.underlying70 rfl (by rw [m1];kernel_rfl) ?_))
 refine (eq_Disk (g1.ext (E0.trans X1)) (f1.ext (E0.trans X1))).mono ?_
 rintro e w2 ⟨rfl,x2⟩
 have X2:=X1.trans x2
 go_wp2_with fail
 go_ret
 exact⟨rfl,E0.trans X2⟩
theorem to_Two (h:RdTwo w v d) (hs:sznTwo d≤1048576):Calls Tryz.prog 119 #[v] w (Ret w fun v' w'=>∃ F,OwTwo w.heap.size w' v' d F):=by
 obtain⟨p0,p1,rfl,l0,l1,g0,g1⟩:=h
 unfold sznTwo at hs
 have hzero:=(zero_of_info (P:=Tryz.prog) (t:=72) (v:=.agg #[.slice none 0 0,.slice none 0 0,.slice none 0 0,.slice none 0 0]) (n:=4) (by kernel_rfl)).1
 obtain⟨Z0,hZ⟩:∃ Z:List Value,Z=[Value.slice none 0 0,Value.slice none 0 0,Value.slice none 0 0,Value.slice none 0 0]:=⟨_,rfl⟩
 have n0:Z0.length=4:=by rw [hZ];rfl
 obtain⟨L,hL⟩:∃ L:List Value,L=(p0 ++ (p1 ++ [])):=⟨_,rfl⟩
 rw [← hL]
 obtain⟨W0,hW0⟩:∃ W0,W0=((w.alloc (.cells L.toArray 27)).alloc (.cells #[.slice none 0 0,.slice none 0 0,.slice none 0 0,.slice none 0 0] 72)).alloc (.cells #[.slice none 0 0,.slice none 0 0,.slice none 0 0,.slice none 0 0] 72):=⟨_,rfl⟩
 have X0:Ext w W0:=by rw [hW0];exact (((Ext.refl _).alloc _).alloc _).alloc _
 have r:W0.rangeAt w.heap.size 0 L:=by rw [hW0];exact Bk.ra (Bk.alloc (Bk.alloc (Bk.new _ _ _) _) _)
 rw [hL] at r;clear hL
 obtain⟨R0,r⟩:=range_app (m:=2) r l0 rfl
 obtain⟨R1,r⟩:=range_app (m:=4) r l1 rfl
 clear r
 have BR:Bk W0 (w.heap.size+1) 72 Z0:=by rw [hW0,hZ];exact Bk.alloc (Blk.new2 _ _ _ _) _
 have BO:Bk W0 (w.heap.size+1+1) 72 Z0:=by rw [hW0,hZ];exact Blk.new3 _ _ _ _ _
 have zW:W0.heap.size=w.heap.size+1+1+1:=by rw [hW0];simp
 clear hZ
 have A0:Z0.take 0=[]:=rfl
 go_enter Tryz.func119,Tryz.ntmps119
 go_upto_region 2 with (fail)
 rw [← hW0]
 clear hW0 hzero
 go_wp2_with (first|(refine wpList_load_mid rfl 25 _ rfl (w.heap.size) 0 (by rfl) p0 _ R0 Tryz.underlying25 rfl (by rw [l0];kernel_rfl) ?_))
 refine (toK_Disk (g0.ext X0) oM).mono ?_
 rintro e w1 ⟨_,rfl,x1,F0,o0⟩
 obtain⟨q0,rfl,lq0,cq0⟩:=o0.rd.cells
 have BR:=BR.ext x1;have BO:=BO.ext x1;have Y1:=X0.trans x1;have d0l:=o0.low;have zy1:=x1.size;have a1:=Ext.upd x1 [w.heap.size+1,w.heap.size+1+1]
 have R1:=rangeAt_ext R1 x1
 go_wp2_with (first|(refine wpList_store_cells rfl 70 _ _ rfl (w.heap.size+1+1) 0 (.agg q0.toArray) (q0) (by rfl) (by rfl) rfl 72 Z0 BO 4 2 n0 lq0 oM (by kernel_rfl) cq0 [w.heap.size+1,w.heap.size+1+1] (by simp) ?_;intro V1 Z1 b1 zv1 BO n1 A1 hB;have X1:=exU Y1 b1 (two_ge oM oM);have BR:=hB _ _ _ oM BR;rw [A0] at A1;clear hB A0;have R1:=rangeAt_upd R1 b1 oM)|(refine wpList_load_mid rfl 25 _ rfl (w.heap.size) 2 (by rfl) p1 _ R1 Tryz.underlying25 rfl (by rw [l1];kernel_rfl) ?_))
 refine (toK_Disk (g1.ext X1) oM).mono ?_
 rintro e w2 ⟨_,rfl,x2,F1,o1⟩
 obtain⟨q1,rfl,lq1,cq1⟩:=o1.rd.cells
 have BR:=BR.ext x2;have BO:=BO.ext x2;have Y2:=X1.trans x2;have d1l:=o1.low;have zy2:=x2.size;have a2:=Ext.upd x2 [w.heap.size+1,w.heap.size+1+1]
 go_upto_region 4 with (first|(refine wpList_store_cells rfl 70 _ _ rfl (w.heap.size+1+1) 2 (.agg q1.toArray) (q1) (by rfl) (by rfl) rfl 72 Z1 BO 4 2 n1 lq1 oM (by kernel_rfl) cq1 [w.heap.size+1,w.heap.size+1+1] (by simp) ?_;intro V2 Z2 b2 zv2 BO n2 A2 hB;have X2:=exU Y2 b2 (two_ge oM oM);have BR:=hB _ _ _ oM BR;rw [A1] at A2;clear hB A1))
 have eZ:Z2=(q0 ++ (q1 ++ [])):=by
  rw [List.take_of_length_le oM] at A2
  rw [A2]
  simp only [List.append_assoc,List.nil_append,List.append_nil]
 have hone:∀ x,x ∈ Z2→x.oneCell'=true:=by
  rw [eZ]
  intro x hx
  simp only [List.mem_append,List.mem_cons,List.not_mem_nil,or_false] at hx
  rcases hx with hx|hx
  ·
   exact cq0 x hx
  exact cq1 x hx
 have eZ:=Lib.hid eZ
 clear A2
 go_wp2_with (first|(refine wpList_load_mid rfl 72 _ rfl (w.heap.size+1+1) 0 (by rfl) Z2 _ BO.ra Tryz.underlying72 rfl (by rw [n2];kernel_rfl) ?_)|(refine wpList_store_part rfl 72 _ _ rfl (w.heap.size+1) 0 (.agg Z2.toArray) Z2 (by rfl) (by rfl) rfl 72 [] Z0 [] (Bk.cast BR (by simp)) rfl (by rw [n0,n2]) (by rw [n2];kernel_rfl) hone ?_;intro VZ hV BZ))
 have XZ:Ext w VZ:=Ext.ofSet hV X2 oM
 have BZ:=Bk.cast (C:=Z2) BZ (by simp)
 have zvz:VZ.heap.size=V2.heap.size:=(congrArg (fun W=>W.heap.size) hV).trans (size_setRow _ _ _)
 have u2:Upd V2 VZ [w.heap.size+1,w.heap.size+1+1]:=updSet hV (by simp)
 have s1:=b2.trans u2;have o1:=o1.keepK (Upd.chg s1 (two_lt oM oM));have u1:=a2.trans s1
 have s0:=b1.trans u1;have o0:=o0.keepK (Upd.chg s0 (two_lt oM oM))
 refine bodyPost_ret (v:=.agg Z2.toArray) (by first|exact results_cell_row rfl _ _ (w.heap.size+1) _ _ _ _ (by rfl) BZ Tryz.underlying72 rfl (by rw [List.size_toArray,n2];kernel_rfl)) rfl ?_
 refine⟨_,rfl,XZ,_,q0,q1,F0,F1,by rw [eZ.out],lq0,lq1,o0.monoK oM,o1.monoK oM,?_,rfl⟩
 repeat' (first|exact List.Pairwise.nil|(refine List.Pairwise.cons ?_ ?_))
 ·
  intro b hb k hk hk2
  have hA:=d0l k hk
  simp only [List.mem_cons,List.not_mem_nil,or_false] at hb
  rcases hb with rfl
  have hB:=d1l k hk2;omega
 intro b hb;cases hb
end
def RdHead (w:World) (v:Value) (d:DHead):Prop:=∃ t3:Value,v=.agg ([Value.int .i64 d.Num] ++ ([Value.int .i64 d.Base] ++ ([Value.int .i64 d.Time] ++ ([t3] ++ [])))).toArray∧RdMarkS w t3 d.Seen
def OwHead (B:Nat) (w:World) (v:Value) (d:DHead) (F:List Nat):Prop:=∃ t3:Value,∃ F3:List Nat,v=.agg ([Value.int .i64 d.Num] ++ ([Value.int .i64 d.Base] ++ ([Value.int .i64 d.Time] ++ ([t3] ++ [])))).toArray∧OwMarkS B w t3 d.Seen F3∧[F3].Pairwise (fun a b=>∀ k,k ∈ a→k ∈ b→False)∧F=F3
def sznHead (d:DHead):Nat:=sznMarkS d.Seen
section
variable {B B':Nat} {w w':World} {v:Value} {d:DHead} {F:List Nat}
theorem RdHead.ext (h:RdHead w v d) (x:Ext w w'):RdHead w' v d:=by
 obtain⟨t3,e,g3⟩:=h
 exact⟨t3,e,g3.ext x⟩
theorem OwHead.rd (h:OwHead B w v d F):RdHead w v d:=by
 obtain⟨t3,F3,e,g3,hdj,hF⟩:=h
 exact⟨t3,e,g3.rd⟩
theorem OwHead.keep (h:OwHead B w v d F) (x:Chg B w w'):OwHead B w' v d F:=by
 obtain⟨t3,F3,e,g3,hdj,hF⟩:=h
 exact⟨t3,F3,e,g3.keep x,hdj,hF⟩
theorem OwHead.mono (h:OwHead B w v d F) (x:B'≤B):OwHead B' w v d F:=by
 obtain⟨t3,F3,e,g3,hdj,hF⟩:=h
 exact⟨t3,F3,e,g3.mono x,hdj,hF⟩
theorem OwHead.low (h:OwHead B w v d F):∀ k,k ∈ F→B≤k∧k<w.heap.size:=by
 obtain⟨t3,F3,e,g3,hdj,rfl⟩:=h
 intro k hk
 exact g3.low k hk
theorem RdHead.cells (h:RdHead w v d):∃ L:List Value,v=.agg L.toArray∧L.length=4∧∀ x,x ∈ L→x.oneCell'=true:=by
 obtain⟨t3,rfl,g3⟩:=h
 refine⟨_,rfl,by simp [],?_⟩
 intro x hx
 simp only [List.mem_append,List.mem_cons,List.not_mem_nil,or_false] at hx
 rcases hx with rfl|rfl|rfl|rfl
 ·
  rfl
 ·
  rfl
 ·
  rfl
 obtain⟨a,n,k,rfl⟩:=g3.shape;rfl
theorem sz_Head (h:RdHead w v d) {left:Int} (h0:0≤left) (h1:left≤1048576):Calls Tryz.prog 97 #[v,.int .i64 left] w (Ret w fun v' _=>SzR left (sznHead d) v'):=by
 obtain⟨t3,rfl,g3⟩:=h
 unfold sznHead
 obtain⟨L,hL⟩:∃ L:List Value,L=([Value.int .i64 d.Num] ++ ([Value.int .i64 d.Base] ++ ([Value.int .i64 d.Time] ++ ([t3] ++ [])))):=⟨_,rfl⟩
 rw [← hL]
 obtain⟨W0,hW0⟩:∃ W0,W0=w.alloc (.cells L.toArray 30):=⟨_,rfl⟩
 have E0:Ext w W0:=by rw [hW0];exact (Ext.refl _).alloc _
 have r:W0.rangeAt w.heap.size 0 L:=by rw [hW0];exact (Bk.new _ _ _).ra
 rw [hL] at r;clear hL
 obtain⟨R0,r⟩:=range_app (m:=1) r rfl rfl
 have R0:=range_one R0
 obtain⟨R1,r⟩:=range_app (m:=2) r rfl rfl
 have R1:=range_one R1
 obtain⟨R2,r⟩:=range_app (m:=3) r rfl rfl
 have R2:=range_one R2
 obtain⟨R3,r⟩:=range_app (m:=4) r rfl rfl
 have R3:=range_one R3
 clear r
 go_enter Tryz.func97,Tryz.ntmps97
 go_upto_region 1 with (fail)
 rw [← hW0]
 clear hW0
 have X0:Ext W0 W0:=Ext.refl _
 have cq3:=X0.cell R3
 go_wp2_with fail
 clear cq3
 refine (sz_MarkS (g3.ext (E0.trans X0)) (left:=left) oM oM).mono ?_
 rintro e w1 ⟨v1,rfl,x1,hv⟩
 have X1:=X0.trans x1
 rcases hv with ⟨rfl,hq1⟩|⟨rfl,hq1⟩
 ·
  go_wp2_with fail
  go_ret
  exact⟨_,rfl,E0.trans X1,.inl ⟨rfl,by omega⟩⟩
 obtain⟨z1,hz1⟩:∃ z,z=left - (sznMarkS d.Seen:Nat):=⟨_,rfl⟩
 rw [← hz1]
 have hy1:=Int.le_of_eq hz1;have hw1:=Int.le_of_eq hz1.symm;clear hz1
 have hd1:decide (z1<0)=false:=by simp;omega
 go_wp2_with fail
 go_ret
 exact⟨_,rfl,E0.trans X1,.inr ⟨congrArg (Value.int .i64) oM,by omega⟩⟩
theorem eq_Head {u:Value} (h:RdHead w v d) (k:RdHead w u d):Calls Tryz.prog 141 #[v,u] w (RetV w (.bool true)):=by
 obtain⟨t3,rfl,g3⟩:=h
 obtain⟨s3,rfl,f3⟩:=k
 obtain⟨L,hL⟩:∃ L:List Value,L=([Value.int .i64 d.Num] ++ ([Value.int .i64 d.Base] ++ ([Value.int .i64 d.Time] ++ ([t3] ++ [])))):=⟨_,rfl⟩
 obtain⟨M,hM⟩:∃ L:List Value,L=([Value.int .i64 d.Num] ++ ([Value.int .i64 d.Base] ++ ([Value.int .i64 d.Time] ++ ([s3] ++ [])))):=⟨_,rfl⟩
 rw [← hL,← hM]
 obtain⟨W0,hW0⟩:∃ W0,W0=(w.alloc (.cells L.toArray 75)).alloc (.cells M.toArray 75):=⟨_,rfl⟩
 have E0:Ext w W0:=by rw [hW0];exact ((Ext.refl _).alloc _).alloc _
 have r:W0.rangeAt w.heap.size 0 L:=by rw [hW0];exact Bk.ra (Bk.alloc (Bk.new _ _ _) _)
 rw [hL] at r;clear hL
 obtain⟨R0,r⟩:=range_app (m:=1) r rfl rfl
 have R0:=range_one R0
 obtain⟨R1,r⟩:=range_app (m:=2) r rfl rfl
 have R1:=range_one R1
 obtain⟨R2,r⟩:=range_app (m:=3) r rfl rfl
 have R2:=range_one R2
 obtain⟨R3,r⟩:=range_app (m:=4) r rfl rfl
 have R3:=range_one R3
 clear r
 have r:W0.rangeAt (w.heap.size+1) 0 M:=by rw [hW0];exact Bk.ra (Blk.new2 _ _ _ _)
 rw [hM] at r;clear hM
 obtain⟨S0,r⟩:=range_app (m:=1) r rfl rfl
 have S0:=range_one S0
 obtain⟨S1,r⟩:=range_app (m:=2) r rfl rfl
 have S1:=range_one S1
 obtain⟨S2,r⟩:=range_app (m:=3) r rfl rfl
 have S2:=range_one S2
 obtain⟨S3,r⟩:=range_app (m:=4) r rfl rfl
 have S3:=range_one S3
 clear r
 go_enter Tryz.func141,Tryz.ntmps141
 go_upto_region 1 with (fail)
 rw [← hW0]
 clear hW0
 have X0:Ext W0 W0:=Ext.refl _
 have ca0:=X0.cell R0;have cb0:=X0.cell S0
 have ca1:=X0.cell R1;have cb1:=X0.cell S1
 have ca2:=X0.cell R2;have cb2:=X0.cell S2
 have ca3:=X0.cell R3;have cb3:=X0.cell S3
 go_wp2_with fail
 refine (eq_MarkS (g3.ext (E0.trans X0)) (f3.ext (E0.trans X0))).mono ?_
 rintro e w1 ⟨rfl,x1⟩
 have X1:=X0.trans x1
 clear ca0 cb0 ca1 cb1 ca2 cb2 ca3 cb3
 go_wp2_with fail
 go_ret
 exact⟨rfl,E0.trans X1⟩
theorem to_Head (h:RdHead w v d) (hs:sznHead d≤1048576):Calls Tryz.prog 120 #[v] w (Ret w fun v' w'=>∃ F,OwHead w.heap.size w' v' d F):=by
 obtain⟨t3,rfl,g3⟩:=h
 unfold sznHead at hs
 have hzero:=(zero_of_info (P:=Tryz.prog) (t:=75) (v:=.agg #[.int .i64 0,.int .i64 0,.int .i64 0,.slice none 0 0]) (n:=4) (by kernel_rfl)).1
 obtain⟨Z0,hZ⟩:∃ Z:List Value,Z=[Value.int .i64 0,Value.int .i64 0,Value.int .i64 0,Value.slice none 0 0]:=⟨_,rfl⟩
 have n0:Z0.length=4:=by rw [hZ];rfl
 obtain⟨L,hL⟩:∃ L:List Value,L=([Value.int .i64 d.Num] ++ ([Value.int .i64 d.Base] ++ ([Value.int .i64 d.Time] ++ ([t3] ++ [])))):=⟨_,rfl⟩
 rw [← hL]
 obtain⟨W0,hW0⟩:∃ W0,W0=((w.alloc (.cells L.toArray 30)).alloc (.cells #[.int .i64 0,.int .i64 0,.int .i64 0,.slice none 0 0] 75)).alloc (.cells #[.int .i64 0,.int .i64 0,.int .i64 0,.slice none 0 0] 75):=⟨_,rfl⟩
 have X0:Ext w W0:=by rw [hW0];exact (((Ext.refl _).alloc _).alloc _).alloc _
 have r:W0.rangeAt w.heap.size 0 L:=by rw [hW0];exact Bk.ra (Bk.alloc (Bk.alloc (Bk.new _ _ _) _) _)
 rw [hL] at r;clear hL
 obtain⟨R0,r⟩:=range_app (m:=1) r rfl rfl
 have R0:=range_one R0
 obtain⟨R1,r⟩:=range_app (m:=2) r rfl rfl
 have R1:=range_one R1
 obtain⟨R2,r⟩:=range_app (m:=3) r rfl rfl
 have R2:=range_one R2
 obtain⟨R3,r⟩:=range_app (m:=4) r rfl rfl
 have R3:=range_one R3
 clear r
 have BR:Bk W0 (w.heap.size+1) 75 Z0:=by rw [hW0,hZ];exact Bk.alloc (Blk.new2 _ _ _ _) _
 have BO:Bk W0 (w.heap.size+1+1) 75 Z0:=by rw [hW0,hZ];exact Blk.new3 _ _ _ _ _
 have zW:W0.heap.size=w.heap.size+1+1+1:=by rw [hW0];simp
 clear hZ
 have A0:Z0.take 0=[]:=rfl
 go_enter Tryz.func120,Tryz.ntmps120
 go_upto_region 2 with (fail)
 rw [← hW0]
 clear hW0 hzero
 go_wp2_with (first|(refine wpList_store_cells rfl 2 _ _ rfl (w.heap.size+1+1) 0 (Value.int .i64 d.Num) ([Value.int .i64 d.Num]) (by rfl) (by rfl) rfl 75 Z0 BO 4 1 n0 rfl oM (by kernel_rfl) (by intro x hx;simp only [List.mem_cons,List.not_mem_nil,or_false] at hx;subst hx;rfl) [w.heap.size+1,w.heap.size+1+1] (by simp) ?_;intro V1 Z1 b1 zv1 BO n1 A1 hB;have X1:=exU X0 b1 (two_ge oM oM);have BR:=hB _ _ _ oM BR;rw [A0] at A1;clear hB A0;have R1:=cell_upd R1 b1 oM;have R2:=cell_upd R2 b1 oM;have R3:=cell_upd R3 b1 oM)|(refine wpList_store_cells rfl 2 _ _ rfl (w.heap.size+1+1) 1 (Value.int .i64 d.Base) ([Value.int .i64 d.Base]) (by rfl) (by rfl) rfl 75 Z1 BO 4 1 n1 rfl oM (by kernel_rfl) (by intro x hx;simp only [List.mem_cons,List.not_mem_nil,or_false] at hx;subst hx;rfl) [w.heap.size+1,w.heap.size+1+1] (by simp) ?_;intro V2 Z2 b2 zv2 BO n2 A2 hB;have X2:=exU X1 b2 (two_ge oM oM);have BR:=hB _ _ _ oM BR;rw [A1] at A2;clear hB A1;have R2:=cell_upd R2 b2 oM;have R3:=cell_upd R3 b2 oM)|(refine wpList_store_cells rfl 2 _ _ rfl (w.heap.size+1+1) 2 (Value.int .i64 d.Time) ([Value.int .i64 d.Time]) (by rfl) (by rfl) rfl 75 Z2 BO 4 1 n2 rfl oM (by kernel_rfl) (by intro x hx;simp only [List.mem_cons,List.not_mem_nil,or_false] at hx;subst hx;rfl) [w.heap.size+1,w.heap.size+1+1] (by simp) ?_;intro V3 Z3 b3 zv3 BO n3 A3 hB;have X3:=exU X2 b3 (two_ge oM oM);have BR:=hB _ _ _ oM BR;rw [A2] at A3;clear hB A2;have R3:=cell_upd R3 b3 oM))
 refine (to_MarkS (g3.ext X3) oM).mono ?_
 rintro e w4 ⟨_,rfl,x4,F3,o3⟩
 obtain⟨ua3,un3,uc3,rfl⟩:=o3.rd.shape
 have BR:=BR.ext x4;have BO:=BO.ext x4;have Y4:=X3.trans x4;have d3l:=o3.low;have zy4:=x4.size;have a4:=Ext.upd x4 [w.heap.size+1,w.heap.size+1+1]
 go_upto_region 6 with (first|(refine wpList_store_cells rfl 73 _ _ rfl (w.heap.size+1+1) 3 (Value.slice ua3 un3 uc3) ([(Value.slice ua3 un3 uc3)]) (by rfl) (by rfl) rfl 75 Z3 BO 4 1 n3 rfl oM (by kernel_rfl) (by intro x hx;simp only [List.mem_cons,List.not_mem_nil,or_false] at hx;subst hx;rfl) [w.heap.size+1,w.heap.size+1+1] (by simp) ?_;intro V4 Z4 b4 zv4 BO n4 A4 hB;have X4:=exU Y4 b4 (two_ge oM oM);have BR:=hB _ _ _ oM BR;rw [A3] at A4;clear hB A3))
 have eZ:Z4=([Value.int .i64 d.Num] ++ ([Value.int .i64 d.Base] ++ ([Value.int .i64 d.Time] ++ ([(Value.slice ua3 un3 uc3)] ++ [])))):=by
  rw [List.take_of_length_le oM] at A4
  rw [A4]
  simp only [List.append_assoc,List.nil_append,List.append_nil]
 have hone:∀ x,x ∈ Z4→x.oneCell'=true:=by
  rw [eZ]
  intro x hx
  simp only [List.mem_append,List.mem_cons,List.not_mem_nil,or_false] at hx
  rcases hx with rfl|rfl|rfl|rfl
  ·
   rfl
  ·
   rfl
  ·
   rfl
  rfl
 have eZ:=Lib.hid eZ
 clear A4
 go_wp2_with (first|(refine wpList_load_mid rfl 75 _ rfl (w.heap.size+1+1) 0 (by rfl) Z4 _ BO.ra Tryz.underlying75 rfl (by rw [n4];kernel_rfl) ?_)|(refine wpList_store_part rfl 75 _ _ rfl (w.heap.size+1) 0 (.agg Z4.toArray) Z4 (by rfl) (by rfl) rfl 75 [] Z0 [] (Bk.cast BR (by simp)) rfl (by rw [n0,n4]) (by rw [n4];kernel_rfl) hone ?_;intro VZ hV BZ))
 have XZ:Ext w VZ:=Ext.ofSet hV X4 oM
 have BZ:=Bk.cast (C:=Z4) BZ (by simp)
 have zvz:VZ.heap.size=V4.heap.size:=(congrArg (fun W=>W.heap.size) hV).trans (size_setRow _ _ _)
 have u4:Upd V4 VZ [w.heap.size+1,w.heap.size+1+1]:=updSet hV (by simp)
 have s3:=b4.trans u4;have o3:=o3.keep (Upd.chg s3 (two_lt oM oM));have u3:=a4.trans s3
 have u2:=b3.trans u3
 have u1:=b2.trans u2
 refine bodyPost_ret (v:=.agg Z4.toArray) (by first|exact results_cell_row rfl _ _ (w.heap.size+1) _ _ _ _ (by rfl) BZ Tryz.underlying75 rfl (by rw [List.size_toArray,n4];kernel_rfl)) rfl ?_
 refine⟨_,rfl,XZ,_,_,F3,by rw [eZ.out],o3.mono oM,?_,rfl⟩
 repeat' (first|exact List.Pairwise.nil|(refine List.Pairwise.cons ?_ ?_))
 intro b hb;cases hb
end
def RdBook (w:World) (v:Value) (d:DBook):Prop:=∃ t2:Value,v=.agg ([Value.int .i64 d.Base] ++ ([Value.int .i64 d.Time] ++ ([t2] ++ []))).toArray∧RdEntryS w t2 d.Entries
def OwBook (B:Nat) (w:World) (v:Value) (d:DBook) (F:List Nat):Prop:=∃ t2:Value,∃ F2:List Nat,v=.agg ([Value.int .i64 d.Base] ++ ([Value.int .i64 d.Time] ++ ([t2] ++ []))).toArray∧OwEntryS B w t2 d.Entries F2∧[F2].Pairwise (fun a b=>∀ k,k ∈ a→k ∈ b→False)∧F=F2
def sznBook (d:DBook):Nat:=sznEntryS d.Entries
section
variable {B B':Nat} {w w':World} {v:Value} {d:DBook} {F:List Nat}
theorem RdBook.ext (h:RdBook w v d) (x:Ext w w'):RdBook w' v d:=by
 obtain⟨t2,e,g2⟩:=h
 exact⟨t2,e,g2.ext x⟩
theorem OwBook.rd (h:OwBook B w v d F):RdBook w v d:=by
 obtain⟨t2,F2,e,g2,hdj,hF⟩:=h
 exact⟨t2,e,g2.rd⟩
theorem OwBook.keep (h:OwBook B w v d F) (x:Chg B w w'):OwBook B w' v d F:=by
 obtain⟨t2,F2,e,g2,hdj,hF⟩:=h
 exact⟨t2,F2,e,g2.keep x,hdj,hF⟩
theorem OwBook.mono (h:OwBook B w v d F) (x:B'≤B):OwBook B' w v d F:=by
 obtain⟨t2,F2,e,g2,hdj,hF⟩:=h
 exact⟨t2,F2,e,g2.mono x,hdj,hF⟩
theorem OwBook.low (h:OwBook B w v d F):∀ k,k ∈ F→B≤k∧k<w.heap.size:=by
 obtain⟨t2,F2,e,g2,hdj,rfl⟩:=h
 intro k hk
 exact g2.low k hk
theorem RdBook.cells (h:RdBook w v d):∃ L:List Value,v=.agg L.toArray∧L.length=3∧∀ x,x ∈ L→x.oneCell'=true:=by
 obtain⟨t2,rfl,g2⟩:=h
 refine⟨_,rfl,by simp [],?_⟩
 intro x hx
 simp only [List.mem_append,List.mem_cons,List.not_mem_nil,or_false] at hx
 rcases hx with rfl|rfl|rfl
 ·
  rfl
 ·
  rfl
 obtain⟨a,n,k,rfl⟩:=g2.shape;rfl
theorem sz_Book (h:RdBook w v d) {left:Int} (h0:0≤left) (h1:left≤1048576):Calls Tryz.prog 98 #[v,.int .i64 left] w (Ret w fun v' _=>SzR left (sznBook d) v'):=by
 obtain⟨t2,rfl,g2⟩:=h
 unfold sznBook
 obtain⟨L,hL⟩:∃ L:List Value,L=([Value.int .i64 d.Base] ++ ([Value.int .i64 d.Time] ++ ([t2] ++ []))):=⟨_,rfl⟩
 rw [← hL]
 obtain⟨W0,hW0⟩:∃ W0,W0=w.alloc (.cells L.toArray 33):=⟨_,rfl⟩
 have E0:Ext w W0:=by rw [hW0];exact (Ext.refl _).alloc _
 have r:W0.rangeAt w.heap.size 0 L:=by rw [hW0];exact (Bk.new _ _ _).ra
 rw [hL] at r;clear hL
 obtain⟨R0,r⟩:=range_app (m:=1) r rfl rfl
 have R0:=range_one R0
 obtain⟨R1,r⟩:=range_app (m:=2) r rfl rfl
 have R1:=range_one R1
 obtain⟨R2,r⟩:=range_app (m:=3) r rfl rfl
 have R2:=range_one R2
 clear r
 go_enter Tryz.func98,Tryz.ntmps98
 go_upto_region 1 with (fail)
 rw [← hW0]
 clear hW0
 have X0:Ext W0 W0:=Ext.refl _
 have cq2:=X0.cell R2
 go_wp2_with fail
 clear cq2
 refine (sz_EntryS (g2.ext (E0.trans X0)) (left:=left) oM oM).mono ?_
 rintro e w1 ⟨v1,rfl,x1,hv⟩
 have X1:=X0.trans x1
 rcases hv with ⟨rfl,hq1⟩|⟨rfl,hq1⟩
 ·
  go_wp2_with fail
  go_ret
  exact⟨_,rfl,E0.trans X1,.inl ⟨rfl,by omega⟩⟩
 obtain⟨z1,hz1⟩:∃ z,z=left - (sznEntryS d.Entries:Nat):=⟨_,rfl⟩
 rw [← hz1]
 have hy1:=Int.le_of_eq hz1;have hw1:=Int.le_of_eq hz1.symm;clear hz1
 have hd1:decide (z1<0)=false:=by simp;omega
 go_wp2_with fail
 go_ret
 exact⟨_,rfl,E0.trans X1,.inr ⟨congrArg (Value.int .i64) oM,by omega⟩⟩
theorem eq_Book {u:Value} (h:RdBook w v d) (k:RdBook w u d):Calls Tryz.prog 142 #[v,u] w (RetV w (.bool true)):=by
 obtain⟨t2,rfl,g2⟩:=h
 obtain⟨s2,rfl,f2⟩:=k
 obtain⟨L,hL⟩:∃ L:List Value,L=([Value.int .i64 d.Base] ++ ([Value.int .i64 d.Time] ++ ([t2] ++ []))):=⟨_,rfl⟩
 obtain⟨M,hM⟩:∃ L:List Value,L=([Value.int .i64 d.Base] ++ ([Value.int .i64 d.Time] ++ ([s2] ++ []))):=⟨_,rfl⟩
 rw [← hL,← hM]
 obtain⟨W0,hW0⟩:∃ W0,W0=(w.alloc (.cells L.toArray 78)).alloc (.cells M.toArray 78):=⟨_,rfl⟩
 have E0:Ext w W0:=by rw [hW0];exact ((Ext.refl _).alloc _).alloc _
 have r:W0.rangeAt w.heap.size 0 L:=by rw [hW0];exact Bk.ra (Bk.alloc (Bk.new _ _ _) _)
 rw [hL] at r;clear hL
 obtain⟨R0,r⟩:=range_app (m:=1) r rfl rfl
 have R0:=range_one R0
 obtain⟨R1,r⟩:=range_app (m:=2) r rfl rfl
 have R1:=range_one R1
 obtain⟨R2,r⟩:=range_app (m:=3) r rfl rfl
 have R2:=range_one R2
 clear r
 have r:W0.rangeAt (w.heap.size+1) 0 M:=by rw [hW0];exact Bk.ra (Blk.new2 _ _ _ _)
 rw [hM] at r;clear hM
 obtain⟨S0,r⟩:=range_app (m:=1) r rfl rfl
 have S0:=range_one S0
 obtain⟨S1,r⟩:=range_app (m:=2) r rfl rfl
 have S1:=range_one S1
 obtain⟨S2,r⟩:=range_app (m:=3) r rfl rfl
 have S2:=range_one S2
 clear r
 go_enter Tryz.func142,Tryz.ntmps142
 go_upto_region 1 with (fail)
 rw [← hW0]
 clear hW0
 have X0:Ext W0 W0:=Ext.refl _
 have ca0:=X0.cell R0;have cb0:=X0.cell S0
 have ca1:=X0.cell R1;have cb1:=X0.cell S1
 have ca2:=X0.cell R2;have cb2:=X0.cell S2
 go_wp2_with fail
 refine (eq_EntryS (g2.ext (E0.trans X0)) (f2.ext (E0.trans X0))).mono ?_
 rintro e w1 ⟨rfl,x1⟩
 have X1:=X0.trans x1
 clear ca0 cb0 ca1 cb1 ca2 cb2
 go_wp2_with fail
 go_ret
 exact⟨rfl,E0.trans X1⟩
theorem to_Book (h:RdBook w v d) (hs:sznBook d≤1048576):Calls Tryz.prog 121 #[v] w (Ret w fun v' w'=>∃ F,OwBook w.heap.size w' v' d F):=by
 obtain⟨t2,rfl,g2⟩:=h
 unfold sznBook at hs
 have hzero:=(zero_of_info (P:=Tryz.prog) (t:=78) (v:=.agg #[.int .i64 0,.int .i64 0,.slice none 0 0]) (n:=3) (by kernel_rfl)).1
 obtain⟨Z0,hZ⟩:∃ Z:List Value,Z=[Value.int .i64 0,Value.int .i64 0,Value.slice none 0 0]:=⟨_,rfl⟩
 have n0:Z0.length=3:=by rw [hZ];rfl
 obtain⟨L,hL⟩:∃ L:List Value,L=([Value.int .i64 d.Base] ++ ([Value.int .i64 d.Time] ++ ([t2] ++ []))):=⟨_,rfl⟩
 rw [← hL]
 obtain⟨W0,hW0⟩:∃ W0,W0=((w.alloc (.cells L.toArray 33)).alloc (.cells #[.int .i64 0,.int .i64 0,.slice none 0 0] 78)).alloc (.cells #[.int .i64 0,.int .i64 0,.slice none 0 0] 78):=⟨_,rfl⟩
 have X0:Ext w W0:=by rw [hW0];exact (((Ext.refl _).alloc _).alloc _).alloc _
 have r:W0.rangeAt w.heap.size 0 L:=by rw [hW0];exact Bk.ra (Bk.alloc (Bk.alloc (Bk.new _ _ _) _) _)
 rw [hL] at r;clear hL
 obtain⟨R0,r⟩:=range_app (m:=1) r rfl rfl
 have R0:=range_one R0
 obtain⟨R1,r⟩:=range_app (m:=2) r rfl rfl
 have R1:=range_one R1
 obtain⟨R2,r⟩:=range_app (m:=3) r rfl rfl
 have R2:=range_one R2
 clear r
 have BR:Bk W0 (w.heap.size+1) 78 Z0:=by rw [hW0,hZ];exact Bk.alloc (Blk.new2 _ _ _ _) _
 have BO:Bk W0 (w.heap.size+1+1) 78 Z0:=by rw [hW0,hZ];exact Blk.new3 _ _ _ _ _
 have zW:W0.heap.size=w.heap.size+1+1+1:=by rw [hW0];simp
 clear hZ
 have A0:Z0.take 0=[]:=rfl
 go_enter Tryz.func121,Tryz.ntmps121
 go_upto_region 2 with (fail)
 rw [← hW0]
 clear hW0 hzero
 go_wp2_with (first|(refine wpList_store_cells rfl 2 _ _ rfl (w.heap.size+1+1) 0 (Value.int .i64 d.Base) ([Value.int .i64 d.Base]) (by rfl) (by rfl) rfl 78 Z0 BO 3 1 n0 rfl oM (by kernel_rfl) (by intro x hx;simp only [List.mem_cons,List.not_mem_nil,or_false] at hx;subst hx;rfl) [w.heap.size+1,w.heap.size+1+1] (by simp) ?_;intro V1 Z1 b1 zv1 BO n1 A1 hB;have X1:=exU X0 b1 (two_ge oM oM);have BR:=hB _ _ _ oM BR;rw [A0] at A1;clear hB A0;have R1:=cell_upd R1 b1 oM;have R2:=cell_upd R2 b1 oM)|(refine wpList_store_cells rfl 2 _ _ rfl (w.heap.size+1+1) 1 (Value.int .i64 d.Time) ([Value.int .i64 d.Time]) (by rfl) (by rfl) rfl 78 Z1 BO 3 1 n1 rfl oM (by kernel_rfl) (by intro x hx;simp only [List.mem_cons,List.not_mem_nil,or_false] at hx;subst hx;rfl) [w.heap.size+1,w.heap.size+1+1] (by simp) ?_;intro V2 Z2 b2 zv2 BO n2 A2 hB;have X2:=exU X1 b2 (two_ge oM oM);have BR:=hB _ _ _ oM BR;rw [A1] at A2;clear hB A1;have R2:=cell_upd R2 b2 oM))
 refine (to_EntryS (g2.ext X2) oM).mono ?_
 rintro e w3 ⟨_,rfl,x3,F2,o2⟩
 obtain⟨ua2,un2,uc2,rfl⟩:=o2.rd.shape
 have BR:=BR.ext x3;have BO:=BO.ext x3;have Y3:=X2.trans x3;have d2l:=o2.low;have zy3:=x3.size;have a3:=Ext.upd x3 [w.heap.size+1,w.heap.size+1+1]
 go_upto_region 5 with (first|(refine wpList_store_cells rfl 76 _ _ rfl (w.heap.size+1+1) 2 (Value.slice ua2 un2 uc2) ([(Value.slice ua2 un2 uc2)]) (by rfl) (by rfl) rfl 78 Z2 BO 3 1 n2 rfl oM (by kernel_rfl) (by intro x hx;simp only [List.mem_cons,List.not_mem_nil,or_false] at hx;subst hx;rfl) [w.heap.size+1,w.heap.size+1+1] (by simp) ?_;intro V3 Z3 b3 zv3 BO n3 A3 hB;have X3:=exU Y3 b3 (two_ge oM oM);have BR:=hB _ _ _ oM BR;rw [A2] at A3;clear hB A2))
 have eZ:Z3=([Value.int .i64 d.Base] ++ ([Value.int .i64 d.Time] ++ ([(Value.slice ua2 un2 uc2)] ++ []))):=by
  rw [List.take_of_length_le oM] at A3
  rw [A3]
  simp only [List.append_assoc,List.nil_append,List.append_nil]
 have hone:∀ x,x ∈ Z3→x.oneCell'=true:=by
  rw [eZ]
  intro x hx
  simp only [List.mem_append,List.mem_cons,List.not_mem_nil,or_false] at hx
  rcases hx with rfl|rfl|rfl
  ·
   rfl
  ·
   rfl
  rfl
 have eZ:=Lib.hid eZ
 clear A3
 go_wp2_with (first|(refine wpList_load_mid rfl 78 _ rfl (w.heap.size+1+1) 0 (by rfl) Z3 _ BO.ra Tryz.underlying78 rfl (by rw [n3];kernel_rfl) ?_)|(refine wpList_store_part rfl 78 _ _ rfl (w.heap.size+1) 0 (.agg Z3.toArray) Z3 (by rfl) (by rfl) rfl 78 [] Z0 [] (Bk.cast BR (by simp)) rfl (by rw [n0,n3]) (by rw [n3];kernel_rfl) hone ?_;intro VZ hV BZ))
 have XZ:Ext w VZ:=Ext.ofSet hV X3 oM
 have BZ:=Bk.cast (C:=Z3) BZ (by simp)
 have zvz:VZ.heap.size=V3.heap.size:=(congrArg (fun W=>W.heap.size) hV).trans (size_setRow _ _ _)
 have u3:Upd V3 VZ [w.heap.size+1,w.heap.size+1+1]:=updSet hV (by simp)
 have s2:=b3.trans u3;have o2:=o2.keep (Upd.chg s2 (two_lt oM oM));have u2:=a3.trans s2
 have u1:=b2.trans u2
 refine bodyPost_ret (v:=.agg Z3.toArray) (by first|exact results_cell_row rfl _ _ (w.heap.size+1) _ _ _ _ (by rfl) BZ Tryz.underlying78 rfl (by rw [List.size_toArray,n3];kernel_rfl)) rfl ?_
 refine⟨_,rfl,XZ,_,_,F2,by rw [eZ.out],o2.mono oM,?_,rfl⟩
 repeat' (first|exact List.Pairwise.nil|(refine List.Pairwise.cons ?_ ?_))
 intro b hb;cases hb
end
def RdClient (w:World) (v:Value) (d:DClient):Prop:=∃ t1:Value,∃ t2:Value,v=.agg ([Value.int .i64 d.Id] ++ ([t1] ++ ([t2] ++ ([Value.int .i64 d.Last] ++ [])))).toArray∧RdWantS w t1 d.Todo∧RdGotS w t2 d.Gots
def OwClient (B:Nat) (w:World) (v:Value) (d:DClient) (F:List Nat):Prop:=∃ t1:Value,∃ t2:Value,∃ F1:List Nat,∃ F2:List Nat,v=.agg ([Value.int .i64 d.Id] ++ ([t1] ++ ([t2] ++ ([Value.int .i64 d.Last] ++ [])))).toArray∧OwWantS B w t1 d.Todo F1∧OwGotS B w t2 d.Gots F2∧[F1,F2].Pairwise (fun a b=>∀ k,k ∈ a→k ∈ b→False)∧F=F1 ++ F2
def sznClient (d:DClient):Nat:=sznWantS d.Todo+sznGotS d.Gots
section
variable {B B':Nat} {w w':World} {v:Value} {d:DClient} {F:List Nat}
theorem RdClient.ext (h:RdClient w v d) (x:Ext w w'):RdClient w' v d:=by
 obtain⟨t1,t2,e,g1,g2⟩:=h
 exact⟨t1,t2,e,g1.ext x,g2.ext x⟩
theorem OwClient.rd (h:OwClient B w v d F):RdClient w v d:=by
 obtain⟨t1,t2,F1,F2,e,g1,g2,hdj,hF⟩:=h
 exact⟨t1,t2,e,g1.rd,g2.rd⟩
theorem OwClient.keep (h:OwClient B w v d F) (x:Chg B w w'):OwClient B w' v d F:=by
 obtain⟨t1,t2,F1,F2,e,g1,g2,hdj,hF⟩:=h
 exact⟨t1,t2,F1,F2,e,g1.keep x,g2.keep x,hdj,hF⟩
theorem OwClient.mono (h:OwClient B w v d F) (x:B'≤B):OwClient B' w v d F:=by
 obtain⟨t1,t2,F1,F2,e,g1,g2,hdj,hF⟩:=h
 exact⟨t1,t2,F1,F2,e,g1.mono x,g2.mono x,hdj,hF⟩
theorem OwClient.low (h:OwClient B w v d F):∀ k,k ∈ F→B≤k∧k<w.heap.size:=by
 obtain⟨t1,t2,F1,F2,e,g1,g2,hdj,rfl⟩:=h
 intro k hk
 simp only [List.mem_append] at hk
 rcases hk with hk|hk
 ·
  exact g1.low k hk
 exact g2.low k hk
theorem RdClient.cells (h:RdClient w v d):∃ L:List Value,v=.agg L.toArray∧L.length=4∧∀ x,x ∈ L→x.oneCell'=true:=by
 obtain⟨t1,t2,rfl,g1,g2⟩:=h
 refine⟨_,rfl,by simp [],?_⟩
 intro x hx
 simp only [List.mem_append,List.mem_cons,List.not_mem_nil,or_false] at hx
 rcases hx with rfl|rfl|rfl|rfl
 ·
  rfl
 ·
  obtain⟨a,n,k,rfl⟩:=g1.shape;rfl
 ·
  obtain⟨a,n,k,rfl⟩:=g2.shape;rfl
 rfl
theorem sz_Client (h:RdClient w v d) {left:Int} (h0:0≤left) (h1:left≤1048576):Calls Tryz.prog 36 #[v,.int .i64 left] w (Ret w fun v' _=>SzR left (sznClient d) v'):=by
 obtain⟨t1,t2,rfl,g1,g2⟩:=h
 unfold sznClient
 obtain⟨L,hL⟩:∃ L:List Value,L=([Value.int .i64 d.Id] ++ ([t1] ++ ([t2] ++ ([Value.int .i64 d.Last] ++ [])))):=⟨_,rfl⟩
 rw [← hL]
 obtain⟨W0,hW0⟩:∃ W0,W0=w.alloc (.cells L.toArray 57):=⟨_,rfl⟩
 have E0:Ext w W0:=by rw [hW0];exact (Ext.refl _).alloc _
 have r:W0.rangeAt w.heap.size 0 L:=by rw [hW0];exact (Bk.new _ _ _).ra
 rw [hL] at r;clear hL
 obtain⟨R0,r⟩:=range_app (m:=1) r rfl rfl
 have R0:=range_one R0
 obtain⟨R1,r⟩:=range_app (m:=2) r rfl rfl
 have R1:=range_one R1
 obtain⟨R2,r⟩:=range_app (m:=3) r rfl rfl
 have R2:=range_one R2
 obtain⟨R3,r⟩:=range_app (m:=4) r rfl rfl
 have R3:=range_one R3
 clear r
 go_enter Tryz.func36,Tryz.ntmps36
 go_upto_region 1 with (fail)
 rw [← hW0]
 clear hW0
 have X0:Ext W0 W0:=Ext.refl _
 have cq1:=X0.cell R1
 go_wp2_with fail
 clear cq1
 refine (sz_WantS (g1.ext (E0.trans X0)) (left:=left) oM oM).mono ?_
 rintro e w1 ⟨v1,rfl,x1,hv⟩
 have X1:=X0.trans x1
 rcases hv with ⟨rfl,hq1⟩|⟨rfl,hq1⟩
 ·
  go_wp2_with fail
  go_ret
  exact⟨_,rfl,E0.trans X1,.inl ⟨rfl,by omega⟩⟩
 obtain⟨z1,hz1⟩:∃ z,z=left - (sznWantS d.Todo:Nat):=⟨_,rfl⟩
 rw [← hz1]
 have hy1:=Int.le_of_eq hz1;have hw1:=Int.le_of_eq hz1.symm;clear hz1
 have hd1:decide (z1<0)=false:=by simp;omega
 have cq2:=X1.cell R2
 go_wp2_with fail
 clear cq2
 refine (sz_GotS (g2.ext (E0.trans X1)) (left:=z1) oM oM).mono ?_
 rintro e w2 ⟨v2,rfl,x2,hv⟩
 have X2:=X1.trans x2
 rcases hv with ⟨rfl,hq2⟩|⟨rfl,hq2⟩
 ·
  go_wp2_with fail
  go_ret
  exact⟨_,rfl,E0.trans X2,.inl ⟨rfl,by omega⟩⟩
 obtain⟨z2,hz2⟩:∃ z,z=z1 - (sznGotS d.Gots:Nat):=⟨_,rfl⟩
 rw [← hz2]
 have hy2:=Int.le_of_eq hz2;have hw2:=Int.le_of_eq hz2.symm;clear hz2
 have hd2:decide (z2<0)=false:=by simp;omega
 go_wp2_with fail
 go_ret
 exact⟨_,rfl,E0.trans X2,.inr ⟨congrArg (Value.int .i64) oM,by omega⟩⟩
theorem eq_Client {u:Value} (h:RdClient w v d) (k:RdClient w u d):Calls Tryz.prog 55 #[v,u] w (RetV w (.bool true)):=by
 obtain⟨t1,t2,rfl,g1,g2⟩:=h
 obtain⟨s1,s2,rfl,f1,f2⟩:=k
 obtain⟨L,hL⟩:∃ L:List Value,L=([Value.int .i64 d.Id] ++ ([t1] ++ ([t2] ++ ([Value.int .i64 d.Last] ++ [])))):=⟨_,rfl⟩
 obtain⟨M,hM⟩:∃ L:List Value,L=([Value.int .i64 d.Id] ++ ([s1] ++ ([s2] ++ ([Value.int .i64 d.Last] ++ [])))):=⟨_,rfl⟩
 rw [← hL,← hM]
 obtain⟨W0,hW0⟩:∃ W0,W0=(w.alloc (.cells L.toArray 100)).alloc (.cells M.toArray 100):=⟨_,rfl⟩
 have E0:Ext w W0:=by rw [hW0];exact ((Ext.refl _).alloc _).alloc _
 have r:W0.rangeAt w.heap.size 0 L:=by rw [hW0];exact Bk.ra (Bk.alloc (Bk.new _ _ _) _)
 rw [hL] at r;clear hL
 obtain⟨R0,r⟩:=range_app (m:=1) r rfl rfl
 have R0:=range_one R0
 obtain⟨R1,r⟩:=range_app (m:=2) r rfl rfl
 have R1:=range_one R1
 obtain⟨R2,r⟩:=range_app (m:=3) r rfl rfl
 have R2:=range_one R2
 obtain⟨R3,r⟩:=range_app (m:=4) r rfl rfl
 have R3:=range_one R3
 clear r
 have r:W0.rangeAt (w.heap.size+1) 0 M:=by rw [hW0];exact Bk.ra (Blk.new2 _ _ _ _)
 rw [hM] at r;clear hM
 obtain⟨S0,r⟩:=range_app (m:=1) r rfl rfl
 have S0:=range_one S0
 obtain⟨S1,r⟩:=range_app (m:=2) r rfl rfl
 have S1:=range_one S1
 obtain⟨S2,r⟩:=range_app (m:=3) r rfl rfl
 have S2:=range_one S2
 obtain⟨S3,r⟩:=range_app (m:=4) r rfl rfl
 have S3:=range_one S3
 clear r
 go_enter Tryz.func55,Tryz.ntmps55
 go_upto_region 1 with (fail)
 rw [← hW0]
 clear hW0
 have X0:Ext W0 W0:=Ext.refl _
 have ca0:=X0.cell R0;have cb0:=X0.cell S0
 have ca1:=X0.cell R1;have cb1:=X0.cell S1
 go_wp2_with fail
 refine (eq_WantS (g1.ext (E0.trans X0)) (f1.ext (E0.trans X0))).mono ?_
 rintro e w1 ⟨rfl,x1⟩
 have X1:=X0.trans x1
 clear ca0 cb0 ca1 cb1
 have ca2:=X1.cell R2;have cb2:=X1.cell S2
 go_wp2_with fail
 refine (eq_GotS (g2.ext (E0.trans X1)) (f2.ext (E0.trans X1))).mono ?_
 rintro e w2 ⟨rfl,x2⟩
 have X2:=X1.trans x2
 clear ca2 cb2
 have ca3:=X2.cell R3;have cb3:=X2.cell S3
 go_wp2_with fail
 go_ret
 exact⟨rfl,E0.trans X2⟩
theorem to_Client (h:RdClient w v d) (hs:sznClient d≤1048576):Calls Tryz.prog 46 #[v] w (Ret w fun v' w'=>∃ F,OwClient w.heap.size w' v' d F):=by
 obtain⟨t1,t2,rfl,g1,g2⟩:=h
 unfold sznClient at hs
 have hzero:=(zero_of_info (P:=Tryz.prog) (t:=100) (v:=.agg #[.int .i64 0,.slice none 0 0,.slice none 0 0,.int .i64 0]) (n:=4) (by kernel_rfl)).1
 obtain⟨Z0,hZ⟩:∃ Z:List Value,Z=[Value.int .i64 0,Value.slice none 0 0,Value.slice none 0 0,Value.int .i64 0]:=⟨_,rfl⟩
 have n0:Z0.length=4:=by rw [hZ];rfl
 obtain⟨L,hL⟩:∃ L:List Value,L=([Value.int .i64 d.Id] ++ ([t1] ++ ([t2] ++ ([Value.int .i64 d.Last] ++ [])))):=⟨_,rfl⟩
 rw [← hL]
 obtain⟨W0,hW0⟩:∃ W0,W0=((w.alloc (.cells L.toArray 57)).alloc (.cells #[.int .i64 0,.slice none 0 0,.slice none 0 0,.int .i64 0] 100)).alloc (.cells #[.int .i64 0,.slice none 0 0,.slice none 0 0,.int .i64 0] 100):=⟨_,rfl⟩
 have X0:Ext w W0:=by rw [hW0];exact (((Ext.refl _).alloc _).alloc _).alloc _
 have r:W0.rangeAt w.heap.size 0 L:=by rw [hW0];exact Bk.ra (Bk.alloc (Bk.alloc (Bk.new _ _ _) _) _)
 rw [hL] at r;clear hL
 obtain⟨R0,r⟩:=range_app (m:=1) r rfl rfl
 have R0:=range_one R0
 obtain⟨R1,r⟩:=range_app (m:=2) r rfl rfl
 have R1:=range_one R1
 obtain⟨R2,r⟩:=range_app (m:=3) r rfl rfl
 have R2:=range_one R2
 obtain⟨R3,r⟩:=range_app (m:=4) r rfl rfl
 have R3:=range_one R3
 clear r
 have BR:Bk W0 (w.heap.size+1) 100 Z0:=by rw [hW0,hZ];exact Bk.alloc (Blk.new2 _ _ _ _) _
 have BO:Bk W0 (w.heap.size+1+1) 100 Z0:=by rw [hW0,hZ];exact Blk.new3 _ _ _ _ _
 have zW:W0.heap.size=w.heap.size+1+1+1:=by rw [hW0];simp
 clear hZ
 have A0:Z0.take 0=[]:=rfl
 go_enter Tryz.func46,Tryz.ntmps46
 go_upto_region 2 with (fail)
 rw [← hW0]
 clear hW0 hzero
 go_wp2_with (first|(refine wpList_store_cells rfl 2 _ _ rfl (w.heap.size+1+1) 0 (Value.int .i64 d.Id) ([Value.int .i64 d.Id]) (by rfl) (by rfl) rfl 100 Z0 BO 4 1 n0 rfl oM (by kernel_rfl) (by intro x hx;simp only [List.mem_cons,List.not_mem_nil,or_false] at hx;subst hx;rfl) [w.heap.size+1,w.heap.size+1+1] (by simp) ?_;intro V1 Z1 b1 zv1 BO n1 A1 hB;have X1:=exU X0 b1 (two_ge oM oM);have BR:=hB _ _ _ oM BR;rw [A0] at A1;clear hB A0;have R1:=cell_upd R1 b1 oM;have R2:=cell_upd R2 b1 oM;have R3:=cell_upd R3 b1 oM))
 refine (to_WantS (g1.ext X1) oM).mono ?_
 rintro e w2 ⟨_,rfl,x2,F1,o1⟩
 obtain⟨ua1,un1,uc1,rfl⟩:=o1.rd.shape
 have BR:=BR.ext x2;have BO:=BO.ext x2;have Y2:=X1.trans x2;have d1l:=o1.low;have zy2:=x2.size;have a2:=Ext.upd x2 [w.heap.size+1,w.heap.size+1+1]
 have R2:=x2.cell R2
 have R3:=x2.cell R3
 go_wp2_with (first|(refine wpList_store_cells rfl 97 _ _ rfl (w.heap.size+1+1) 1 (Value.slice ua1 un1 uc1) ([(Value.slice ua1 un1 uc1)]) (by rfl) (by rfl) rfl 100 Z1 BO 4 1 n1 rfl oM (by kernel_rfl) (by intro x hx;simp only [List.mem_cons,List.not_mem_nil,or_false] at hx;subst hx;rfl) [w.heap.size+1,w.heap.size+1+1] (by simp) ?_;intro V2 Z2 b2 zv2 BO n2 A2 hB;have X2:=exU Y2 b2 (two_ge oM oM);have BR:=hB _ _ _ oM BR;rw [A1] at A2;clear hB A1;have R2:=cell_upd R2 b2 oM;have R3:=cell_upd R3 b2 oM))
 refine (to_GotS (g2.ext X2) oM).mono ?_
 rintro e w3 ⟨_,rfl,x3,F2,o2⟩
 obtain⟨ua2,un2,uc2,rfl⟩:=o2.rd.shape
 have BR:=BR.ext x3;have BO:=BO.ext x3;have Y3:=X2.trans x3;have d2l:=o2.low;have zy3:=x3.size;have a3:=Ext.upd x3 [w.heap.size+1,w.heap.size+1+1]
 have R3:=x3.cell R3
 go_upto_region 6 with (first|(refine wpList_store_cells rfl 98 _ _ rfl (w.heap.size+1+1) 2 (Value.slice ua2 un2 uc2) ([(Value.slice ua2 un2 uc2)]) (by rfl) (by rfl) rfl 100 Z2 BO 4 1 n2 rfl oM (by kernel_rfl) (by intro x hx;simp only [List.mem_cons,List.not_mem_nil,or_false] at hx;subst hx;rfl) [w.heap.size+1,w.heap.size+1+1] (by simp) ?_;intro V3 Z3 b3 zv3 BO n3 A3 hB;have X3:=exU Y3 b3 (two_ge oM oM);have BR:=hB _ _ _ oM BR;rw [A2] at A3;clear hB A2;have R3:=cell_upd R3 b3 oM)|(refine wpList_store_cells rfl 2 _ _ rfl (w.heap.size+1+1) 3 (Value.int .i64 d.Last) ([Value.int .i64 d.Last]) (by rfl) (by rfl) rfl 100 Z3 BO 4 1 n3 rfl oM (by kernel_rfl) (by intro x hx;simp only [List.mem_cons,List.not_mem_nil,or_false] at hx;subst hx;rfl) [w.heap.size+1,w.heap.size+1+1] (by simp) ?_;intro V4 Z4 b4 zv4 BO n4 A4 hB;have X4:=exU X3 b4 (two_ge oM oM);have BR:=hB _ _ _ oM BR;rw [A3] at A4;clear hB A3))
 have eZ:Z4=([Value.int .i64 d.Id] ++ ([(Value.slice ua1 un1 uc1)] ++ ([(Value.slice ua2 un2 uc2)] ++ ([Value.int .i64 d.Last] ++ [])))):=by
  rw [List.take_of_length_le oM] at A4
  rw [A4]
  simp only [List.append_assoc,List.nil_append,List.append_nil]
 have hone:∀ x,x ∈ Z4→x.oneCell'=true:=by
  rw [eZ]
  intro x hx
  simp only [List.mem_append,List.mem_cons,List.not_mem_nil,or_false] at hx
  rcases hx with rfl|rfl|rfl|rfl
  ·
   rfl
  ·
   rfl
  ·
   rfl
  rfl
 have eZ:=Lib.hid eZ
 clear A4
 go_wp2_with (first|(refine wpList_load_mid rfl 100 _ rfl (w.heap.size+1+1) 0 (by rfl) Z4 _ BO.ra Tryz.underlying100 rfl (by rw [n4];kernel_rfl) ?_)|(refine wpList_store_part rfl 100 _ _ rfl (w.heap.size+1) 0 (.agg Z4.toArray) Z4 (by rfl) (by rfl) rfl 100 [] Z0 [] (Bk.cast BR (by simp)) rfl (by rw [n0,n4]) (by rw [n4];kernel_rfl) hone ?_;intro VZ hV BZ))
 have XZ:Ext w VZ:=Ext.ofSet hV X4 oM
 have BZ:=Bk.cast (C:=Z4) BZ (by simp)
 have zvz:VZ.heap.size=V4.heap.size:=(congrArg (fun W=>W.heap.size) hV).trans (size_setRow _ _ _)
 have u4:Upd V4 VZ [w.heap.size+1,w.heap.size+1+1]:=updSet hV (by simp)
 have u3:=b4.trans u4
 have s2:=b3.trans u3;have o2:=o2.keep (Upd.chg s2 (two_lt oM oM));have u2:=a3.trans s2
 have s1:=b2.trans u2;have o1:=o1.keep (Upd.chg s1 (two_lt oM oM));have u1:=a2.trans s1
 refine bodyPost_ret (v:=.agg Z4.toArray) (by first|exact results_cell_row rfl _ _ (w.heap.size+1) _ _ _ _ (by rfl) BZ Tryz.underlying100 rfl (by rw [List.size_toArray,n4];kernel_rfl)) rfl ?_
 refine⟨_,rfl,XZ,_,_,_,F1,F2,by rw [eZ.out],o1.mono oM,o2.mono oM,?_,rfl⟩
 repeat' (first|exact List.Pairwise.nil|(refine List.Pairwise.cons ?_ ?_))
 ·
  intro b hb k hk hk2
  have hA:=d1l k hk
  simp only [List.mem_cons,List.not_mem_nil,or_false] at hb
  rcases hb with rfl
  have hB:=d2l k hk2;omega
 intro b hb;cases hb
end
def RdNet (w:World) (v:Value) (d:DNet):Prop:=∃ t0:Value,∃ t1:Value,v=.agg ([t0] ++ ([t1] ++ [])).toArray∧RdMsgS w t0 d.Flight∧RdLinkS w t1 d.Cuts
def OwNet (B:Nat) (w:World) (v:Value) (d:DNet) (F:List Nat):Prop:=∃ t0:Value,∃ t1:Value,∃ F0:List Nat,∃ F1:List Nat,v=.agg ([t0] ++ ([t1] ++ [])).toArray∧OwMsgS B w t0 d.Flight F0∧OwLinkS B w t1 d.Cuts F1∧[F0,F1].Pairwise (fun a b=>∀ k,k ∈ a→k ∈ b→False)∧F=F0 ++ F1
def sznNet (d:DNet):Nat:=sznMsgS d.Flight+sznLinkS d.Cuts
section
variable {B B':Nat} {w w':World} {v:Value} {d:DNet} {F:List Nat}
theorem RdNet.ext (h:RdNet w v d) (x:Ext w w'):RdNet w' v d:=by
 obtain⟨t0,t1,e,g0,g1⟩:=h
 exact⟨t0,t1,e,g0.ext x,g1.ext x⟩
theorem OwNet.rd (h:OwNet B w v d F):RdNet w v d:=by
 obtain⟨t0,t1,F0,F1,e,g0,g1,hdj,hF⟩:=h
 exact⟨t0,t1,e,g0.rd,g1.rd⟩
theorem OwNet.keep (h:OwNet B w v d F) (x:Chg B w w'):OwNet B w' v d F:=by
 obtain⟨t0,t1,F0,F1,e,g0,g1,hdj,hF⟩:=h
 exact⟨t0,t1,F0,F1,e,g0.keep x,g1.keep x,hdj,hF⟩
theorem OwNet.mono (h:OwNet B w v d F) (x:B'≤B):OwNet B' w v d F:=by
 obtain⟨t0,t1,F0,F1,e,g0,g1,hdj,hF⟩:=h
 exact⟨t0,t1,F0,F1,e,g0.mono x,g1.mono x,hdj,hF⟩
theorem OwNet.low (h:OwNet B w v d F):∀ k,k ∈ F→B≤k∧k<w.heap.size:=by
 obtain⟨t0,t1,F0,F1,e,g0,g1,hdj,rfl⟩:=h
 intro k hk
 simp only [List.mem_append] at hk
 rcases hk with hk|hk
 ·
  exact g0.low k hk
 exact g1.low k hk
theorem RdNet.cells (h:RdNet w v d):∃ L:List Value,v=.agg L.toArray∧L.length=2∧∀ x,x ∈ L→x.oneCell'=true:=by
 obtain⟨t0,t1,rfl,g0,g1⟩:=h
 refine⟨_,rfl,by simp [],?_⟩
 intro x hx
 simp only [List.mem_append,List.mem_cons,List.not_mem_nil,or_false] at hx
 rcases hx with rfl|rfl
 ·
  obtain⟨a,n,k,rfl⟩:=g0.shape;rfl
 obtain⟨a,n,k,rfl⟩:=g1.shape;rfl
theorem sz_Net (h:RdNet w v d) {left:Int} (h0:0≤left) (h1:left≤1048576):Calls Tryz.prog 37 #[v,.int .i64 left] w (Ret w fun v' _=>SzR left (sznNet d) v'):=by
 obtain⟨t0,t1,rfl,g0,g1⟩:=h
 unfold sznNet
 obtain⟨L,hL⟩:∃ L:List Value,L=([t0] ++ ([t1] ++ [])):=⟨_,rfl⟩
 rw [← hL]
 obtain⟨W0,hW0⟩:∃ W0,W0=w.alloc (.cells L.toArray 61):=⟨_,rfl⟩
 have E0:Ext w W0:=by rw [hW0];exact (Ext.refl _).alloc _
 have r:W0.rangeAt w.heap.size 0 L:=by rw [hW0];exact (Bk.new _ _ _).ra
 rw [hL] at r;clear hL
 obtain⟨R0,r⟩:=range_app (m:=1) r rfl rfl
 have R0:=range_one R0
 obtain⟨R1,r⟩:=range_app (m:=2) r rfl rfl
 have R1:=range_one R1
 clear r
 go_enter Tryz.func37,Tryz.ntmps37
 go_upto_region 1 with (fail)
 rw [← hW0]
 clear hW0
 have X0:Ext W0 W0:=Ext.refl _
 have cq0:=X0.cell R0
 go_wp2_with fail
 clear cq0
 refine (sz_MsgS (g0.ext (E0.trans X0)) (left:=left) oM oM).mono ?_
 rintro e w1 ⟨v1,rfl,x1,hv⟩
 have X1:=X0.trans x1
 rcases hv with ⟨rfl,hq1⟩|⟨rfl,hq1⟩
 ·
  go_wp2_with fail
  go_ret
  exact⟨_,rfl,E0.trans X1,.inl ⟨rfl,by omega⟩⟩
 obtain⟨z1,hz1⟩:∃ z,z=left - (sznMsgS d.Flight:Nat):=⟨_,rfl⟩
 rw [← hz1]
 have hy1:=Int.le_of_eq hz1;have hw1:=Int.le_of_eq hz1.symm;clear hz1
 have hd1:decide (z1<0)=false:=by simp;omega
 have cq1:=X1.cell R1
 go_wp2_with fail
 clear cq1
 refine (sz_LinkS (g1.ext (E0.trans X1)) (left:=z1) oM oM).mono ?_
 rintro e w2 ⟨v2,rfl,x2,hv⟩
 have X2:=X1.trans x2
 rcases hv with ⟨rfl,hq2⟩|⟨rfl,hq2⟩
 ·
  go_wp2_with fail
  go_ret
  exact⟨_,rfl,E0.trans X2,.inl ⟨rfl,by omega⟩⟩
 obtain⟨z2,hz2⟩:∃ z,z=z1 - (sznLinkS d.Cuts:Nat):=⟨_,rfl⟩
 rw [← hz2]
 have hy2:=Int.le_of_eq hz2;have hw2:=Int.le_of_eq hz2.symm;clear hz2
 have hd2:decide (z2<0)=false:=by simp;omega
 go_wp2_with fail
 go_ret
 exact⟨_,rfl,E0.trans X2,.inr ⟨congrArg (Value.int .i64) oM,by omega⟩⟩
theorem eq_Net {u:Value} (h:RdNet w v d) (k:RdNet w u d):Calls Tryz.prog 56 #[v,u] w (RetV w (.bool true)):=by
 obtain⟨t0,t1,rfl,g0,g1⟩:=h
 obtain⟨s0,s1,rfl,f0,f1⟩:=k
 obtain⟨L,hL⟩:∃ L:List Value,L=([t0] ++ ([t1] ++ [])):=⟨_,rfl⟩
 obtain⟨M,hM⟩:∃ L:List Value,L=([s0] ++ ([s1] ++ [])):=⟨_,rfl⟩
 rw [← hL,← hM]
 obtain⟨W0,hW0⟩:∃ W0,W0=(w.alloc (.cells L.toArray 104)).alloc (.cells M.toArray 104):=⟨_,rfl⟩
 have E0:Ext w W0:=by rw [hW0];exact ((Ext.refl _).alloc _).alloc _
 have r:W0.rangeAt w.heap.size 0 L:=by rw [hW0];exact Bk.ra (Bk.alloc (Bk.new _ _ _) _)
 rw [hL] at r;clear hL
 obtain⟨R0,r⟩:=range_app (m:=1) r rfl rfl
 have R0:=range_one R0
 obtain⟨R1,r⟩:=range_app (m:=2) r rfl rfl
 have R1:=range_one R1
 clear r
 have r:W0.rangeAt (w.heap.size+1) 0 M:=by rw [hW0];exact Bk.ra (Blk.new2 _ _ _ _)
 rw [hM] at r;clear hM
 obtain⟨S0,r⟩:=range_app (m:=1) r rfl rfl
 have S0:=range_one S0
 obtain⟨S1,r⟩:=range_app (m:=2) r rfl rfl
 have S1:=range_one S1
 clear r
 go_enter Tryz.func56,Tryz.ntmps56
 go_upto_region 1 with (fail)
 rw [← hW0]
 clear hW0
 have X0:Ext W0 W0:=Ext.refl _
 have ca0:=X0.cell R0;have cb0:=X0.cell S0
 go_wp2_with fail
 refine (eq_MsgS (g0.ext (E0.trans X0)) (f0.ext (E0.trans X0))).mono ?_
 rintro e w1 ⟨rfl,x1⟩
 have X1:=X0.trans x1
 clear ca0 cb0
 have ca1:=X1.cell R1;have cb1:=X1.cell S1
 go_wp2_with fail
 refine (eq_LinkS (g1.ext (E0.trans X1)) (f1.ext (E0.trans X1))).mono ?_
 rintro e w2 ⟨rfl,x2⟩
 have X2:=X1.trans x2
 clear ca1 cb1
 go_wp2_with fail
 go_ret
 exact⟨rfl,E0.trans X2⟩
theorem to_Net (h:RdNet w v d) (hs:sznNet d≤1048576):Calls Tryz.prog 47 #[v] w (Ret w fun v' w'=>∃ F,OwNet w.heap.size w' v' d F):=by
 obtain⟨t0,t1,rfl,g0,g1⟩:=h
 unfold sznNet at hs
 have hzero:=(zero_of_info (P:=Tryz.prog) (t:=104) (v:=.agg #[.slice none 0 0,.slice none 0 0]) (n:=2) (by kernel_rfl)).1
 obtain⟨Z0,hZ⟩:∃ Z:List Value,Z=[Value.slice none 0 0,Value.slice none 0 0]:=⟨_,rfl⟩
 have n0:Z0.length=2:=by rw [hZ];rfl
 obtain⟨L,hL⟩:∃ L:List Value,L=([t0] ++ ([t1] ++ [])):=⟨_,rfl⟩
 rw [← hL]
 obtain⟨W0,hW0⟩:∃ W0,W0=((w.alloc (.cells L.toArray 61)).alloc (.cells #[.slice none 0 0,.slice none 0 0] 104)).alloc (.cells #[.slice none 0 0,.slice none 0 0] 104):=⟨_,rfl⟩
 have X0:Ext w W0:=by rw [hW0];exact (((Ext.refl _).alloc _).alloc _).alloc _
 have r:W0.rangeAt w.heap.size 0 L:=by rw [hW0];exact Bk.ra (Bk.alloc (Bk.alloc (Bk.new _ _ _) _) _)
 rw [hL] at r;clear hL
 obtain⟨R0,r⟩:=range_app (m:=1) r rfl rfl
 have R0:=range_one R0
 obtain⟨R1,r⟩:=range_app (m:=2) r rfl rfl
 have R1:=range_one R1
 clear r
 have BR:Bk W0 (w.heap.size+1) 104 Z0:=by rw [hW0,hZ];exact Bk.alloc (Blk.new2 _ _ _ _) _
 have BO:Bk W0 (w.heap.size+1+1) 104 Z0:=by rw [hW0,hZ];exact Blk.new3 _ _ _ _ _
 have zW:W0.heap.size=w.heap.size+1+1+1:=by rw [hW0];simp
 clear hZ
 have A0:Z0.take 0=[]:=rfl
 go_enter Tryz.func47,Tryz.ntmps47
 go_upto_region 2 with (fail)
 rw [← hW0]
 clear hW0 hzero
 go_wp2_with fail
 refine (to_MsgS (g0.ext X0) oM).mono ?_
 rintro e w1 ⟨_,rfl,x1,F0,o0⟩
 obtain⟨ua0,un0,uc0,rfl⟩:=o0.rd.shape
 have BR:=BR.ext x1;have BO:=BO.ext x1;have Y1:=X0.trans x1;have d0l:=o0.low;have zy1:=x1.size;have a1:=Ext.upd x1 [w.heap.size+1,w.heap.size+1+1]
 have R1:=x1.cell R1
 go_wp2_with (first|(refine wpList_store_cells rfl 101 _ _ rfl (w.heap.size+1+1) 0 (Value.slice ua0 un0 uc0) ([(Value.slice ua0 un0 uc0)]) (by rfl) (by rfl) rfl 104 Z0 BO 2 1 n0 rfl oM (by kernel_rfl) (by intro x hx;simp only [List.mem_cons,List.not_mem_nil,or_false] at hx;subst hx;rfl) [w.heap.size+1,w.heap.size+1+1] (by simp) ?_;intro V1 Z1 b1 zv1 BO n1 A1 hB;have X1:=exU Y1 b1 (two_ge oM oM);have BR:=hB _ _ _ oM BR;rw [A0] at A1;clear hB A0;have R1:=cell_upd R1 b1 oM))
 refine (to_LinkS (g1.ext X1) oM).mono ?_
 rintro e w2 ⟨_,rfl,x2,F1,o1⟩
 obtain⟨ua1,un1,uc1,rfl⟩:=o1.rd.shape
 have BR:=BR.ext x2;have BO:=BO.ext x2;have Y2:=X1.trans x2;have d1l:=o1.low;have zy2:=x2.size;have a2:=Ext.upd x2 [w.heap.size+1,w.heap.size+1+1]
 go_upto_region 4 with (first|(refine wpList_store_cells rfl 102 _ _ rfl (w.heap.size+1+1) 1 (Value.slice ua1 un1 uc1) ([(Value.slice ua1 un1 uc1)]) (by rfl) (by rfl) rfl 104 Z1 BO 2 1 n1 rfl oM (by kernel_rfl) (by intro x hx;simp only [List.mem_cons,List.not_mem_nil,or_false] at hx;subst hx;rfl) [w.heap.size+1,w.heap.size+1+1] (by simp) ?_;intro V2 Z2 b2 zv2 BO n2 A2 hB;have X2:=exU Y2 b2 (two_ge oM oM);have BR:=hB _ _ _ oM BR;rw [A1] at A2;clear hB A1))
 have eZ:Z2=([(Value.slice ua0 un0 uc0)] ++ ([(Value.slice ua1 un1 uc1)] ++ [])):=by
  rw [List.take_of_length_le oM] at A2
  rw [A2]
  simp only [List.append_assoc,List.nil_append,List.append_nil]
 have hone:∀ x,x ∈ Z2→x.oneCell'=true:=by
  rw [eZ]
  intro x hx
  simp only [List.mem_append,List.mem_cons,List.not_mem_nil,or_false] at hx
  rcases hx with rfl|rfl
  ·
   rfl
  rfl
 have eZ:=Lib.hid eZ
 clear A2
 go_wp2_with (first|(refine wpList_load_mid rfl 104 _ rfl (w.heap.size+1+1) 0 (by rfl) Z2 _ BO.ra Tryz.underlying104 rfl (by rw [n2];kernel_rfl) ?_)|(refine wpList_store_part rfl 104 _ _ rfl (w.heap.size+1) 0 (.agg Z2.toArray) Z2 (by rfl) (by rfl) rfl 104 [] Z0 [] (Bk.cast BR (by simp)) rfl (by rw [n0,n2]) (by rw [n2];kernel_rfl) hone ?_;intro VZ hV BZ))
 have XZ:Ext w VZ:=Ext.ofSet hV X2 oM
 have BZ:=Bk.cast (C:=Z2) BZ (by simp)
 have zvz:VZ.heap.size=V2.heap.size:=(congrArg (fun W=>W.heap.size) hV).trans (size_setRow _ _ _)
 have u2:Upd V2 VZ [w.heap.size+1,w.heap.size+1+1]:=updSet hV (by simp)
 have s1:=b2.trans u2;have o1:=o1.keep (Upd.chg s1 (two_lt oM oM));have u1:=a2.trans s1
 have s0:=b1.trans u1;have o0:=o0.keep (Upd.chg s0 (two_lt oM oM))
 refine bodyPost_ret (v:=.agg Z2.toArray) (by first|exact results_cell_row rfl _ _ (w.heap.size+1) _ _ _ _ (by rfl) BZ Tryz.underlying104 rfl (by rw [List.size_toArray,n2];kernel_rfl)) rfl ?_
 refine⟨_,rfl,XZ,_,_,_,F0,F1,by rw [eZ.out],o0.mono oM,o1.mono oM,?_,rfl⟩
 repeat' (first|exact List.Pairwise.nil|(refine List.Pairwise.cons ?_ ?_))
 ·
  intro b hb k hk hk2
  have hA:=d0l k hk
  simp only [List.mem_cons,List.not_mem_nil,or_false] at hb
  rcases hb with rfl
  have hB:=d1l k hk2;omega
 intro b hb;cases hb
end
end Go.Proofs.YtkpmbocbbgocbaaGreat
namespace Go.G8
open Go.RowKit
open Go.Proofs.YtkpmbocbbgocbaaGreat
theorem Sl.bools {w:World} {v:Value} {l:List Bool} (h:Sl 1 w v (l.map .bool)):∃ a cap,v=.slice a l.length cap∧l.length≤cap∧cap≤maxLen ∧
  ∀ i,i<l.length→∃ x b off,l[i]?=some x∧a=some ⟨b,off,none⟩∧b<w.heap.size∧w.cell? ⟨b,off+i,none⟩=some (.bool x):=by
 obtain⟨a,len,cap,rfl,hl,hc,hm,hn,ha⟩:=h
 simp only [List.length_map,Nat.mul_one] at hl
 subst hl
 refine⟨a,cap,rfl,hc,hm,fun i hi=>?_⟩
 cases a with
 | none=>have:=hn rfl;omega
 | some p =>
  obtain⟨b,off,sp⟩:=p
  obtain⟨rfl,hb,hcell⟩:=ha b off sp rfl oM
  have hx:l[i]?=some l[i]:=List.getElem?_eq_getElem hi
  exact⟨l[i],b,off,hx,rfl,hb,hcell i _ (by rw [List.getElem?_map,hx];rfl)⟩
theorem Sl.shapeB {w:World} {v:Value} {l:List Bool} (h:Sl 1 w v (l.map .bool)):∃ a n k,v=.slice a n k:=by obtain⟨a,n,k,h,_⟩:=h;exact⟨a,n,k,h⟩
end Go.G8
namespace Go.Proofs.YtkpmbocbbgocbaaGreat
open Go.RowKit Go.G8
theorem info_Bool:(Tryz.prog.info? 4).map (fun i=>(i.zero,i.size,i.bytes))=some (some (.bool false),1,1):=by kernel_rfl
theorem toBoolS_c (w:World) (v:Value) (l:List Bool) (h:Sl 1 w v (l.map .bool)) (hs:l.length≤1048576) :
  Calls Tryz.prog 49 #[v] w (Ret w fun v' w'=>Own w.heap.size 4 1 w' v' (l.map .bool)):=by
 obtain⟨a,ca,rfl,hca,hm,ha⟩:=h.bools
 have HA:=Lib.hid ha
 clear ha
 unfold maxLen at hm
 obtain⟨L,hL⟩:∃ L,L=l.length:=⟨_,rfl⟩
 rw [← hL] at HA hca hs ⊢
 have HL:=Lib.hid hL
 clear hL h
 obtain⟨i0,hi,hz0,hz1,hz2⟩:=info_parts info_Bool
 go_enter Tryz.func49,Tryz.ntmps49
 have hmk:=fun W=>run_make (P:=Tryz.prog) W 63 4 i0 _ Tryz.underlying63 hi hz0 .i64 .i64 L L oM oM (by rw [hz2];omega) oM
 simp only [Int.toNat_natCast,hz1] at hmk
 go_wp2
 clear hmk
 go_loopw [4] (fun i wr=>∃ k:Nat,k≤L∧i=.int .i64 k∧Ext w wr∧∃ cur,Blk wr w.heap.size 4 cur∧cur.size=L * 1∧Pre cur (k) (l.map .bool)) (fun i _=>L - (intOf i).toNat)
 case atStart=>exact⟨0,Nat.zero_le _,rfl,(Ext.refl _).alloc _,_,Blk.new _ _ _,by simp [size_madeCells],by simpa using Pre.zero _ _⟩
 case round =>
  obtain⟨k,hk,rfl,he,cur,hblk,hsz,hpre⟩:=hrel
  by_cases hlt:k<L
  ·
   obtain⟨x0,b1,o1,hx0,rfl,_,c10⟩:=HA.out k hlt
   have d0:=he.cell c10
   clear c10
   have HX0:=Lib.hid hx0
   have HS:=Lib.hid hsz
   clear hx0 hsz
   obtain⟨z0,g0⟩:∃ z,wr.cell? ⟨w.heap.size,k,none⟩=some z:=⟨_,by rw [hblk.cell];exact Array.getElem?_eq_getElem (by have:=HS.out;omega)⟩;have f0:=hblk.frozen (k)
   go_wp2
   go_roundw
   case rel=>exact⟨k+1,by omega,by go_num,(he.setCell (Nat.le_refl _) _),_,(hblk.set_ _ _),by simpa using HS.out,(hpre.set (by rw [List.getElem?_map,HX0.out];rfl) (by have:=HS.out;omega))⟩
   case measure=>simp [intOf];omega
  obtain rfl:k=L:=by omega
  go_wp2
  go_ret
  exact⟨_,rfl,he,Own.of_blk hblk (Nat.le_refl _) hsz (by simp;exact HL.out.symm) (Nat.le_refl _) (by unfold maxLen;omega) (hpre.cast oM)⟩
theorem szBoolS_c (w:World) (v:Value) (l:List Bool) (left:Int) (h:Sl 1 w v (l.map .bool)) (h0:0≤left) (h1:left≤1048576) :
  Calls Tryz.prog 39 #[v,.int .i64 left] w (Ret w fun v' _=>SzR left l.length v'):=by
 obtain⟨a,ca,rfl,hca,hm,-⟩:=h.bools
 clear h
 unfold maxLen at hm
 by_cases hlt:left<l.length
 ·
  have ht:decide (left - (l.length:Int)<0)=true:=by simp;omega
  go_enter Tryz.func39,Tryz.ntmps39
  go_wp2
  go_ret
  exact⟨_,rfl,Ext.refl _,.inl ⟨rfl,hlt⟩⟩
 have ht:decide (left - (l.length:Int)<0)=false:=by simp;omega
 go_enter Tryz.func39,Tryz.ntmps39
 go_wp2
 go_ret
 exact⟨_,rfl,Ext.refl _,.inr ⟨rfl,by omega⟩⟩
theorem eqBoolS_c (w:World) (va vb:Value) (l:List Bool) (ha:Sl 1 w va (l.map .bool)) (hb:Sl 1 w vb (l.map .bool)) :
  Calls Tryz.prog 57 #[va,vb] w (RetV w (.bool true)):=by
 obtain⟨a,ca,rfl,hca,hm,ha'⟩:=ha.bools
 obtain⟨b,cb,rfl,_,_,hb'⟩:=hb.bools
 have HA:=Lib.hid ha';have HB:=Lib.hid hb'
 clear ha' hb' ha hb
 unfold maxLen at hm
 go_enter Tryz.func57,Tryz.ntmps57
 go_wp2
 go_loopw [5] (fun i wr=>∃ k:Nat,k≤l.length∧i=.int .i64 k∧Ext w wr) (fun i _=>l.length - (intOf i).toNat)
 case atStart=>exact⟨0,Nat.zero_le _,rfl,Ext.refl _⟩
 case round =>
  obtain⟨k,hk,rfl,he⟩:=hrel
  by_cases hlt:k<l.length
  ·
   obtain⟨x0,b1,o1,hx0,rfl,_,c10⟩:=HA.out k hlt
   obtain⟨y0,b2,o2,hy0,rfl,_,c20⟩:=HB.out k hlt
   obtain rfl:x0=y0:=by rw [hx0] at hy0;exact Option.some.inj hy0
   have d0:=he.cell c10;have e0:=he.cell c20
   clear c10 c20 hx0 hy0
   cases x0
   all_goals
    go_wp2
    go_quiet (fail)
    go_wp2
    go_roundw
    case rel=>exact⟨k+1,by omega,by go_num,he.drewN _⟩
    case measure=>simp [intOf];omega
  go_wp2
  go_ret
  exact⟨rfl,he⟩
def RdBoolS (w:World) (v:Value) (l:List Bool):Prop:=Sl 1 w v (l.map .bool)
def OwBoolS (B:Nat) (w:World) (v:Value) (l:List Bool) (F:List Nat):Prop:=Own B 4 1 w v (l.map .bool)∧F=feet [v]
def sznBoolS (l:List Bool):Nat:=l.length
section
variable {B B':Nat} {w w':World} {v:Value} {l:List Bool} {F:List Nat}
theorem RdBoolS.shape (h:RdBoolS w v l):∃ a n k,v=.slice a n k:=Sl.shapeB h
theorem RdBoolS.ext (h:RdBoolS w v l) (x:Ext w w'):RdBoolS w' v l:=Sl.ext h x
theorem OwBoolS.rd (h:OwBoolS B w v l F):RdBoolS w v l:=Own.sl h.1
theorem OwBoolS.keep (h:OwBoolS B w v l F) (x:Chg B w w'):OwBoolS B w' v l F:=⟨Own.keep h.1 x,h.2⟩
theorem OwBoolS.mono (h:OwBoolS B w v l F) (x:B'≤B):OwBoolS B' w v l F:=⟨Own.mono h.1 x,h.2⟩
theorem OwBoolS.low (h:OwBoolS B w v l F):∀ k,k ∈ F→B≤k∧k<w.heap.size:=by obtain⟨h,rfl⟩:=h;exact Own.foot h
theorem to_BoolS (h:RdBoolS w v l) (hs:sznBoolS l≤1048576):Calls Tryz.prog 49 #[v] w (Ret w fun v' w'=>∃ F,OwBoolS w.heap.size w' v' l F):=by
 refine (toBoolS_c w v l h hs).mono ?_
 rintro e w' ⟨u,rfl,hx,g⟩
 exact⟨u,rfl,hx,_,g,rfl⟩
theorem sz_BoolS (h:RdBoolS w v l) {left:Int} (h0:0≤left) (h1:left≤1048576):Calls Tryz.prog 39 #[v,.int .i64 left] w (Ret w fun v' _=>SzR left (sznBoolS l) v'):=szBoolS_c w v l left h h0 h1
theorem eq_BoolS {u:Value} (h:RdBoolS w v l) (k:RdBoolS w u l):Calls Tryz.prog 57 #[v,u] w (RetV w (.bool true)):=eqBoolS_c w v u l h k
end
end Go.Proofs.YtkpmbocbbgocbaaGreat
