/- LgM LkB LkC LkE LkO EqAck LkI. -/
import Derived.Test.YtkpmbocbbgocbaaGreatGa
import Derived.Test.YtkpmbocbbgocbaaGreatB4
import Derived.Test.YtkpmbocbbgocbaaGreatGe
import Derived.Test.YtkpmbocbbgocbaaGreatB0
import Derived.Test.YtkpmbocbbgocbaaGreatB5
import Derived.RangeFuncNested
import Derived.RangeFuncBound
import Derived.RangeFuncCalls
import Derived.RangeFuncLeaves
import Derived.Shelf.Abstract
import Derived.Shelf.RegionOpen
import Derived.OwnWalkIn
import Derived.TacticsInMore
import Derived.LoopNIn
import Derived.LoopIn
import Derived.Maps.AppendAt
set_option linter.unusedSimpArgs false
set_option linter.unusedVariables false
set_option maxHeartbeats 8000000
set_option maxRecDepth 100000
namespace Go.G8
open Go.RowKit
open Go.Proofs.YtkpmbocbbgocbaaGreat
theorem flEntry_one (l:List DEntry) (d:DEntry):flEntry (l ++ [d])=flEntry l ++ [d.Index,d.Time,d.Client,d.Seq,d.Op.Kind,d.Op.A,d.Op.B,d.Op.C,d.Op.D]:=by simp [flEntry,DEntry.ints,List.flatMap_append]
theorem filter_next {α:Type} {p:α→Bool} {l:List α} {k:Nat} {d:α} (hd:l[k]?=some d):(l.take (k+1)).filter p=(l.take k).filter p ++ (if p d then [d] else []):=by
 rw [List.take_add_one,hd,List.filter_append];simp [List.filter_cons]
def headZ:DHead:=⟨0,0,0,[]⟩
def timeAt (b:DBook) (i:Int):Int:=if i=b.Base then b.Time else match b.Entries[(i - b.Base - 1).toNat]? with|some e=>e.Time|none=>0
def partE (b:DBook) (f t:Int):List DEntry:=b.Entries.filter (fun e=>inb e.Index f t)
def fromE (b:DBook) (f:Int):List DEntry:=b.Entries.filter (fun e=>decide (f≤e.Index))
def seenG (s:List DMark) (l:List DEntry):List DMark:=(seenOver s l).getD s
def nextHead (n:DLogNode) (i:Int):DHead:=⟨n.Head.Num+1,i,timeAt n.Book i,seenG n.Head.Seen (partE n.Book (n.Book.Base+1) i)⟩
noncomputable def nextR (n:DLogNode):Bool:=if n.More then inb n.Next.Base (n.Head.Base+1) n.Durable && eqB n.Next (nextHead n n.Next.Base) else eqB n.Next headZ
noncomputable def owesB (n:DLogNode):Bool:=eqB n.Owe ((fromE n.Book (n.Durable+1)).map ackE)
noncomputable def logPre (n:DLogNode):Bool:=keptOk n.Two && (headOk n.Head && (bookOk n.Book && (decide (n.Book.Base=n.Head.Base) && decide (n.Book.Time=n.Head.Time))))
noncomputable def logMid (n:DLogNode):Bool:=(seenOver n.Head.Seen n.Book.Entries).isSome && (eqB (seenG n.Head.Seen n.Book.Entries) n.Seen && inb n.Durable n.Book.Base (bLast n.Book))
noncomputable def logOk (n:DLogNode):Bool:=logPre n && (logMid n && (owesB n && nextR n))
structure LogP (n:DLogNode):Prop where
 num:0≤n.Head.Num∧n.Head.Num≤n.Head.Base
 base:n.Book.Base=n.Head.Base
 time:n.Book.Time=n.Head.Time
 bok:bookOk n.Book=true
 book:BookP n.Book
 seen:SeenOk n.Head.Seen
 over:(seenOver n.Head.Seen n.Book.Entries).isSome=true
 dur:n.Book.Base≤n.Durable∧n.Durable≤bLast n.Book
theorem logPre_p {n:DLogNode} (h:logPre n=true):headOk n.Head=true∧bookOk n.Book=true∧BookP n.Book∧seenOk n.Head.Seen=true∧n.Book.Base=n.Head.Base∧0≤n.Head.Num∧n.Head.Num≤n.Head.Base:=by
 simp only [logPre,Bool.and_eq_true,decide_eq_true_eq] at h
 obtain⟨_,h1,h2,h3,_⟩:=h
 have h4:=h1
 simp only [headOk,Bool.and_eq_true,inb_true,decide_eq_true_eq] at h4
 exact⟨h1,h2,bookOk_p h2,h4.2.2.2.2.1,h3,h4.2.1.1,h4.2.1.2⟩
theorem logP {n:DLogNode} (h:logPre n=true) (k:logMid n=true):LogP n:=by
 obtain⟨h1,h2,h3,h4,h5,h6,h7⟩:=logPre_p h
 simp only [logPre,Bool.and_eq_true,decide_eq_true_eq] at h
 simp only [logMid,Bool.and_eq_true,inb_true] at k
 exact⟨⟨h6,h7⟩,h5,h.2.2.2.2,h2,h3,seenOk_iff.1 h4,k.1,k.2.2⟩
theorem part_from {b:DBook} (h:BookP b) (i:Int):partE b i 2000=fromE b i:=by
 unfold partE fromE
 refine List.filter_congr (fun x hx=>?_)
 obtain⟨j,hj,hx'⟩:=List.getElem_of_mem hx
 have h1:=entryOk_all (h.idx j x (by rw [List.getElem?_eq_getElem hj,hx'])).2
 have h2:∀ a b:Bool,(a=true ↔ b=true)→a=b:=by decide
 exact h2 _ _ (by rw [inb_true,decide_eq_true_eq];omega)
theorem timeAt_at {b:DBook} {i:Int} {k:Nat} {e:DEntry} (hk:(k:Int)=i - b.Base - 1) (he:b.Entries[k]?=some e):timeAt b i=e.Time:=by
 have h1:¬ i=b.Base:=by omega
 have h2:(i - b.Base - 1).toNat=k:=by omega
 simp only [timeAt]
 rw [if_neg h1,h2,he]
theorem Blk.own {β:Type} (g:Nat) (t:TypeId) (cs:β→Array Value):Go.Own (fun s W=>Blk W g t (cs s)):=fun s X Y row hs hg hrow =>
 hs.grown hg (fun e'=>by obtain⟨o,ho,hc⟩:=hrow g e'.symm;rw [show X.heap[g]?=_ from hs] at ho;cases ho;cases hc)
end Go.G8
namespace Go.Proofs.YtkpmbocbbgocbaaGreat
open Go.RowKit Go.G8
attribute [local go_sem] Oper.semAt_some
def KpE (n₀ Bf:Nat) (W W':World):Prop:=Below n₀ W W'∧∀ u,Boxed W Bf 2 u→Boxed W' Bf 2 u
theorem KpE.t {n₀ Bf:Nat} {A B C:World} (h:KpE n₀ Bf A B) (k:KpE n₀ Bf B C):KpE n₀ Bf A C:=⟨h.1.trans k.1,fun u hu=>k.2 u (h.2 u hu)⟩
def IoE (w W0:World) (Bo Bf:Nat) (f:Int) (pre:List DEntry) (W:World):Prop:=((∃ v,Boxed W Bo 79 v∧W.ownsRow w.heap.size 284 4 v pre.length ((flAck (pre.map ackE)).map (.int .i64))∧True)∧Boxed W Bf 2 (.int .i64 f))∧Below w.heap.size W0 W
theorem IoE.own {w W0:World} {Bo Bf:Nat} {f:Int} {B:Nat} (h0:w.heap.size≤W0.heap.size) (hB:w.heap.size≤B):OwnFrom B (IoE w W0 Bo Bf f) :=
 OwnFrom.and (OwnFrom.and (Go.Own.from (holdsRow_own w.heap.size Bo 79 284 4 (fun pre:List DEntry=>pre.length) (fun pre=>(flAck (pre.map ackE)).map (Value.int .i64)) (fun _ _=>True)) _) (Go.Own.from (boxed_own _ _ (fun _=>Value.int .i64 f)) _)) (ownFrom_below h0 hB)
theorem IoE.ext {w W0:World} {Bo Bf:Nat} {f:Int} {pre:List DEntry} {W W':World} (h:IoE w W0 Bo Bf f pre W) (e:Ext W W') (h0:w.heap.size≤W0.heap.size):IoE w W0 Bo Bf f pre W':=by
 obtain⟨⟨⟨v,h1,h2,h3⟩,h4⟩,h5⟩:=h
 exact⟨⟨⟨v,Blk.ext h1 e,h2.kept e.grown (by cases hv:v.ownBlock <;> simp),h3⟩,Blk.ext h4 e⟩,h5.trans (Below.mono e (Nat.le_trans h0 h5.size))⟩
end Go.Proofs.YtkpmbocbbgocbaaGreat
