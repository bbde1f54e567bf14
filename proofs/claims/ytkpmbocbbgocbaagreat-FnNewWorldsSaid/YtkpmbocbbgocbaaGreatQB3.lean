/- KL KY. -/
import Derived.Test.YtkpmbocbbgocbaaGreatQB2
set_option linter.unusedSimpArgs false
set_option linter.unusedVariables false
set_option maxHeartbeats 8000000
set_option maxRecDepth 100000
namespace Go.Proofs.YtkpmbocbbgocbaaGreat
open Go.RowKit Go.G8
def Lz(w:World)(v:Value)(d:Ap):Prop:=∃p0:List Value,∃p1:List Value,∃p2:List Value,∃p4:List Value,∃t5:Value,∃t7:Value,v=.agg (p0++(p1++(p2++([Value.bool d.More]++(p4++([t5]++([Value.int .i64 d.Durable]++([t7]++[])))))))).toArray/\p0.length=4/\p1.length=4/\p2.length=4/\p4.length=3/\Kf w (.agg p0.toArray) d.Two/\Mb w (.agg p1.toArray) d.Head/\Mb w (.agg p2.toArray) d.Next/\Vr w (.agg p4.toArray) d.Book/\Ni w t5 d.Seen/\Vp w t7 d.Owe
def Io(B:Nat)(w:World)(v:Value)(d:Ap)(F:List Nat):Prop:=∃p0:List Value,∃p1:List Value,∃p2:List Value,∃p4:List Value,∃t5:Value,∃t7:Value,∃F0:List Nat,∃F1:List Nat,∃F2:List Nat,∃F4:List Nat,∃F5:List Nat,∃F7:List Nat,v=.agg (p0++(p1++(p2++([Value.bool d.More]++(p4++([t5]++([Value.int .i64 d.Durable]++([t7]++[])))))))).toArray/\p0.length=4/\p1.length=4/\p2.length=4/\p4.length=3/\Hm B w (.agg p0.toArray) d.Two F0/\Mc B w (.agg p1.toArray) d.Head F1/\Mc B w (.agg p2.toArray) d.Next F2/\Mr B w (.agg p4.toArray) d.Book F4/\Ku B w t5 d.Seen F5/\Nj B w t7 d.Owe F7/\[F0,F1,F2,F4,F5,F7].Pairwise (fun a b=>∀k,k ∈ a->k ∈ b->False)/\F=F0++F1++F2++F4++F5++F7
def aK(d:Ap):Nat:=kU d.Two+Ul d.Head+Ul d.Next+fB d.Book+iQ d.Seen+tG d.Owe
section
variable {B B':Nat} {w w':World} {v:Value} {d:Ap} {F:List Nat}
theorem Lz.ext(h:Lz w v d)(x:Ext w w'):Lz w' v d:=by
 obtain⟨p0,p1,p2,p4,t5,t7,e,l0,l1,l2,l4,g0,g1,g2,g4,g5,g7⟩:=h
 exact⟨p0,p1,p2,p4,t5,t7,e,l0,l1,l2,l4,g0.ext x,g1.ext x,g2.ext x,g4.ext x,g5.ext x,g7.ext x⟩
theorem Io.rd(h:Io B w v d F):Lz w v d:=by
 obtain⟨p0,p1,p2,p4,t5,t7,F0,F1,F2,F4,F5,F7,e,l0,l1,l2,l4,g0,g1,g2,g4,g5,g7,hdj,hF⟩:=h
 exact⟨p0,p1,p2,p4,t5,t7,e,l0,l1,l2,l4,g0.rd,g1.rd,g2.rd,g4.rd,g5.rd,g7.rd⟩
theorem Io.keep(h:Io B w v d F)(x:Chg B w w'):Io B w' v d F:=by
 obtain⟨p0,p1,p2,p4,t5,t7,F0,F1,F2,F4,F5,F7,e,l0,l1,l2,l4,g0,g1,g2,g4,g5,g7,hdj,hF⟩:=h
 exact⟨p0,p1,p2,p4,t5,t7,F0,F1,F2,F4,F5,F7,e,l0,l1,l2,l4,g0.keep x,g1.keep x,g2.keep x,g4.keep x,g5.keep x,g7.keep x,hdj,hF⟩
theorem Io.mono(h:Io B w v d F)(x:B'<=B):Io B' w v d F:=by
 obtain⟨p0,p1,p2,p4,t5,t7,F0,F1,F2,F4,F5,F7,e,l0,l1,l2,l4,g0,g1,g2,g4,g5,g7,hdj,hF⟩:=h
 exact⟨p0,p1,p2,p4,t5,t7,F0,F1,F2,F4,F5,F7,e,l0,l1,l2,l4,g0.mono x,g1.mono x,g2.mono x,g4.mono x,g5.mono x,g7.mono x,hdj,hF⟩
theorem Io.low(h:Io B w v d F):∀k,k ∈ F->B<=k/\k<w.heap.size:=by
 obtain⟨p0,p1,p2,p4,t5,t7,F0,F1,F2,F4,F5,F7,e,l0,l1,l2,l4,g0,g1,g2,g4,g5,g7,hdj,rfl⟩:=h
 intro k hk
 simp only[List.mem_append] at hk
 rcases hk with((((hk|hk)|hk)|hk)|hk)|hk
 .
  exact g0.low k hk
 .
  exact g1.low k hk
 .
  exact g2.low k hk
 .
  exact g4.low k hk
 .
  exact g5.low k hk
 exact g7.low k hk
theorem Lz.cells(h:Lz w v d):∃L:List Value,v=.agg L.toArray/\L.length=19/\∀x,x ∈ L->x.oneCell'=true:=by
 obtain⟨p0,p1,p2,p4,t5,t7,rfl,l0,l1,l2,l4,g0,g1,g2,g4,g5,g7⟩:=h
 refine⟨_,rfl,by simp[l0,l1,l2,l4],?_⟩
 intro x hx
 simp only[List.mem_append,List.mem_cons,List.not_mem_nil,or_false] at hx
 rcases hx with hx|hx|hx|rfl|hx|rfl|rfl|rfl
 .
  obtain⟨L,e,-,h1⟩:=g0.cells;rw[Ct e] at hx;exact h1 x hx
 .
  obtain⟨L,e,-,h1⟩:=g1.cells;rw[Ct e] at hx;exact h1 x hx
 .
  obtain⟨L,e,-,h1⟩:=g2.cells;rw[Ct e] at hx;exact h1 x hx
 .
  rfl
 .
  obtain⟨L,e,-,h1⟩:=g4.cells;rw[Ct e] at hx;exact h1 x hx
 .
  obtain⟨a,n,k,rfl⟩:=g5.shape;rfl
 .
  rfl
 obtain⟨a,n,k,rfl⟩:=g7.shape;rfl
end
def Gu(w:World)(v:Value)(d:Fb):Prop:=∃p0:List Value,∃p1:List Value,∃p2:List Value,∃p3:List Value,∃p4:List Value,∃p5:List Value,∃p6:List Value,∃t7:Value,∃t8:Value,v=.agg (p0++(p1++(p2++(p3++(p4++(p5++(p6++([t7]++([t8]++[]))))))))).toArray/\p0.length=19/\p1.length=12/\p2.length=15/\p3.length=15/\p4.length=4/\p5.length=4/\p6.length=2/\Lz w (.agg p0.toArray) d.Log/\Ix w (.agg p1.toArray) d.Store/\Hz w (.agg p2.toArray) d.Left/\Hz w (.agg p3.toArray) d.Right/\Gk w (.agg p4.toArray) d.Ann/\Gk w (.agg p5.toArray) d.Bob/\Rq w (.agg p6.toArray) d.Net/\Qh w t7 d.Clocks/\Pn w t8 d.Up
def Gz(B:Nat)(w:World)(v:Value)(d:Fb)(F:List Nat):Prop:=∃p0:List Value,∃p1:List Value,∃p2:List Value,∃p3:List Value,∃p4:List Value,∃p5:List Value,∃p6:List Value,∃t7:Value,∃t8:Value,∃F0:List Nat,∃F1:List Nat,∃F2:List Nat,∃F3:List Nat,∃F4:List Nat,∃F5:List Nat,∃F6:List Nat,∃F7:List Nat,∃F8:List Nat,v=.agg (p0++(p1++(p2++(p3++(p4++(p5++(p6++([t7]++([t8]++[]))))))))).toArray/\p0.length=19/\p1.length=12/\p2.length=15/\p3.length=15/\p4.length=4/\p5.length=4/\p6.length=2/\Io B w (.agg p0.toArray) d.Log F0/\Dy B w (.agg p1.toArray) d.Store F1/\Cs B w (.agg p2.toArray) d.Left F2/\Cs B w (.agg p3.toArray) d.Right F3/\Db B w (.agg p4.toArray) d.Ann F4/\Db B w (.agg p5.toArray) d.Bob F5/\Im B w (.agg p6.toArray) d.Net F6/\Jr B w t7 d.Clocks F7/\Lk B w t8 d.Up F8/\[F0,F1,F2,F3,F4,F5,F6,F7,F8].Pairwise (fun a b=>∀k,k ∈ a->k ∈ b->False)/\F=F0++F1++F2++F3++F4++F5++F6++F7++F8
def aL(d:Fb):Nat:=aK d.Log+Tq d.Store+Nl d.Left+Nl d.Right+Lg d.Ann+Lg d.Bob+aH d.Net+Xp d.Clocks+aG d.Up
section
variable {B B':Nat} {w w':World} {v:Value} {d:Fb} {F:List Nat}
theorem Gu.ext(h:Gu w v d)(x:Ext w w'):Gu w' v d:=by
 obtain⟨p0,p1,p2,p3,p4,p5,p6,t7,t8,e,l0,l1,l2,l3,l4,l5,l6,g0,g1,g2,g3,g4,g5,g6,g7,g8⟩:=h
 exact⟨p0,p1,p2,p3,p4,p5,p6,t7,t8,e,l0,l1,l2,l3,l4,l5,l6,g0.ext x,g1.ext x,g2.ext x,g3.ext x,g4.ext x,g5.ext x,g6.ext x,g7.ext x,g8.ext x⟩
theorem Gz.rd(h:Gz B w v d F):Gu w v d:=by
 obtain⟨p0,p1,p2,p3,p4,p5,p6,t7,t8,F0,F1,F2,F3,F4,F5,F6,F7,F8,e,l0,l1,l2,l3,l4,l5,l6,g0,g1,g2,g3,g4,g5,g6,g7,g8,hdj,hF⟩:=h
 exact⟨p0,p1,p2,p3,p4,p5,p6,t7,t8,e,l0,l1,l2,l3,l4,l5,l6,g0.rd,g1.rd,g2.rd,g3.rd,g4.rd,g5.rd,g6.rd,g7.rd,g8.rd⟩
theorem Gz.keep(h:Gz B w v d F)(x:Chg B w w'):Gz B w' v d F:=by
 obtain⟨p0,p1,p2,p3,p4,p5,p6,t7,t8,F0,F1,F2,F3,F4,F5,F6,F7,F8,e,l0,l1,l2,l3,l4,l5,l6,g0,g1,g2,g3,g4,g5,g6,g7,g8,hdj,hF⟩:=h
 exact⟨p0,p1,p2,p3,p4,p5,p6,t7,t8,F0,F1,F2,F3,F4,F5,F6,F7,F8,e,l0,l1,l2,l3,l4,l5,l6,g0.keep x,g1.keep x,g2.keep x,g3.keep x,g4.keep x,g5.keep x,g6.keep x,g7.keep x,g8.keep x,hdj,hF⟩
theorem Gz.mono(h:Gz B w v d F)(x:B'<=B):Gz B' w v d F:=by
 obtain⟨p0,p1,p2,p3,p4,p5,p6,t7,t8,F0,F1,F2,F3,F4,F5,F6,F7,F8,e,l0,l1,l2,l3,l4,l5,l6,g0,g1,g2,g3,g4,g5,g6,g7,g8,hdj,hF⟩:=h
 exact⟨p0,p1,p2,p3,p4,p5,p6,t7,t8,F0,F1,F2,F3,F4,F5,F6,F7,F8,e,l0,l1,l2,l3,l4,l5,l6,g0.mono x,g1.mono x,g2.mono x,g3.mono x,g4.mono x,g5.mono x,g6.mono x,g7.mono x,g8.mono x,hdj,hF⟩
theorem Gz.low(h:Gz B w v d F):∀k,k ∈ F->B<=k/\k<w.heap.size:=by
 obtain⟨p0,p1,p2,p3,p4,p5,p6,t7,t8,F0,F1,F2,F3,F4,F5,F6,F7,F8,e,l0,l1,l2,l3,l4,l5,l6,g0,g1,g2,g3,g4,g5,g6,g7,g8,hdj,rfl⟩:=h
 intro k hk
 simp only[List.mem_append] at hk
 rcases hk with(((((((hk|hk)|hk)|hk)|hk)|hk)|hk)|hk)|hk
 .
  exact g0.low k hk
 .
  exact g1.low k hk
 .
  exact g2.low k hk
 .
  exact g3.low k hk
 .
  exact g4.low k hk
 .
  exact g5.low k hk
 .
  exact g6.low k hk
 .
  exact g7.low k hk
 exact g8.low k hk
theorem Gu.cells(h:Gu w v d):∃L:List Value,v=.agg L.toArray/\L.length=73/\∀x,x ∈ L->x.oneCell'=true:=by
 obtain⟨p0,p1,p2,p3,p4,p5,p6,t7,t8,rfl,l0,l1,l2,l3,l4,l5,l6,g0,g1,g2,g3,g4,g5,g6,g7,g8⟩:=h
 refine⟨_,rfl,by simp[l0,l1,l2,l3,l4,l5,l6],?_⟩
 intro x hx
 simp only[List.mem_append,List.mem_cons,List.not_mem_nil,or_false] at hx
 rcases hx with hx|hx|hx|hx|hx|hx|hx|rfl|rfl
 .
  obtain⟨L,e,-,h1⟩:=g0.cells;rw[Ct e] at hx;exact h1 x hx
 .
  obtain⟨L,e,-,h1⟩:=g1.cells;rw[Ct e] at hx;exact h1 x hx
 .
  obtain⟨L,e,-,h1⟩:=g2.cells;rw[Ct e] at hx;exact h1 x hx
 .
  obtain⟨L,e,-,h1⟩:=g3.cells;rw[Ct e] at hx;exact h1 x hx
 .
  obtain⟨L,e,-,h1⟩:=g4.cells;rw[Ct e] at hx;exact h1 x hx
 .
  obtain⟨L,e,-,h1⟩:=g5.cells;rw[Ct e] at hx;exact h1 x hx
 .
  obtain⟨L,e,-,h1⟩:=g6.cells;rw[Ct e] at hx;exact h1 x hx
 .
  obtain⟨a,n,k,rfl⟩:=g7.shape;rfl
 obtain⟨a,n,k,rfl⟩:=g8.shape;rfl
end
end Go.Proofs.YtkpmbocbbgocbaaGreat
