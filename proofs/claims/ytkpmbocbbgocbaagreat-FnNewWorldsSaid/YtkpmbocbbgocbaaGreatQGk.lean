/- Ins Ins2 Ins3 Ins4 Pu Pc Ja Ff Ap1 Ap2 Sp. -/
import Derived.Test.YtkpmbocbbgocbaaGreatQGj
import Derived.Shelf.RegionOpenPlain
import Derived.Lib.Overlaps
import Derived.Lib.AppendZerosOnto
import Derived.Laws.Externs
import Derived.Laws.EntriesVeiled
import Derived.Deep.DeepCutAuto
set_option linter.unusedSimpArgs false
set_option linter.unusedVariables false
set_option maxHeartbeats 8000000
set_option maxRecDepth 100000
namespace Go.Proofs.YtkpmbocbbgocbaaGreat
open Go.RowKit Go.G8
section
variable {cur:Array Value} {o:Nat} {vs:List Value}
end
section
variable {P:Program}
end
def Xl(pt jt:TypeId)(w0:World)(B:Nat)(w:World)(v:Value)(s:Fl):Prop:=∃t2 t3:Value,v=.agg #[.int .i64 s.Index,.int .i64 s.Time,t2,t3,.int .i64 s.Lease.Holder,.int .i64 s.Lease.Epoch,.int .i64 s.Lease.Until] /\
 (Aj 2 w0 t2 (Dp s.Pairs)\/Af B pt 2 w t2 (Dp s.Pairs))/\(Aj 5 w0 t3 (Fj s.Jobs)\/Af B jt 5 w t3 (Fj s.Jobs))
theorem Xl.rd{pt jt:TypeId}{w0 w w':World}{B:Nat}{v:Value}{s:Fl}(h:Xl pt jt w0 B w v s)(x:Ext w0 w')(c:Chg B w w'):Ml w' v s:=by
 obtain⟨t2,t3,e,h2,h3⟩:=h
 exact⟨t2,t3,e,h2.elim (fun h=>h.ext x) (fun h=>(h.keep c).ints),h3.elim (fun h=>h.ext x) (fun h=>(h.keep c).ints)⟩
theorem Xl.keep{pt jt:TypeId}{w0 w w':World}{B:Nat}{v:Value}{s:Fl}(h:Xl pt jt w0 B w v s)(c:Chg B w w'):Xl pt jt w0 B w' v s:=by
 obtain⟨t2,t3,e,h2,h3⟩:=h
 exact⟨t2,t3,e,h2.imp id (fun h=>h.keep c),h3.imp id (fun h=>h.keep c)⟩
theorem Xl.mono{pt jt:TypeId}{w0 w:World}{B B':Nat}{v:Value}{s:Fl}(h:Xl pt jt w0 B w v s)(c:B'<=B):Xl pt jt w0 B' w v s:=by
 obtain⟨t2,t3,e,h2,h3⟩:=h
 exact⟨t2,t3,e,h2.imp id (fun h=>h.mono c),h3.imp id (fun h=>h.mono c)⟩
theorem Af.boxI{B:Nat}{e:TypeId}{n:Nat}{w:World}{v:Value}{xs:List Int}(h:Af B e n w v xs){X:Nat}{t:TypeId}{a:Array Value}(hX:Blk w X t a)(h1:t≠e)(i:Nat)(u:Value):Af B e n (w.setCell ⟨X,i,none⟩ u) v xs :=
 Af.upd' h ((Upd.refl w [X]).setCell (by simp) _) (fun k hk hf=>by
  obtain⟨cur,hb⟩:=h.typed hk
  simp at hf;subst hf
  exact h1 (hX.same hb))
theorem Xl.box{pt jt:TypeId}{w0 w:World}{B:Nat}{v:Value}{s:Fl}(h:Xl pt jt w0 B w v s){X:Nat}{t:TypeId}{a:Array Value}(hX:Blk w X t a)(h1:t≠pt)(h2:t≠jt)(i:Nat)(u:Value):Xl pt jt w0 B (w.setCell ⟨X,i,none⟩ u) v s:=by
 obtain⟨t2,t3,e,g2,g3⟩:=h
 exact⟨t2,t3,e,g2.imp id (fun h=>h.boxI hX h1 i u),g3.imp id (fun h=>h.boxI hX h2 i u)⟩
theorem Xl.shape{pt jt:TypeId}{w0 w:World}{B:Nat}{v:Value}{s:Fl}(h:Xl pt jt w0 B w v s):∃a2 n2 k2 a3 n3 k3,v=.agg #[.int .i64 s.Index,.int .i64 s.Time,.slice a2 n2 k2,.slice a3 n3 k3,.int .i64 s.Lease.Holder,.int .i64 s.Lease.Epoch,.int .i64 s.Lease.Until]:=by
 obtain⟨t2,t3,rfl,h2,h3⟩:=h
 obtain⟨a2,n2,k2,rfl⟩:=h2.elim (fun h=>h.shape) (fun h=>h.shape)
 obtain⟨a3,n3,k3,rfl⟩:=h3.elim (fun h=>h.shape) (fun h=>h.shape)
 exact⟨a2,n2,k2,a3,n3,k3,rfl⟩
end Go.Proofs.YtkpmbocbbgocbaaGreat
