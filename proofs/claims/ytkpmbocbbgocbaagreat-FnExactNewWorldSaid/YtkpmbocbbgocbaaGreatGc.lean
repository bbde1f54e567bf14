/- Open Facts Open2 Open3. -/
import Derived.Test.YtkpmbocbbgocbaaGreatRows
import Derived.Test.YtkpmbocbbgocbaaGreatGa
import Derived.ProofKit
import Derived.OpenShut
import Derived.ChangeOld
import Derived.Deep.Slices
import Derived.JoinedOf
import Derived.Test.YtkpmbocbbgocbaaGreatGb
set_option linter.unusedSimpArgs false
set_option linter.unusedVariables false
set_option maxHeartbeats 8000000
set_option maxRecDepth 100000
namespace Go.Proofs.YtkpmbocbbgocbaaGreat
open Go.ChangeShapes Go.WideShapes Go.ChangeAt Go.RowKit Go.G8
theorem own:ownKnob Tryz.prog.godebug=none:=by kernel_rfl
theorem laidOut:laidOutB Tryz.prog=true:=by kernel_rfl
section
variable {H:Type} {enc:TypeId × Value→H} {W:World} {base:Nat} {sp:Nat→Bool} {held:Bool}
theorem rd_field {t:TypeId} {fs:Array Field} {fuel:Nat} {cs:List Value} {x:DataW H × List MemPlace} (ht:Tryz.prog.underlying t=some (.struct fs)) (h:DataW.trod enc Tryz.prog W base sp held fuel t cs=some x)
  (i:Nat) (f:Field) (hf:fs[i]?=some f):∃ n y,DataW.trod enc Tryz.prog W base sp held n f.type ((cs.drop f.offset).take (Tryz.prog.cellsOf f.type))=some y:=by
 obtain⟨xs,n,_,_,_,hl,hr⟩:=DataW.trod_struct ht h
 have h1:=hr i f hf
 have hi:i<xs.length:=by
  rw [hl]
  rcases Nat.lt_or_ge i fs.size with h'|h'
  ·
   exact h'
  rw [Array.getElem?_eq_none h'] at hf;cases hf
 rw [List.getElem?_eq_getElem hi] at h1
 exact⟨n,_,h1⟩
theorem rd_len {t:TypeId} {fs:Array Field} {fuel:Nat} {cs:List Value} {x:DataW H × List MemPlace} (ht:Tryz.prog.underlying t=some (.struct fs)) (h:DataW.trod enc Tryz.prog W base sp held fuel t cs=some x):cs.length=Tryz.prog.cellsOf t:=by
 obtain⟨xs,n,_,_,hl,_,_⟩:=DataW.trod_struct ht h
 exact hl
end
end Go.Proofs.YtkpmbocbbgocbaaGreat
namespace Go.Proofs.YtkpmbocbbgocbaaGreat.facts
theorem b2 {a b:Bool} (ha:a=true) (hb:b=true):(a && b)=true:=by rw [ha,hb];rfl
theorem k1:(laidOutB Tryz.checked.prog)=true:=by kernel_rfl
theorem k2:(mapsRowed Tryz.checked.prog)=true:=by kernel_rfl
theorem k6:((Tryz.checked.prog.stops == []))=true:=by kernel_rfl
theorem k8:((Tryz.checked.prog.stopKnobs == []))=true:=by kernel_rfl
theorem k22:((Rows.fnExactSameWorldRow.plainKeys == Tryz.checked.prog.plainKeys))=true:=by kernel_rfl
theorem k24:(Tryz.checked.prog.stopsHeard)=true:=by kernel_rfl
theorem k25:(Tryz.checked.prog.mayEnter)=true:=by kernel_rfl
theorem k26:((Rows.fnExactSameWorldRow.lifted == Tryz.checked.prog.liftsFinal))=true:=by kernel_rfl
theorem k27:((Tryz.checked.prog.make == some Rows.fnExactSameWorldRow.make))=true:=by kernel_rfl
end Go.Proofs.YtkpmbocbbgocbaaGreat.facts
namespace Go.Proofs.YtkpmbocbbgocbaaGreat
open Go.ChangeShapes Go.WideShapes Go.ChangeAt Go.RowKit Go.G8
theorem cc_Int64:Tryz.prog.cellsOf 2=1:=by kernel_rfl
theorem cc_Op:Tryz.prog.cellsOf 51=5:=by kernel_rfl
section
variable {H:Type} {enc:TypeId × Value→H} {W:World} {base:Nat} {sp:Nat→Bool} {held:Bool}
theorem rl_Op {fuel:Nat} {cs:List Value} {x:DataW H × List MemPlace} (h:DataW.trod enc Tryz.prog W base sp held fuel 51 cs=some x):∃ (c0:Int) (c1:Int) (c2:Int) (c3:Int) (c4:Int),cs=[.int .i64 c0,.int .i64 c1,.int .i64 c2,.int .i64 c3,.int .i64 c4]:=by
 have hl:=rd_len Tryz.underlying51 h
 rw [cc_Op] at hl
 obtain⟨v0,v1,v2,v3,v4,rfl⟩:∃ v0 v1 v2 v3 v4,cs=[v0,v1,v2,v3,v4]:=by match cs,hl with|[v0,v1,v2,v3,v4],_=>exact⟨v0,v1,v2,v3,v4,rfl⟩
 obtain⟨n0,y0,h0⟩:=rd_field Tryz.underlying51 h 0 _ rfl
 obtain⟨n1,y1,h1⟩:=rd_field Tryz.underlying51 h 1 _ rfl
 obtain⟨n2,y2,h2⟩:=rd_field Tryz.underlying51 h 2 _ rfl
 obtain⟨n3,y3,h3⟩:=rd_field Tryz.underlying51 h 3 _ rfl
 obtain⟨n4,y4,h4⟩:=rd_field Tryz.underlying51 h 4 _ rfl
 simp [cc_Int64] at h0 h1 h2 h3 h4
 obtain⟨a0,e0,_⟩:=DataW.trod_int Tryz.underlying2 h0
 simp at e0
 subst e0
 obtain⟨a1,e1,_⟩:=DataW.trod_int Tryz.underlying2 h1
 simp at e1
 subst e1
 obtain⟨a2,e2,_⟩:=DataW.trod_int Tryz.underlying2 h2
 simp at e2
 subst e2
 obtain⟨a3,e3,_⟩:=DataW.trod_int Tryz.underlying2 h3
 simp at e3
 subst e3
 obtain⟨a4,e4,_⟩:=DataW.trod_int Tryz.underlying2 h4
 simp at e4
 subst e4
 exact⟨a0,a1,a2,a3,a4,rfl⟩
end
end Go.Proofs.YtkpmbocbbgocbaaGreat
namespace Go.G8
open Go.RowKit
theorem List.map_prod_left_eq_zip' {α:Type} (l:List (α × Value)) (f:α→NRow):l.flatMap (fun d=>ncell (f d.1,d.2))=((l.map (f ∘ fun x=>x.1)).zip (l.map (·.2))).flatMap ncell:=by
 induction l with
 | nil=>rfl
 | cons x l ih=>simp only [List.flatMap_cons,List.map_cons,List.zip_cons_cons,ih,Function.comp]
theorem Sl.of_each {α:Type} {f:α→List Value} {n:Nat} (hn:0<n) {w:World} {a:Addr} {len cap:Nat} (hl:len≤cap) (hm:cap≤maxLen) (l:List α) (hlen:l.length=len) (hf:∀ x ∈ l,(f x).length=n)
  (hp:∀ (i:Nat) (d:α),l[i]?=some d→∀ j u,(f d)[j]?=some u→w.cell? ((a.add (i * n)).add j)=some u):Sl n w (.slice (some a) len cap) (l.flatMap f):=by
 refine⟨some a,len,cap,rfl,by rw [flatV_len f l hf,hlen],hl,hm,(fun h=>by cases h),fun b off sp ha hpos=>?_⟩
 injection ha with ha
 subst ha
 have hd:0<l.length:=by omega
 have hsp:sp=none:=by
  have hm0:(f l[0])[0]?=some ((f l[0])[0]'(by rw [hf _ (List.getElem_mem hd)];exact hn)):=List.getElem?_eq_getElem _
  have h1:=hp 0 _ (List.getElem?_eq_getElem hd) 0 _ hm0
  have e0:((⟨b,off,sp⟩:Addr).add (0 * n)).add 0=⟨b,off,sp⟩:=by unfold Addr.add;simp
  rw [e0] at h1
  cases sp with
  | none=>rfl
  | some s=>unfold World.cell? at h1;split at h1 <;> simp at h1
 subst hsp
 have hcell:∀ i u,(l.flatMap f)[i]?=some u→w.cell? ⟨b,off+i,none⟩=some u:=by
  intro i u hu
  have hi:i<l.length * n:=by
   rw [← flatV_len f l hf]
   exact (List.getElem?_eq_some_iff.1 hu).1
  have hd:i / n<l.length:=Nat.div_lt_of_lt_mul (by rw [Nat.mul_comm];exact hi)
  have hmod:i % n<n:=Nat.mod_lt _ hn
  have he:i / n * n+i % n=i:=by rw [Nat.mul_comm];exact Nat.div_add_mod i n
  have hg:=flatV_get f l hf (i / n) (i % n) l[i / n] (List.getElem?_eq_getElem hd) hmod
  rw [he,hu] at hg
  have:=hp (i / n) _ (List.getElem?_eq_getElem hd) (i % n) u hg.symm
  rw [add_lit0,add_lit0,Nat.add_assoc,he] at this
  exact this
 have h0:0<(l.flatMap f).length:=by rw [flatV_len f l hf];exact Nat.mul_pos hd hn
 exact⟨rfl,World.block_lt_of_cell? w _ (hcell 0 _ (List.getElem?_eq_getElem h0)),hcell⟩
theorem Nest.of_each {α:Type} {f:α→NRow} {n:Nat} (hf:∀ x,(f x).1.length=n) {w:World} {a:Addr} {len cap:Nat} (hl:len≤cap) (hm:cap≤maxLen)
  (h:∀ i,i<len→∃ (d:α) (s:Value),(∀ j u,(ncell (f d,s))[j]?=some u→w.cell? ((a.add (i * (n+1))).add j)=some u)∧Ints 1 w s (f d).2):∃ l:List α,l.length=len∧Nest n w (.slice (some a) len cap) (l.map f):=by
 obtain⟨l,hlen,hp⟩:=choose_list (α:=α × Value) (p:=fun i d=>(∀ j u,(ncell (f d.1,d.2))[j]?=some u→w.cell? ((a.add (i * (n+1))).add j)=some u)∧Ints 1 w d.2 (f d.1).2) len (fun i hi=>by
  obtain⟨d,s,h1⟩:=h i hi
  exact⟨(d,s),h1⟩)
 refine⟨l.map (·.1),by simp [hlen],?_,l.map (·.2),by simp,?_,fun i s r h1 h2=>?_⟩
 ·
  intro r hr
  simp only [List.mem_map] at hr
  obtain⟨x,⟨y,_,rfl⟩,rfl⟩:=hr
  exact hf _
 ·
  have e:ncells ((l.map (·.1)).map f) (l.map (·.2))=l.flatMap (fun d=>ncell (f d.1,d.2)):=by
   unfold ncells
   rw [List.map_map,← List.map_prod_left_eq_zip' l f]
  rw [e]
  exact Sl.of_each oM hl hm l hlen (fun x _=>by simp [ncell,hf]) (fun i d hd=>(hp i d hd).1)
 simp only [List.getElem?_map,Option.map_eq_some_iff] at h1 h2
 obtain⟨x,hx,rfl⟩:=h1
 obtain⟨y,⟨z,hz,rfl⟩,rfl⟩:=h2
 rw [hx] at hz;injection hz with hz;subst hz
 exact (hp i x hx).2
end Go.G8
namespace Go.Proofs.YtkpmbocbbgocbaaGreat
open Go.ChangeShapes Go.WideShapes Go.ChangeAt Go.RowKit Go.G8
section
variable {H:Type} {enc:TypeId × Value→H} {W:World} {base:Nat} {sp:Nat→Bool} {held:Bool}
end
end Go.Proofs.YtkpmbocbbgocbaaGreat
