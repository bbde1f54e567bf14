/- OB GB. -/
import Derived.Test.YtkpmbocbbgocbaaGreatQGc
import Derived.Test.YtkpmbocbbgocbaaGreatQGo
set_option linter.unusedSimpArgs false
set_option linter.unusedVariables false
set_option maxHeartbeats 8000000
set_option maxRecDepth 100000
namespace Go.Proofs.YtkpmbocbbgocbaaGreat
open Go.RowKit Go.G8
section
open Go.ChangeShapes Go.WideShapes Go.ChangeAt Go.RowKit Go.G8
section
variable {H:Type} {enc:TypeId × Value->H} {W:World} {base:Nat} {sp:Nat->Bool} {held:Bool}
theorem tC:Tryz.prog.cellsOf 5=1:=by kernel_rfl
theorem pU{fuel:Nat}{cs:List Value}{x:DataW H × List MemPlace}(h:DataW.trod enc Tryz.prog W base sp held fuel 115 cs=some x):∃s:Value,cs=[s]/\Yg W s:=by
 rcases Deep.open_slice1 Tryz.underlying115 tC h with⟨rfl,_⟩|⟨a,len,cap,m,n,V,D,Pl,rfl,hb,hl,hm,hmm,_,hx⟩
 .
  exact⟨_,rfl,[],Sl.nil 1 W,by simp⟩
 have hlm:len<=m:=by rw[hmm];split <;> omega
 obtain⟨l,hlen,hp⟩:=Yb (p:=fun i (y:Int)=>(0<=y/\y<=255)/\W.cell? (a.add i)=some (.int .u8 y)) len (fun i hi=>by
  obtain⟨h1,h2⟩:=hx i oM
  obtain⟨y,e,_,hw⟩:=DataW.trod_int Tryz.underlying5 h2
  injection e with e _
  subst_vars
  simp only[Lit.wf,Bool.and_eq_true,decide_eq_true_eq] at hw
  refine⟨y,⟨?_,?_⟩,by rw[h1,e]⟩
  .
   have:=hw.1;simpa[IntKind.min,IntKind.signed] using this
  have:=hw.2;simpa[IntKind.max,IntKind.signed,IntKind.bits] using this)
 obtain⟨b,off,s⟩:=a
 refine⟨_,rfl,l,⟨some ⟨b,off,s⟩,len,cap,rfl,by simpa using hlen,hl,hm,(fun h=>by cases h),fun b' off' sp' ha hpos=>?_⟩,fun y hy=>?_⟩
 .
  injection ha with ha
  injection ha with e1 e2 e3
  subst e1;subst e2;subst e3
  have h0:=(hp 0 _ (List.getElem?_eq_getElem oM)).2
  have hs:s=none:=by
   have e0:(⟨b,off,s⟩:Addr).add 0=⟨b,off,s⟩:=by unfold Addr.add;simp
   rw[e0] at h0
   cases s with
   | none=>rfl
   | some s=>unfold World.cell? at h0;split at h0 <;> simp at h0
  subst hs
  have hcell:∀i u,(l.map (Value.int .u8))[i]?=some u->W.cell? ⟨b,off+i,none⟩=some u:=by
   intro i u hu
   rw[List.getElem?_map] at hu
   obtain⟨y,hy,rfl⟩:=Option.map_eq_some_iff.1 hu
   have:=(hp i y hy).2
   rw[Jz] at this
   exact this
  have hc0:=hcell 0 _ (by rw[List.getElem?_map,List.getElem?_eq_getElem oM];rfl)
  exact⟨rfl,World.block_lt_of_cell? W _ hc0,hcell⟩
 obtain⟨i,hi⟩:=List.mem_iff_getElem?.1 hy
 exact(hp i y hi).1
end
theorem vS(w:World)(a:Option Addr)(n k:Nat):Calls Tryz.prog 21 #[.slice a n k] w (fun e w'=>e=.returned (.bool (decide ((4096:Int)<(n:Int))))/\w=w'):=by
 go_enter Tryz.func21,Tryz.ntmps21
 go_wp2_with fail
 go_ret
 exact⟨by first|rfl|simp,rfl⟩
end
end Go.Proofs.YtkpmbocbbgocbaaGreat
