/- DS DS3 DS2 DS4 DS5 DS6. -/
import Derived.Test.YtkpmbocbbgocbaaGreatQGo
import Derived.Test.YtkpmbocbbgocbaaGreatQGk
set_option linter.unusedSimpArgs false
set_option linter.unusedVariables false
set_option maxHeartbeats 8000000
set_option maxRecDepth 100000
namespace Go.Proofs.YtkpmbocbbgocbaaGreat
open Go.RowKit Go.G8
theorem Gx.drawn{M:Nat}{w w':World}{v:Value}{s:Fl}{g:Nat}(h:Gx M w v s)(x:Upd w w' [g])(hg:g<M):Gx M w' v s:=let ⟨t2,t3,e,h2,h3⟩:=h;⟨t2,t3,e,h2.drawn x hg,h3.drawn x hg⟩
theorem Gx.nil(M:Nat)(w:World):Gx M w (.agg #[.int .i64 0,.int .i64 0,.slice none 0 0,.slice none 0 0,.int .i64 0,.int .i64 0,.int .i64 0]) ⟨0,0,[],[],⟨0,0,0⟩⟩:=⟨_,_,rfl,Af.nil _ _ _ _,Af.nil _ _ _ _⟩
theorem iI(w:World):Calls Tryz.prog 319 #[] w (Cp w (.agg #[.int .i64 0,.int .i64 0,.slice none 0 0,.slice none 0 0,.int .i64 0,.int .i64 0,.int .i64 0])):=by
 go_enter Tryz.func319,Tryz.ntmps319
 go_wp2_with fail
 refine bodyPost_ret (by simp[results,Tryz.results319,go_sem];try rfl) rfl ?_
 exact⟨rfl,xT⟩
theorem tB{w:World}{v:Value}(h:Yg w v):Calls Tryz.prog 65 #[v] w (Ret w fun r w'=>∃g:Nat,r=.pointer (some ⟨g,0,none⟩)/\Cur w.heap.size w' g):=by
 obtain⟨bs,h,hb⟩:=h
 have HB:=Lib.hid hb
 clear hb
 obtain⟨a,n,k,rfl,hl,hnk,hkm,hc⟩:=h.open_
 clear h
 have HC:=Lib.hid hc
 clear hc
 have hl2:bs.length=n:=by simpa using hl
 have HL:=Lib.hid hl2
 clear hl hl2
 go_enter Tryz.func65,Tryz.ntmps65
 go_wp2_with fail
 go_loopw [3,4] (fun hh ii wr=>wr=w/\∃(x:Int) (i:Nat),hh=.int .i64 x/\ii=.int .i64 i/\i<=n) (fun _ ii _=>n - (intOf ii).toNat)
 case atStart=>exact⟨rfl,_,0,rfl,rfl,Nat.zero_le _⟩
 case round =>
  obtain⟨rfl,x,i,rfl,rfl,hi⟩:=hrel
  by_cases hlt:i<n
  .
   obtain⟨b,off,rfl,hbl,hcl⟩:=HC.out i hlt
   have hy:=List.getElem?_eq_getElem (l:=bs) (i:=i) (by rw[HL.out];exact hlt)
   have hce:=hcl 0 _ (by simp only[Nat.mul_one,Nat.add_zero,List.getElem?_map,hy];rfl)
   simp only[Nat.mul_one,Nat.add_zero] at hce
   obtain⟨y,hy0,hy1,hyy⟩:∃y:Int,0<=y/\y<=255/\wr.cell? ⟨b,off+i,none⟩=some (.int .u8 y):=⟨_,(HB.out _ (List.getElem_mem _)).1,(HB.out _ (List.getElem_mem _)).2,hce⟩
   clear hce hcl hy
   have hlt2:(i:Int)<(n:Int):=by omega
   unfold maxLen at hkm
   go_wp2_with fail
   go_roundw
   case rel=>exact⟨by first|rfl|trivial,_,i+1,rfl,by go_num,by omega⟩
   case measure=>simp[intOf];omega
  have hin:i=n:=by omega
  have hlt2:¬ (i:Int)<(n:Int):=by omega
  go_wp2_with fail
  go_ret
  refine⟨_,rfl,xT,_,rfl,a,n,k,0,x,?_,Nat.le_refl _,Nat.zero_le _,hnk,hkm,fun j hj=>?_⟩
  .
   exact Blk.new _ _ _
  obtain⟨b,off,ha,hbl,hcl⟩:=HC.out j hj
  have hy:=List.getElem?_eq_getElem (l:=bs) (i:=j) (by rw[HL.out];exact hj)
  have hce:=hcl 0 _ (by simp only[Nat.mul_one,Nat.add_zero,List.getElem?_map,hy];rfl)
  simp only[Nat.mul_one,Nat.add_zero] at hce
  exact⟨b,off,_,ha,hbl,(HB.out _ (List.getElem_mem _)).1,(HB.out _ (List.getElem_mem _)).2,(((Ext.refl _).alloc _).cells.1 _ _ hbl).trans hce⟩
end Go.Proofs.YtkpmbocbbgocbaaGreat
