/- Q11a Sum Num Num2. -/
import Derived.Test.YtkpmbocbbgocbaaGreatQGd
import Derived.Test.YtkpmbocbbgocbaaGreatQGe
set_option linter.unusedSimpArgs false
set_option linter.unusedVariables false
set_option maxHeartbeats 8000000
set_option maxRecDepth 100000
namespace Go.Proofs.YtkpmbocbbgocbaaGreat
open Go.RowKit Go.G8
def Se(s x:Int):Int:=(131*s+x+1) % 999999937
def Qw(l:List Int):Int:=l.foldl Se 7
def Gc(l:List Int):List Int:=if Ik l&&decide (l.length<48) then l++[Qw l] else []
theorem Yd{s x:Int}(hs:0<=s)(hx:0<=x):0<=Se s x/\Se s x<999999937:=by
 unfold Se
 exact⟨Int.emod_nonneg _ dC,Int.emod_lt_of_pos _ dC⟩
theorem Pp{l:List Int}(h:Ik l=true):l.length<=48/\∀x,x ∈ l->0<=x/\x<=1000000000:=by
 simp only[Ik,Bool.and_eq_true,decide_eq_true_eq,List.all_eq_true] at h
 exact⟨h.1,fun x hx=>Dz.1 (h.2 x hx)⟩
theorem Zs{l:List Int}{k:Nat}{x:Int}(h:l[k]?=some x):Qw (l.take (k+1))=Se (Qw (l.take k)) x:=by
 unfold Qw
 rw[List.take_add_one,h,List.foldl_append];rfl
theorem kG(w:World)(Dl:Value)(Ad:List Int)(Dk:Aj 1 w Dl Ad)(hr:Ik Ad=true):Calls Tryz.prog 58 #[Dl] w (Cp w (.int .i64 (Qw Ad))):=by
 obtain⟨a,cap,rfl,hcap,hm,ha⟩:=Dk.one
 obtain⟨hl,hx⟩:=Pp hr
 have HA:=Lib.hid ha;have HX:=Lib.hid hx
 clear ha hx hr
 unfold maxLen at hm
 go_enter Tryz.func58,Tryz.ntmps58
 go_wp2_with fail
 go_loopw [3,8] (fun s i wr=>∃k:Nat,k<=Ad.length/\i=.int .i64 k/\Ext w wr/\∃z:Int,s=.int .i64 z/\0<=z/\z<999999937/\Hid (z=Qw (Ad.take k))) (fun _ i _=>Ad.length - (intOf i).toNat)
 case atStart=>exact⟨0,Nat.zero_le _,rfl,Ext.refl _,7,rfl,by omega,by omega,Lib.hid rfl⟩
 case round =>
  obtain⟨k,hk,rfl,he,z,rfl,hz0,hz1,hz⟩:=hrel
  by_cases hlt:k<Ad.length
  .
   obtain⟨x,b1,o1,hx,rfl,_,c⟩:=HA.out k hlt
   have d0:=he.cell c
   obtain⟨hx0,hx1⟩:=HX.out x (List.mem_of_getElem? hx)
   have HD:=Lib.hid hx
   clear hx c
   obtain⟨ht0,ht1⟩:=Yd hz0 hx0
   unfold Se at ht0 ht1
   go_wp2
   go_roundw
   case rel=>exact⟨k+1,by omega,by go_num,he,_,rfl,ht0,ht1,Lib.hid (by rw[Zs HD.out,<-hz.out];rfl)⟩
   case measure=>simp[intOf];omega
  obtain rfl:k=Ad.length:=by omega
  go_wp2
  go_ret
  have hz':=hz.out
  rw[List.take_length] at hz'
  exact⟨congrArg (fun q:Int=>Ending.returned (Value.int .i64 q)) hz',he⟩
theorem pG(w:World)(Dl:Value)(Ad:List Int)(Dk:Aj 1 w Dl Ad)(hr:Ik Ad=true):Calls Tryz.prog 423 #[Dl] w (Cp w (.int .i64 (Qw Ad))):=by
 obtain⟨a,cap,rfl,hcap,hm,ha⟩:=Dk.one
 obtain⟨hl,hx⟩:=Pp hr
 have HA:=Lib.hid ha;have HX:=Lib.hid hx;have HRO:=Lib.hid hr
 clear ha hx hr
 unfold maxLen at hm
 go_enter Tryz.func423,Tryz.ntmps423
 go_wp2_with fail
 refine(Qc _ _ _ Dk).mono ?_
 rintro e w1⟨rfl,hx1⟩
 rw[HRO.out]
 go_wp2_with fail
 go_loopw [3,4] (fun s i wr=>∃k:Nat,k<=Ad.length/\i=.int .i64 k/\Ext w wr/\∃z:Int,s=.int .i64 z/\0<=z/\z<999999937/\Hid (z=Qw (Ad.take k))) (fun _ i _=>Ad.length - (intOf i).toNat)
 case atStart=>exact⟨0,Nat.zero_le _,rfl,hx1,7,rfl,by omega,by omega,Lib.hid rfl⟩
 case round =>
  obtain⟨k,hk,rfl,he,z,rfl,hz0,hz1,hz⟩:=hrel
  by_cases hlt:k<Ad.length
  .
   obtain⟨x,b1,o1,hx,rfl,_,c⟩:=HA.out k hlt
   have d0:=he.cell c
   obtain⟨hx0,hx2⟩:=HX.out x (List.mem_of_getElem? hx)
   have HD:=Lib.hid hx
   clear hx c
   obtain⟨ht0,ht1⟩:=Yd hz0 hx0
   unfold Se at ht0 ht1
   go_wp2
   go_roundw
   case rel=>exact⟨k+1,by omega,by go_num,he,_,rfl,ht0,ht1,Lib.hid (by rw[Zs HD.out,<-hz.out];rfl)⟩
   case measure=>simp[intOf];omega
  obtain rfl:k=Ad.length:=by omega
  go_wp2
  go_ret
  have hz':=hz.out
  rw[List.take_length] at hz'
  exact⟨congrArg (fun q:Int=>Ending.returned (Value.int .i64 q)) hz',he⟩
theorem kH(w:World)(Dl:Value)(Ad:List Int)(Dk:Aj 1 w Dl Ad):Calls Tryz.prog 404 #[Dl] w (Ret w fun r0 w'=>Af w.heap.size 2 1 w' r0 (Gc Ad)):=by
 obtain⟨a,cap,rfl,hcap,hm,_⟩:=Dk.one
 unfold maxLen at hm
 obtain⟨i0,hi,hz0,hz1,hz2⟩:=info_parts Ec
 go_enter Tryz.func404,Tryz.ntmps404
 go_wp2_with fail
 refine(Qc _ _ _ Dk).mono ?_
 rintro e w1⟨rfl,hx1⟩
 cases hro:Ik Ad
 .
  have HRO:=Lib.hid hro
  have HL:Hid True:=Lib.hid trivial
  go_wp2_with fail
  go_ret
  refine⟨_,rfl,?_,?_⟩
  .
   exact xT
  rw[show Gc Ad=[] by simp[Gc,HRO.out,HL.out]]
  exact Af.mono (show Af w1.heap.size 2 1 (w1.alloc (.cells #[] 2)) (.slice (some ⟨w1.heap.size,0,none⟩) 0 0) [] from Own.fresh w1 2 1) hx1.size
 have hle:=(Pp hro).1
 have HRO:=Lib.hid hro
 clear hro
 by_cases h48:Ad.length<48
 rotate_left
 .
  have h8:Ad.length=48:=by omega
  have HL:Hid (¬ Ad.length<48):=Lib.hid h48
  have h9:((Ad.length:Nat):Int)=48:=by omega
  have h10:decide (48<=Ad.length)=true:=by simp;omega
  clear h48
  go_wp2_with fail
  go_ret
  refine⟨_,rfl,?_,?_⟩
  .
   exact xT
  rw[show Gc Ad=[] by simp[Gc,HRO.out,HL.out]]
  exact Af.mono (show Af w1.heap.size 2 1 (w1.alloc (.cells #[] 2)) (.slice (some ⟨w1.heap.size,0,none⟩) 0 0) [] from Own.fresh w1 2 1) hx1.size
 have h9:decide (((Ad.length:Nat):Int)=48)=false:=by simp;omega
 have h10:decide (48<=Ad.length)=false:=by simp;omega
 have HL:=Lib.hid h48
 go_wp2_with (first|(go_at_call 422;refine(Ln _ _ _ (Dk.ext hx1) oM).mono ?_;rintro e w2 ⟨_,rfl,hx2,g2⟩;obtain⟨ta,tn,tc,rfl⟩:=g2.shape;have hz2':=hx2.size)|(go_at_call 423;refine(pG _ _ _ ((Dk.ext hx1).ext hx2) HRO.out).mono ?_;rintro e w3 ⟨rfl,hx3⟩;have hz3':=hx3.size)|(at_builtin;refine Fg rfl (.tmp 13) (.tmp 16) 62 rfl 2 i0 _ 1 8 Tryz.underlying62 hi hz0 hz1 hz2 rfl dC w1.heap.size _ _ rfl (Own.ext (Own.ext g2 hx3) ((Ext.refl w3).alloc _)) _ ([Qw Ad].map (.int .i64)) rfl (Sl.one w3 #[.int .i64 (Qw Ad)] _ 1 rfl) (ints_oneCell _ _) 100 (by simp;omega) (by unfold maxLen;omega) oM (by simp;omega) w1 ((hx2.trans hx3).alloc _) (Nat.le_refl _) ?_;rotate_right;intro v1 wa hown1 hea _))
 go_ret
 refine⟨_,rfl,hx1.trans hea,?_⟩
 rw[show Gc Ad=Ad++[Qw Ad] by simp[Gc,HRO.out,HL.out]]
 refine Af.mono (B:=w1.heap.size) ?_ hx1.size
 simpa[Af] using hown1
theorem nH(w:World)(Dl:Value)(Ad:List Int)(Dk:Aj 1 w Dl Ad):Calls Tryz.prog 399 #[Dl] w (Ret w fun r0 w'=>Af w.heap.size 2 1 w' r0 (Gc Ad)):=by
 obtain⟨a,cap,rfl,hcap,hm,_⟩:=Dk.one
 unfold maxLen at hm
 obtain⟨i0,hi,hz0,hz1,hz2⟩:=info_parts Ec
 go_enter Tryz.func399,Tryz.ntmps399
 go_wp2_with fail
 refine(Qv _ _ _ Dk).mono ?_
 rintro e w1⟨rfl,hx1⟩
 cases hro:Ik Ad
 .
  have HRO:=Lib.hid hro
  have HL:Hid True:=Lib.hid trivial
  go_wp2_with fail
  go_ret
  refine⟨_,rfl,?_,?_⟩
  .
   exact xT
  rw[show Gc Ad=[] by simp[Gc,HRO.out,HL.out]]
  exact Af.nil _ _ _ _
 have hle:=(Pp hro).1
 have HRO:=Lib.hid hro
 clear hro
 by_cases h48:Ad.length<48
 rotate_left
 .
  have h8:Ad.length=48:=by omega
  have HL:Hid (¬ Ad.length<48):=Lib.hid h48
  have h9:((Ad.length:Nat):Int)=48:=by omega
  have h10:decide (48<=Ad.length)=true:=by simp;omega
  clear h48
  go_wp2_with fail
  go_ret
  refine⟨_,rfl,?_,?_⟩
  .
   exact xT
  rw[show Gc Ad=[] by simp[Gc,HRO.out,HL.out]]
  exact Af.nil _ _ _ _
 have h9:decide (((Ad.length:Nat):Int)=48)=false:=by simp;omega
 have h10:decide (48<=Ad.length)=false:=by simp;omega
 have HL:=Lib.hid h48
 go_wp2_with (first|(go_at_call 420;refine(Po _ _ _ (Dk.ext hx1) oM).mono ?_;rintro e w2 ⟨_,rfl,hx2,g2⟩;obtain⟨ta,tn,tc,rfl⟩:=g2.shape;have hz2':=hx2.size)|(go_at_call 58;refine(kG _ _ _ ((Dk.ext hx1).ext hx2) HRO.out).mono ?_;rintro e w3 ⟨rfl,hx3⟩;have hz3':=hx3.size)|(at_builtin;refine Fg rfl (.tmp 12) (.tmp 15) 62 rfl 2 i0 _ 1 8 Tryz.underlying62 hi hz0 hz1 hz2 rfl dC w1.heap.size _ _ rfl (Own.ext (Own.ext g2 hx3) ((Ext.refl w3).alloc _)) _ ([Qw Ad].map (.int .i64)) rfl (Sl.one w3 #[.int .i64 (Qw Ad)] _ 1 rfl) (ints_oneCell _ _) 100 (by simp;omega) (by unfold maxLen;omega) oM (by simp;omega) w1 ((hx2.trans hx3).alloc _) (Nat.le_refl _) ?_;rotate_right;intro v1 wa hown1 hea _))
 go_ret
 refine⟨_,rfl,hx1.trans hea,?_⟩
 rw[show Gc Ad=Ad++[Qw Ad] by simp[Gc,HRO.out,HL.out]]
 refine Af.mono (B:=w1.heap.size) ?_ hx1.size
 simpa[Af] using hown1
theorem cQ(w:World)(X B:Nat)(v:Value)(xs ys:List Int)(p:Int)(b:Nat)(hK:Blk w X 212 #[v,.int .i64 p])(ho:Af B 2 1 w v xs)(hX:X<B)(hb:Blk w b 2 (ys.map (Value.int .i64)).toArray)(hl:xs.length+ys.length<=1000000)(hB:B<=w.heap.size):Calls Tryz.prog 135 #[.pointer (some ⟨X,0,none⟩),.slice (some ⟨b,0,none⟩) ys.length ys.length] w (fun e w'=>∃r,e=.returned r/\∃v',Blk w' X 212 #[v',.int .i64 p]/\Af B 2 1 w' v' (xs++ys)/\w.heap.size<=w'.heap.size/\∀W0:World,Ext W0 w->W0.heap.size<=X->Ext W0 w'):=by
 obtain⟨a0,n0,k0,rfl⟩:=ho.shape
 obtain⟨i0,hi,hz0,hz1,hz2⟩:=info_parts Ec
 have CK:=hK.cell;have FK:=hK.frozen
 have hne:some X≠(Value.slice a0 n0 k0).ownBlock:=fun e=>by have:=(Own.lt ho e.symm).1;omega
 go_enter Tryz.func135,Tryz.ntmps135
 go_wp2_with (first|(at_builtin;refine eD rfl (.tmp 8) (.tmp 9) 62 rfl 2 i0 _ 1 8 Tryz.underlying62 hi hz0 hz1 hz2 rfl dC B _ _ rfl ho ⟨b,0,none⟩ ys.length ys.length (ys.map (.int .i64)) rfl (by simp) (fun j u hu=>by rw[Jz,Nat.zero_add,hb.cell];simpa using hu) (ints_oneCell _ _) 1000000 (by simp;omega) (by unfold maxLen;omega) oM hB ?_;rotate_right;intro v1 wa hown1 hga hat;obtain⟨ta,tn,tc,rfl⟩:=hown1.sl.shape;have KA:=hK.grown hga hne;have CKA:=KA.cell;have FKA:=KA.frozen))
 refine bodyPost_end (by simp[results,Tryz.results135,go_sem];try rfl) rfl ?_
 refine⟨_,rfl,.slice ta tn tc,?_,?_,?_,fun W0 hW hs=>?_⟩
 .
  have:=KA.set_ 0 (.slice ta tn tc);simpa using this
 .
  have h9:Af B 2 1 wa (.slice ta tn tc) (xs++ys):=by simpa[Af] using hown1
  exact Af.keep h9 ((Chg.refl B wa).setLow hX _)
 .
  have:=hga.size;simp;omega
 exact Ext.setCell (Ext.own hW ho oM hga) hs _
theorem Ye(l:List Ft)(d:Ft):Dp (l++[d])=Dp l++[d.Key,d.Value]:=by simp[Dp,Ft.ints]
theorem kJ(w:World)(X B:Nat)(v:Value)(xs:List Int)(p:Int)(s:Value)(l:List Ft)(Wa:World)(hs:Aj 2 Wa s (Dp l))(hEa:Ext Wa w)(hWa:Wa.heap.size<=X)(hK:Blk w X 212 #[v,.int .i64 p])(ho:Af B 2 1 w v xs)(hX:X<B)(hl:xs.length+1+l.length*2<=100000)(hB:B<=w.heap.size):Calls Tryz.prog 243 #[.pointer (some ⟨X,0,none⟩),s] w (fun e w'=>∃r,e=.returned r/\∃v',Blk w' X 212 #[v',.int .i64 p]/\Af B 2 1 w' v' (xs++((l.length:Int)::Dp l))/\w.heap.size<=w'.heap.size/\∀W0:World,Ext W0 w->W0.heap.size<=X->Ext W0 w'):=by
 obtain⟨a,cap,rfl,hcap,hm,ha⟩:=hs.recs (f:=Ft.ints) (fun _=>rfl) dC
 have HA:=Lib.hid ha
 clear ha
 unfold maxLen at hm
 go_enter Tryz.func243,Tryz.ntmps243
 go_wp2_with fail
 refine(cQ _ X B v xs [(l.length:Int)] p w.heap.size (hK.alloc _) (Own.ext ho ((Ext.refl _).alloc _)) hX (Blk.new _ _ _) (by simp;omega) (by simp;omega)).mono ?_
 rintro e w1⟨r,rfl,v1,K1,o1,hz1,hx1⟩
 simp only[World.size_alloc] at hz1
 have hy1:∀W0:World,Ext W0 w->W0.heap.size<=X->Ext W0 w1:=fun W0 h1 h2=>hx1 W0 (h1.alloc _) h2
 clear hx1
 go_wp2_with fail
 go_loopw [13] (fun i wr=>∃k:Nat,k<=l.length/\i=.int .i64 k/\∃v2,Blk wr X 212 #[v2,.int .i64 p]/\Af B 2 1 wr v2 (xs++((l.length:Int)::Dp (l.take k)))/\w.heap.size<=wr.heap.size/\∀W0:World,Ext W0 w->W0.heap.size<=X->Ext W0 wr) (fun i _=>l.length - (intOf i).toNat)
 case atStart=>exact⟨0,Nat.zero_le _,rfl,v1,K1,by simpa[Dp] using o1,by omega,hy1⟩
 case round =>
  obtain⟨k,hk,rfl,v2,K2,o2,hz2,hy2⟩:=hrel
  by_cases hlt:k<l.length
  .
   obtain⟨d,b1,q1,hd,rfl,hb1,c⟩:=HA.out k hlt
   have hEw:Ext Wa wr:=hy2 Wa hEa hWa
   have d0:=hEw.cell (c 0 _ dC rfl)
   have d1:=hEw.cell (c 1 _ dC rfl)
   (try simp only[Nat.add_zero] at d0)
   have HD:=Lib.hid hd
   have HK:=Lib.hid K2;have HO:=Lib.hid o2
   have hlk:(Dp (l.take k)).length=k*2:=by rw[Iz,List.length_take];congr 1;omega
   clear hd c K2 o2
   go_wp2_with fail
   refine(cQ _ X B v2 _ [d.Key,d.Value] p (wr.heap.size+1) ((HK.out.alloc _).alloc _) (Own.ext HO.out (((Ext.refl _).alloc _).alloc _)) hX (Blk.new2 _ _ _ _) (by simp[hlk];omega) (by simp;omega)).mono ?_
   rintro e w3⟨r,rfl,v3,K3,o3,hz3,hx3⟩
   simp only[World.size_alloc] at hz3
   go_wp2_with fail
   go_roundw
   case rel=>exact⟨k+1,by omega,by go_num,v3,K3,by rw[Ic HD.out,Ye];simpa using o3,by omega,fun W0 h1 h2=>hx3 W0 (((hy2 W0 h1 h2).alloc _).alloc _) h2⟩
   case measure=>simp[intOf];omega
  obtain rfl:k=l.length:=by omega
  rw[List.take_length] at o2
  go_wp2_with fail
  refine bodyPost_end (by simp[results,Tryz.results243,go_sem];try rfl) rfl ?_
  exact⟨_,rfl,v2,K2,o2,hz2,hy2⟩
theorem Zt(l:List Hl)(d:Hl):Fj (l++[d])=Fj l++[d.Id,d.Due,d.Key,d.Value,d.Fired]:=by simp[Fj,Hl.ints]
theorem nI(w:World)(X B:Nat)(v:Value)(xs:List Int)(p:Int)(s:Value)(l:List Hl)(Wa:World)(hs:Aj 5 Wa s (Fj l))(hEa:Ext Wa w)(hWa:Wa.heap.size<=X)(hK:Blk w X 212 #[v,.int .i64 p])(ho:Af B 2 1 w v xs)(hX:X<B)(hl:xs.length+1+l.length*5<=100000)(hB:B<=w.heap.size):Calls Tryz.prog 244 #[.pointer (some ⟨X,0,none⟩),s] w (fun e w'=>∃r,e=.returned r/\∃v',Blk w' X 212 #[v',.int .i64 p]/\Af B 2 1 w' v' (xs++((l.length:Int)::Fj l))/\w.heap.size<=w'.heap.size/\∀W0:World,Ext W0 w->W0.heap.size<=X->Ext W0 w'):=by
 obtain⟨a,cap,rfl,hcap,hm,ha⟩:=hs.recs (f:=Hl.ints) (fun _=>rfl) dC
 have HA:=Lib.hid ha
 clear ha
 unfold maxLen at hm
 go_enter Tryz.func244,Tryz.ntmps244
 go_wp2_with fail
 refine(cQ _ X B v xs [(l.length:Int)] p w.heap.size (hK.alloc _) (Own.ext ho ((Ext.refl _).alloc _)) hX (Blk.new _ _ _) (by simp;omega) (by simp;omega)).mono ?_
 rintro e w1⟨r,rfl,v1,K1,o1,hz1,hx1⟩
 simp only[World.size_alloc] at hz1
 have hy1:∀W0:World,Ext W0 w->W0.heap.size<=X->Ext W0 w1:=fun W0 h1 h2=>hx1 W0 (h1.alloc _) h2
 clear hx1
 go_wp2_with fail
 go_loopw [13] (fun i wr=>∃k:Nat,k<=l.length/\i=.int .i64 k/\∃v2,Blk wr X 212 #[v2,.int .i64 p]/\Af B 2 1 wr v2 (xs++((l.length:Int)::Fj (l.take k)))/\w.heap.size<=wr.heap.size/\∀W0:World,Ext W0 w->W0.heap.size<=X->Ext W0 wr) (fun i _=>l.length - (intOf i).toNat)
 case atStart=>exact⟨0,Nat.zero_le _,rfl,v1,K1,by simpa[Fj] using o1,by omega,hy1⟩
 case round =>
  obtain⟨k,hk,rfl,v2,K2,o2,hz2,hy2⟩:=hrel
  by_cases hlt:k<l.length
  .
   obtain⟨d,b1,q1,hd,rfl,hb1,c⟩:=HA.out k hlt
   have hEw:Ext Wa wr:=hy2 Wa hEa hWa
   have d0:=hEw.cell (c 0 _ dC rfl)
   have d1:=hEw.cell (c 1 _ dC rfl)
   have d2:=hEw.cell (c 2 _ dC rfl)
   have d3:=hEw.cell (c 3 _ dC rfl)
   have d4:=hEw.cell (c 4 _ dC rfl)
   (try simp only[Nat.add_zero] at d0)
   have HD:=Lib.hid hd
   have HK:=Lib.hid K2;have HO:=Lib.hid o2
   have hlk:(Fj (l.take k)).length=k*5:=by rw[Kl,List.length_take];congr 1;omega
   clear hd c K2 o2
   go_wp2_with fail
   refine(cQ _ X B v2 _ [d.Id,d.Due,d.Key,d.Value,d.Fired] p (wr.heap.size+1) ((HK.out.alloc _).alloc _) (Own.ext HO.out (((Ext.refl _).alloc _).alloc _)) hX (Blk.new2 _ _ _ _) (by simp[hlk];omega) (by simp;omega)).mono ?_
   rintro e w3⟨r,rfl,v3,K3,o3,hz3,hx3⟩
   simp only[World.size_alloc] at hz3
   go_wp2_with fail
   go_roundw
   case rel=>exact⟨k+1,by omega,by go_num,v3,K3,by rw[Ic HD.out,Zt];simpa using o3,by omega,fun W0 h1 h2=>hx3 W0 (((hy2 W0 h1 h2).alloc _).alloc _) h2⟩
   case measure=>simp[intOf];omega
  obtain rfl:k=l.length:=by omega
  rw[List.take_length] at o2
  go_wp2_with fail
  refine bodyPost_end (by simp[results,Tryz.results244,go_sem];try rfl) rfl ?_
  exact⟨_,rfl,v2,K2,o2,hz2,hy2⟩
def Uh(s:Fl):List Int:=[s.Index,s.Time]++((s.Pairs.length:Int)::Dp s.Pairs)++((s.Jobs.length:Int)::Fj s.Jobs)++[s.Lease.Holder,s.Lease.Epoch,s.Lease.Until]
noncomputable def Eg(s:Fl):List Int:=if Gg s then Uh s else []
theorem Wj{s:Fl}(h:Gg s=true):s.Pairs.length<=10/\s.Jobs.length<=8:=by
 simp only[Gg,Bool.and_eq_true] at h
 obtain⟨_,_,hp,hj,_⟩:=h
 exact⟨Kr.len (gR.1 hp),(jW.1 hj).1⟩
theorem Zu(w:World)(s:Fl)(s2 s3:Value)(h2:Aj 2 w s2 (Dp s.Pairs))(h3:Aj 5 w s3 (Fj s.Jobs)):Calls Tryz.prog 134 #[.agg #[.int .i64 s.Index,.int .i64 s.Time,s2,s3,.int .i64 s.Lease.Holder,.int .i64 s.Lease.Epoch,.int .i64 s.Lease.Until]] w (Ret w fun r w'=>Af w.heap.size 2 1 w' r (Eg s)):=by
 obtain⟨a2,n2,k2,rfl⟩:=h2.shape
 obtain⟨a3,n3,k3,rfl⟩:=h3.shape
 have hE0:Ext w (w.alloc (.cells #[.int .i64 s.Index,.int .i64 s.Time,.slice a2 n2 k2,.slice a3 n3 k3,.int .i64 s.Lease.Holder,.int .i64 s.Lease.Epoch,.int .i64 s.Lease.Until] 86)):=(Ext.refl _).alloc _
 go_enter Tryz.func134,Tryz.ntmps134
 go_wp2_with fail
 refine(Xf _ s.Index s.Time _ s.Pairs _ s.Jobs s.Lease.Holder s.Lease.Epoch s.Lease.Until (h2.ext hE0) (h3.ext hE0)).mono ?_
 rintro e w1⟨rfl,hx1⟩
 have KP1:=(Blk.new w 86 #[.int .i64 s.Index,.int .i64 s.Time,.slice a2 n2 k2,.slice a3 n3 k3,.int .i64 s.Lease.Holder,.int .i64 s.Lease.Epoch,.int .i64 s.Lease.Until]).ext hx1
 have CP1:=KP1.cell
 have hE1:Ext w w1:=hE0.trans hx1
 have hz1:=hx1.size
 simp only[World.size_alloc] at hz1
 have hp1:w.heap.size<w1.heap.size:=by omega
 clear hx1
 cases hb:Gg s
 .
  go_wp2_with fail
  go_ret
  exact⟨_,rfl,hE1,by rw[show Eg s=[] by simp[Eg,hb]];exact Af.nil _ _ _ _⟩
 obtain⟨hl1,hl2⟩:=Wj hb
 have HBB:=Lib.hid hb
 clear hb
 go_wp2_with fail
 refine(cQ _ w1.heap.size (w1.heap.size+1) (.slice none 0 0) [] [s.Index,s.Time] 0 (w1.heap.size+1) ((Blk.new w1 _ _).alloc _) (Af.nil _ _ _ _) oM (Blk.new2 w1 _ _ _) (by simp) (by simp;try omega)).mono ?_
 rintro e w2⟨r2,rfl,v2,K2,o2,hz2,hy2⟩
 simp only[World.size_alloc] at hz2
 have E2:Ext w1 w2:=hy2 w1 (((Ext.refl w1).alloc _).alloc _) (Nat.le_refl _)
 clear hy2
 have CP2:=(KP1.ext E2).cell;have hp2:w.heap.size<w2.heap.size:=by omega
 have HK2:=Lib.hid K2;have HO2:=Lib.hid o2
 clear K2 o2 CP1
 go_wp2_with fail
 refine(kJ _ w1.heap.size (w1.heap.size+1) v2 _ 0 _ s.Pairs w1 (h2.ext hE1) E2 (Nat.le_refl _) HK2.out HO2.out oM (by simp;omega) oM).mono ?_
 rintro e w3⟨r3,rfl,v3,K3,o3,hz3,hy3⟩
 have E3:Ext w1 w3:=hy3 w1 E2 (Nat.le_refl _)
 clear hy3
 have CP3:=(KP1.ext E3).cell;have hp3:w.heap.size<w3.heap.size:=by omega
 have HK3:=Lib.hid K3;have HO3:=Lib.hid o3
 clear K3 o3 CP2
 go_wp2_with fail
 refine(nI _ w1.heap.size (w1.heap.size+1) v3 _ 0 _ s.Jobs w1 (h3.ext hE1) E3 (Nat.le_refl _) HK3.out HO3.out oM (by simp[Iz];omega) oM).mono ?_
 rintro e w4⟨r4,rfl,v4,K4,o4,hz4,hy4⟩
 have E4:Ext w1 w4:=hy4 w1 E3 (Nat.le_refl _)
 clear hy4
 have CP4:=(KP1.ext E4).cell;have hp4:w.heap.size<w4.heap.size:=by omega
 have HK4:=Lib.hid K4;have HO4:=Lib.hid o4
 clear K4 o4 CP3
 go_wp2_with fail
 refine(cQ _ w1.heap.size (w1.heap.size+1) v4 _ [s.Lease.Holder,s.Lease.Epoch,s.Lease.Until] 0 w4.heap.size (HK4.out.alloc _) (Own.ext HO4.out ((Ext.refl w4).alloc _)) oM (Blk.new w4 _ _) (by simp[Iz,Kl];omega) (by simp;omega)).mono ?_
 rintro e w5⟨r5,rfl,v5,K5,o5,hz5,hy5⟩
 have E5:Ext w1 w5:=hy5 w1 (E4.alloc _) (Nat.le_refl _)
 clear hy5
 have KX5:=K5.cell
 have HO5:=Lib.hid o5
 clear o5 CP4
 go_wp2_with fail
 go_ret
 refine⟨_,rfl,hE1.trans E5,?_⟩
 rw[show Eg s=((([]++[s.Index,s.Time])++((s.Pairs.length:Int)::Dp s.Pairs))++((s.Jobs.length:Int)::Fj s.Jobs))++[s.Lease.Holder,s.Lease.Epoch,s.Lease.Until] by simp[Eg,HBB.out,Uh]]
 exact Af.mono HO5.out oM
theorem Tc{P:Program}{w:World}{ops:Array Oper}{o:Oper}{a:Act}{K:Act->World->Prop}{Q:Exit->Act->World->Prop}{E:Prop}(hgd:o.guard=none)(s x:Operand)(t:TypeId)
  (ho:o.op=.call { callee:=.builtin .append,args:=#[s,x],argTypes:=#[t,t] })
  (e:TypeId) (i:TypeInfo) (z:Value) (size bytes:Nat) (ht:P.underlying t=some (.slice e)) (hi:P.info? e=some i) (hz:i.zero=some z)
  (hsize:i.size=size) (hby:i.bytes=bytes) (hzs:z.cells.size=size) (hsz:0<size)
  (B:Nat) (v:Value) (cs:List Value) (hs:a.eval s=v) (hown:Own B e size w v cs) (ad:Addr) (m c:Nat) (news:List Value) (hx:a.eval x=.slice (some ad) m c) (hl:news.length=m*size) (hnews:∀j u,news[j]?=some u->w.cell? (ad.add j)=some u) (h1:∀u ∈ news,u.oneCell'=true) (hm:0<m)
  (n:Nat) (hlen:cs.length+news.length<=n*size) (hn:n<=maxLen) (hbytes:n*bytes<=140737488355328) (hbase:B<=w.heap.size)
  (h:∀v' w',Own B e size w' v' (cs++news)->w.grownBy w' v.ownBlock->K (a.put o.dst v') w'):if Region.wanted o (yielded ops a.tmps)=true then Oper.wp P o a w K Q else E:=by
 obtain⟨len,ho'⟩:=hown
 have hl0:cs.length=len*size:=ho'.1
 have hle:len+m<=n:=by
  have:(len+m)*size<=n*size:=by rw[Nat.add_mul];omega
  exact Nat.le_of_mul_le_mul_right this hsz
 exact step_append_lies w hgd s x t ho B e i z size bytes ht hi hz hsize hby hzs hsz v len cs hs ho' ad m c news hx hl hnews h1 hm (Nat.le_trans hle hn) (Nat.le_trans (Nat.mul_le_mul_right _ hle) hbytes) hbase _ rfl (fun g cap w' h2 h3 _ _=>h _ w' ⟨_,h2⟩ h3)
theorem gY(w:World)(s:Value)(l:List Ft)(hs:Aj 2 w s (Dp l))(hok:Iu l=true)(hlen:l.length<=100):Calls Tryz.prog 329 #[s] w (Ret w fun r w'=>Af w.heap.size 2 1 w' r ((l.length:Int)::Dp l)):=by
 obtain⟨a,cap,rfl,hcap,hm,ha⟩:=hs.recs (f:=Ft.ints) (fun _=>rfl) dC
 have HA:=Lib.hid ha;have HOK:=Lib.hid hok
 clear ha hok
 unfold maxLen at hm
 obtain⟨i0,hi,hz0,hz1,hz2⟩:=info_parts Ec
 go_enter Tryz.func329,Tryz.ntmps329
 go_wp2_with fail
 refine(Sb _ _ _ hs).mono ?_
 rintro e w1⟨rfl,hx1⟩
 rw[HOK.out]
 have hown0:Af w.heap.size 2 1 (w1.alloc (.cells #[.int .i64 (l.length:Int)] 2)) (.slice (some ⟨w1.heap.size,0,none⟩) 1 1) ((l.length:Int)::Dp (l.take 0)):=by
  refine Own.of_blk (cap:=1) (Blk.new w1 _ _) hx1.size (by simp) (by simp[Dp]) (Nat.le_refl _) dC ?_
  intro j hj
  simp[Dp] at hj ⊢
 go_wp2_with fail
 go_loopw [3,4] (fun t i wr=>∃k:Nat,k<=l.length/\i=.int .i64 k/\Ext w wr/\Af w.heap.size 2 1 wr t ((l.length:Int)::Dp (l.take k))) (fun _ i _=>l.length - (intOf i).toNat)
 case atStart=>exact⟨0,Nat.zero_le _,rfl,hx1.alloc _,hown0⟩
 case round =>
  obtain⟨k,hk,rfl,he,hown⟩:=hrel
  obtain⟨ta,tn,tc,rfl⟩:=hown.shape
  have hsz:=he.size
  by_cases hlt:k<l.length
  .
   obtain⟨d,b1,q1,hd,rfl,hb1,c⟩:=HA.out k hlt
   have d0:=he.cell (c 0 _ dC rfl)
   have e0:=c 0 _ dC rfl
   have d1:=he.cell (c 1 _ dC rfl)
   have e1:=c 1 _ dC rfl
   (try simp only[Nat.add_zero] at d0 e0)
   have HD:=Lib.hid hd
   have HO:=Lib.hid hown
   have hlk:(Dp (l.take k)).length=k*2:=by rw[Iz,List.length_take];congr 1;omega
   clear hd c hown
   go_wp2_with fail
   go_region_held3 (fun w'=>w'.cell? ⟨b1,q1+k*2,none⟩=some (.int .i64 d.Key)/\w'.cell? ⟨b1,q1+k*2+1,none⟩=some (.int .i64 d.Value)) (first|(refine⟨Ext.cell (w:=w) ?_ e0,Ext.cell (w:=w) ?_ e1⟩ <;> (exact xT);done)) (first|(refine Tc rfl (.tmp 18) (.tmp 29) 62 rfl 2 i0 _ 1 8 Tryz.underlying62 hi hz0 hz1 hz2 rfl dC w.heap.size (.slice ta tn tc) _ rfl (Own.ext HO.out xT) ⟨wr.heap.size,0,none⟩ 2 2 ([d.Key,d.Value].map (.int .i64)) rfl (by simp) (fun j u hu=>by rw[Jz,Nat.zero_add,((Blk.new wr _ _).drew).cell];simpa using hu) (ints_oneCell _ _) oM 1000 (by simp[hlk];omega) (by unfold maxLen;omega) oM (by simp;omega) ?_;intro v3 wa hown1 hga;have hxa:Ext w wa:=Ext.own (v:=.slice ta tn tc) (he.trans xT) (Own.ext HO.out xT) (Nat.le_refl _) hga))
   all_goals
    have hown3:Af w.heap.size 2 1 wa v3 (((l.length:Int)::Dp (l.take k))++[d.Key,d.Value]):=by simpa[Af] using hown1
    go_wp2_with fail
    go_roundw
    case rel=>exact⟨k+1,by omega,by go_num,hxa,by rw[Ic HD.out,Ye];simpa using hown3⟩
    case measure=>simp[intOf];omega
  obtain rfl:k=l.length:=by omega
  rw[List.take_length] at hown
  go_wp2_with fail
  go_ret
  exact⟨_,rfl,he,hown⟩
theorem eG(w:World)(s:Value)(l:List Hl)(hs:Aj 5 w s (Fj l))(hok:Kd l=true)(hlen:l.length<=100):Calls Tryz.prog 330 #[s] w (Ret w fun r w'=>Af w.heap.size 2 1 w' r ((l.length:Int)::Fj l)):=by
 obtain⟨a,cap,rfl,hcap,hm,ha⟩:=hs.recs (f:=Hl.ints) (fun _=>rfl) dC
 have HA:=Lib.hid ha;have HOK:=Lib.hid hok
 clear ha hok
 unfold maxLen at hm
 obtain⟨i0,hi,hz0,hz1,hz2⟩:=info_parts Ec
 go_enter Tryz.func330,Tryz.ntmps330
 go_wp2_with fail
 refine(Ue _ _ _ hs).mono ?_
 rintro e w1⟨rfl,hx1⟩
 rw[HOK.out]
 have hown0:Af w.heap.size 2 1 (w1.alloc (.cells #[.int .i64 (l.length:Int)] 2)) (.slice (some ⟨w1.heap.size,0,none⟩) 1 1) ((l.length:Int)::Fj (l.take 0)):=by
  refine Own.of_blk (cap:=1) (Blk.new w1 _ _) hx1.size (by simp) (by simp[Fj]) (Nat.le_refl _) dC ?_
  intro j hj
  simp[Fj] at hj ⊢
 go_wp2_with fail
 go_loopw [3,4] (fun t i wr=>∃k:Nat,k<=l.length/\i=.int .i64 k/\Ext w wr/\Af w.heap.size 2 1 wr t ((l.length:Int)::Fj (l.take k))) (fun _ i _=>l.length - (intOf i).toNat)
 case atStart=>exact⟨0,Nat.zero_le _,rfl,hx1.alloc _,hown0⟩
 case round =>
  obtain⟨k,hk,rfl,he,hown⟩:=hrel
  obtain⟨ta,tn,tc,rfl⟩:=hown.shape
  have hsz:=he.size
  by_cases hlt:k<l.length
  .
   obtain⟨d,b1,q1,hd,rfl,hb1,c⟩:=HA.out k hlt
   have d0:=he.cell (c 0 _ dC rfl)
   have e0:=c 0 _ dC rfl
   have d1:=he.cell (c 1 _ dC rfl)
   have e1:=c 1 _ dC rfl
   have d2:=he.cell (c 2 _ dC rfl)
   have e2:=c 2 _ dC rfl
   have d3:=he.cell (c 3 _ dC rfl)
   have e3:=c 3 _ dC rfl
   have d4:=he.cell (c 4 _ dC rfl)
   have e4:=c 4 _ dC rfl
   (try simp only[Nat.add_zero] at d0 e0)
   have HD:=Lib.hid hd
   have HO:=Lib.hid hown
   have hlk:(Fj (l.take k)).length=k*5:=by rw[Kl,List.length_take];congr 1;omega
   clear hd c hown
   go_wp2_with fail
   go_region_held3 (fun w'=>w'.cell? ⟨b1,q1+k*5,none⟩=some (.int .i64 d.Id)/\w'.cell? ⟨b1,q1+k*5+1,none⟩=some (.int .i64 d.Due)/\w'.cell? ⟨b1,q1+k*5+2,none⟩=some (.int .i64 d.Key)/\w'.cell? ⟨b1,q1+k*5+3,none⟩=some (.int .i64 d.Value)/\w'.cell? ⟨b1,q1+k*5+4,none⟩=some (.int .i64 d.Fired)) (first|(refine⟨Ext.cell (w:=w) ?_ e0,Ext.cell (w:=w) ?_ e1,Ext.cell (w:=w) ?_ e2,Ext.cell (w:=w) ?_ e3,Ext.cell (w:=w) ?_ e4⟩ <;> (exact xT);done)) (first|(refine Tc rfl (.tmp 18) (.tmp 44) 62 rfl 2 i0 _ 1 8 Tryz.underlying62 hi hz0 hz1 hz2 rfl dC w.heap.size (.slice ta tn tc) _ rfl (Own.ext HO.out xT) ⟨wr.heap.size,0,none⟩ 5 5 ([d.Id,d.Due,d.Key,d.Value,d.Fired].map (.int .i64)) rfl (by simp) (fun j u hu=>by rw[Jz,Nat.zero_add,((Blk.new wr _ _).drew).cell];simpa using hu) (ints_oneCell _ _) oM 1000 (by simp[hlk];omega) (by unfold maxLen;omega) oM (by simp;omega) ?_;intro v3 wa hown1 hga;have hxa:Ext w wa:=Ext.own (v:=.slice ta tn tc) (he.trans xT) (Own.ext HO.out xT) (Nat.le_refl _) hga))
   all_goals
    have hown3:Af w.heap.size 2 1 wa v3 (((l.length:Int)::Fj (l.take k))++[d.Id,d.Due,d.Key,d.Value,d.Fired]):=by simpa[Af] using hown1
    go_wp2_with fail
    go_roundw
    case rel=>exact⟨k+1,by omega,by go_num,hxa,by rw[Ic HD.out,Zt];simpa using hown3⟩
    case measure=>simp[intOf];omega
  obtain rfl:k=l.length:=by omega
  rw[List.take_length] at hown
  go_wp2_with fail
  go_ret
  exact⟨_,rfl,he,hown⟩
end Go.Proofs.YtkpmbocbbgocbaaGreat
