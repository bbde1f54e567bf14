/- Sum Num Num2 Q11a. -/
import Derived.Test.YtkpmbocbbgocbaaGreatGa
import Derived.Test.YtkpmbocbbgocbaaGreatGe
import Derived.Test.YtkpmbocbbgocbaaGreatGd
set_option linter.unusedSimpArgs false
set_option linter.unusedVariables false
set_option maxHeartbeats 8000000
set_option maxRecDepth 100000
namespace Go.G8
open Go.RowKit
def sumStep (s x:Int):Int:=(131 * s+x+1) % 999999937
def sumOf (l:List Int):Int:=l.foldl sumStep 7
def withSum (l:List Int):List Int:=if rowOk l && decide (l.length<48) then l ++ [sumOf l] else []
theorem sumStep_low {s x:Int} (hs:0≤s) (hx:0≤x):0≤sumStep s x∧sumStep s x<999999937:=by
 unfold sumStep
 exact⟨Int.emod_nonneg _ dC,Int.emod_lt_of_pos _ dC⟩
theorem rowOk_len {l:List Int} (h:rowOk l=true):l.length≤48∧∀ x,x ∈ l→0≤x∧x≤1000000000:=by
 simp only [rowOk,Bool.and_eq_true,decide_eq_true_eq,List.all_eq_true] at h
 exact⟨h.1,fun x hx=>inb_true.1 (h.2 x hx)⟩
theorem sumOf_take {l:List Int} {k:Nat} {x:Int} (h:l[k]?=some x):sumOf (l.take (k+1))=sumStep (sumOf (l.take k)) x:=by
 unfold sumOf
 rw [List.take_add_one,h,List.foldl_append];rfl
end Go.G8
namespace Go.Proofs.YtkpmbocbbgocbaaGreat
open Go.RowKit Go.G8
theorem checksum_c (w:World) (s0_0:Value) (l0_0:List Int) (h0_0:Ints 1 w s0_0 l0_0) (hr:rowOk l0_0=true) :
  Calls Tryz.prog 58 #[s0_0] w (RetV w (.int .i64 (sumOf l0_0))):=by
 obtain⟨a,cap,rfl,hcap,hm,ha⟩:=h0_0.one
 obtain⟨hl,hx⟩:=rowOk_len hr
 have HA:=Lib.hid ha;have HX:=Lib.hid hx
 clear ha hx hr
 unfold maxLen at hm
 go_enter Tryz.func58,Tryz.ntmps58
 go_wp2_with fail
 go_loopw [3,8] (fun s i wr=>∃ k:Nat,k≤l0_0.length∧i=.int .i64 k∧Ext w wr∧∃ z:Int,s=.int .i64 z∧0≤z∧z<999999937∧Hid (z=sumOf (l0_0.take k))) (fun _ i _=>l0_0.length - (intOf i).toNat)
 case atStart=>exact⟨0,Nat.zero_le _,rfl,Ext.refl _,7,rfl,by omega,by omega,Lib.hid rfl⟩
 case round =>
  obtain⟨k,hk,rfl,he,z,rfl,hz0,hz1,hz⟩:=hrel
  by_cases hlt:k<l0_0.length
  ·
   obtain⟨x,b1,o1,hx,rfl,_,c⟩:=HA.out k hlt
   have d0:=he.cell c
   obtain⟨hx0,hx1⟩:=HX.out x (List.mem_of_getElem? hx)
   have HD:=Lib.hid hx
   clear hx c
   obtain⟨ht0,ht1⟩:=sumStep_low hz0 hx0
   unfold sumStep at ht0 ht1
   go_wp2
   go_roundw
   case rel=>exact⟨k+1,by omega,by go_num,he,_,rfl,ht0,ht1,Lib.hid (by rw [sumOf_take HD.out,← hz.out];rfl)⟩
   case measure=>simp [intOf];omega
  obtain rfl:k=l0_0.length:=by omega
  go_wp2
  go_ret
  have hz':=hz.out
  rw [List.take_length] at hz'
  exact⟨congrArg (fun q:Int=>Ending.returned (Value.int .i64 q)) hz',he⟩
theorem sSumOf_c (w:World) (s0_0:Value) (l0_0:List Int) (h0_0:Ints 1 w s0_0 l0_0) (hr:rowOk l0_0=true) :
  Calls Tryz.prog 423 #[s0_0] w (RetV w (.int .i64 (sumOf l0_0))):=by
 obtain⟨a,cap,rfl,hcap,hm,ha⟩:=h0_0.one
 obtain⟨hl,hx⟩:=rowOk_len hr
 have HA:=Lib.hid ha;have HX:=Lib.hid hx;have HRO:=Lib.hid hr
 clear ha hx hr
 unfold maxLen at hm
 go_enter Tryz.func423,Tryz.ntmps423
 go_wp2_with fail
 refine (sRowOk_c _ _ _ h0_0).mono ?_
 rintro e w1 ⟨rfl,hx1⟩
 rw [HRO.out]
 go_wp2_with fail
 go_loopw [3,4] (fun s i wr=>∃ k:Nat,k≤l0_0.length∧i=.int .i64 k∧Ext w wr∧∃ z:Int,s=.int .i64 z∧0≤z∧z<999999937∧Hid (z=sumOf (l0_0.take k))) (fun _ i _=>l0_0.length - (intOf i).toNat)
 case atStart=>exact⟨0,Nat.zero_le _,rfl,hx1,7,rfl,by omega,by omega,Lib.hid rfl⟩
 case round =>
  obtain⟨k,hk,rfl,he,z,rfl,hz0,hz1,hz⟩:=hrel
  by_cases hlt:k<l0_0.length
  ·
   obtain⟨x,b1,o1,hx,rfl,_,c⟩:=HA.out k hlt
   have d0:=he.cell c
   obtain⟨hx0,hx2⟩:=HX.out x (List.mem_of_getElem? hx)
   have HD:=Lib.hid hx
   clear hx c
   obtain⟨ht0,ht1⟩:=sumStep_low hz0 hx0
   unfold sumStep at ht0 ht1
   go_wp2
   go_roundw
   case rel=>exact⟨k+1,by omega,by go_num,he,_,rfl,ht0,ht1,Lib.hid (by rw [sumOf_take HD.out,← hz.out];rfl)⟩
   case measure=>simp [intOf];omega
  obtain rfl:k=l0_0.length:=by omega
  go_wp2
  go_ret
  have hz':=hz.out
  rw [List.take_length] at hz'
  exact⟨congrArg (fun q:Int=>Ending.returned (Value.int .i64 q)) hz',he⟩
theorem sWithSum_c (w:World) (s0_0:Value) (l0_0:List Int) (h0_0:Ints 1 w s0_0 l0_0) :
  Calls Tryz.prog 404 #[s0_0] w (Ret w fun r0 w'=>OwnI w.heap.size 2 1 w' r0 (withSum l0_0)):=by
 obtain⟨a,cap,rfl,hcap,hm,_⟩:=h0_0.one
 unfold maxLen at hm
 obtain⟨i0,hi,hz0,hz1,hz2⟩:=info_parts info_Int64
 go_enter Tryz.func404,Tryz.ntmps404
 go_wp2_with fail
 refine (sRowOk_c _ _ _ h0_0).mono ?_
 rintro e w1 ⟨rfl,hx1⟩
 cases hro:rowOk l0_0
 ·
  have HRO:=Lib.hid hro
  have HL:Hid True:=Lib.hid trivial
  go_wp2_with fail
  go_ret
  refine⟨_,rfl,?_,?_⟩
  ·
   exact xT
  rw [show withSum l0_0=[] by simp [withSum,HRO.out,HL.out]]
  exact OwnI.mono (show OwnI w1.heap.size 2 1 (w1.alloc (.cells #[] 2)) (.slice (some ⟨w1.heap.size,0,none⟩) 0 0) [] from Own.fresh w1 2 1) hx1.size
 have hle:=(rowOk_len hro).1
 have HRO:=Lib.hid hro
 clear hro
 by_cases h48:l0_0.length<48
 rotate_left
 ·
  have h8:l0_0.length=48:=by omega
  have HL:Hid (¬ l0_0.length<48):=Lib.hid h48
  have h9:((l0_0.length:Nat):Int)=48:=by omega
  have h10:decide (48≤l0_0.length)=true:=by simp;omega
  clear h48
  go_wp2_with fail
  go_ret
  refine⟨_,rfl,?_,?_⟩
  ·
   exact xT
  rw [show withSum l0_0=[] by simp [withSum,HRO.out,HL.out]]
  exact OwnI.mono (show OwnI w1.heap.size 2 1 (w1.alloc (.cells #[] 2)) (.slice (some ⟨w1.heap.size,0,none⟩) 0 0) [] from Own.fresh w1 2 1) hx1.size
 have h9:decide (((l0_0.length:Nat):Int)=48)=false:=by simp;omega
 have h10:decide (48≤l0_0.length)=false:=by simp;omega
 have HL:=Lib.hid h48
 go_wp2_with (first|(go_at_call 422;refine (l1Copy_c _ _ _ (h0_0.ext hx1) oM).mono ?_;rintro e w2 ⟨_,rfl,hx2,g2⟩;obtain⟨ta,tn,tc,rfl⟩:=g2.shape;have hz2':=hx2.size)|(go_at_call 423;refine (sSumOf_c _ _ _ ((h0_0.ext hx1).ext hx2) HRO.out).mono ?_;rintro e w3 ⟨rfl,hx3⟩;have hz3':=hx3.size)|(at_builtin;refine wp_append rfl (.tmp 13) (.tmp 16) 62 rfl 2 i0 _ 1 8 Tryz.underlying62 hi hz0 hz1 hz2 rfl dC w1.heap.size _ _ rfl (Own.ext (Own.ext g2 hx3) ((Ext.refl w3).alloc _)) _ ([sumOf l0_0].map (.int .i64)) rfl (Sl.one w3 #[.int .i64 (sumOf l0_0)] _ 1 rfl) (ints_oneCell _ _) 100 (by simp;omega) (by unfold maxLen;omega) oM (by simp;omega) w1 ((hx2.trans hx3).alloc _) (Nat.le_refl _) ?_;rotate_right;intro v1 wa hown1 hea _))
 go_ret
 refine⟨_,rfl,hx1.trans hea,?_⟩
 rw [show withSum l0_0=l0_0 ++ [sumOf l0_0] by simp [withSum,HRO.out,HL.out]]
 refine OwnI.mono (B:=w1.heap.size) ?_ hx1.size
 simpa [OwnI] using hown1
theorem withSum_c (w:World) (s0_0:Value) (l0_0:List Int) (h0_0:Ints 1 w s0_0 l0_0) :
  Calls Tryz.prog 399 #[s0_0] w (Ret w fun r0 w'=>OwnI w.heap.size 2 1 w' r0 (withSum l0_0)):=by
 obtain⟨a,cap,rfl,hcap,hm,_⟩:=h0_0.one
 unfold maxLen at hm
 obtain⟨i0,hi,hz0,hz1,hz2⟩:=info_parts info_Int64
 go_enter Tryz.func399,Tryz.ntmps399
 go_wp2_with fail
 refine (rowOk_c _ _ _ h0_0).mono ?_
 rintro e w1 ⟨rfl,hx1⟩
 cases hro:rowOk l0_0
 ·
  have HRO:=Lib.hid hro
  have HL:Hid True:=Lib.hid trivial
  go_wp2_with fail
  go_ret
  refine⟨_,rfl,?_,?_⟩
  ·
   exact xT
  rw [show withSum l0_0=[] by simp [withSum,HRO.out,HL.out]]
  exact OwnI.nil _ _ _ _
 have hle:=(rowOk_len hro).1
 have HRO:=Lib.hid hro
 clear hro
 by_cases h48:l0_0.length<48
 rotate_left
 ·
  have h8:l0_0.length=48:=by omega
  have HL:Hid (¬ l0_0.length<48):=Lib.hid h48
  have h9:((l0_0.length:Nat):Int)=48:=by omega
  have h10:decide (48≤l0_0.length)=true:=by simp;omega
  clear h48
  go_wp2_with fail
  go_ret
  refine⟨_,rfl,?_,?_⟩
  ·
   exact xT
  rw [show withSum l0_0=[] by simp [withSum,HRO.out,HL.out]]
  exact OwnI.nil _ _ _ _
 have h9:decide (((l0_0.length:Nat):Int)=48)=false:=by simp;omega
 have h10:decide (48≤l0_0.length)=false:=by simp;omega
 have HL:=Lib.hid h48
 go_wp2_with (first|(go_at_call 420;refine (copyRow_c _ _ _ (h0_0.ext hx1) oM).mono ?_;rintro e w2 ⟨_,rfl,hx2,g2⟩;obtain⟨ta,tn,tc,rfl⟩:=g2.shape;have hz2':=hx2.size)|(go_at_call 58;refine (checksum_c _ _ _ ((h0_0.ext hx1).ext hx2) HRO.out).mono ?_;rintro e w3 ⟨rfl,hx3⟩;have hz3':=hx3.size)|(at_builtin;refine wp_append rfl (.tmp 12) (.tmp 15) 62 rfl 2 i0 _ 1 8 Tryz.underlying62 hi hz0 hz1 hz2 rfl dC w1.heap.size _ _ rfl (Own.ext (Own.ext g2 hx3) ((Ext.refl w3).alloc _)) _ ([sumOf l0_0].map (.int .i64)) rfl (Sl.one w3 #[.int .i64 (sumOf l0_0)] _ 1 rfl) (ints_oneCell _ _) 100 (by simp;omega) (by unfold maxLen;omega) oM (by simp;omega) w1 ((hx2.trans hx3).alloc _) (Nat.le_refl _) ?_;rotate_right;intro v1 wa hown1 hea _))
 go_ret
 refine⟨_,rfl,hx1.trans hea,?_⟩
 rw [show withSum l0_0=l0_0 ++ [sumOf l0_0] by simp [withSum,HRO.out,HL.out]]
 refine OwnI.mono (B:=w1.heap.size) ?_ hx1.size
 simpa [OwnI] using hown1
end Go.Proofs.YtkpmbocbbgocbaaGreat
