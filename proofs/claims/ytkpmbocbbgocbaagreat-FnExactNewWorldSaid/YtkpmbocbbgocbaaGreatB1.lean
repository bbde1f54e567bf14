/- HelpM KM V2 V3 V4a V4b V4c V4 V5 V6 V7 V12 V13 V8 V9 V10 V11 V14 KSc. -/
import Derived.Test.YtkpmbocbbgocbaaGreatGb
import Derived.Test.YtkpmbocbbgocbaaGreatGe
import Derived.Test.YtkpmbocbbgocbaaGreatGa
import Derived.Test.YtkpmbocbbgocbaaGreatGw
set_option linter.unusedSimpArgs false
set_option linter.unusedVariables false
set_option maxHeartbeats 8000000
set_option maxRecDepth 100000
namespace Go.Proofs.YtkpmbocbbgocbaaGreat
open Go.RowKit Go.G8
theorem eqMsgS_c (w:World) (va vb:Value) (rows:List NRow) (ha:Nest 2 w va rows) (hb:Nest 2 w vb rows) :
  Calls Tryz.prog 150 #[va,vb] w (RetV w (.bool true)):=by
 have hwid:=ha.1
 obtain⟨a,ca,rfl,hca,hm,ha'⟩:=ha.open_
 obtain⟨b,cb,rfl,_,_,hb'⟩:=hb.open_
 have HA:=Lib.hid ha';have HB:=Lib.hid hb';have HW:=Lib.hid hwid
 clear ha' hb' ha hb hwid
 unfold maxLen at hm
 go_enter Tryz.func150,Tryz.ntmps150
 go_wp2
 go_loopw [5] (fun i wr=>∃ k:Nat,k≤rows.length∧i=.int .i64 k∧Ext w wr) (fun i _=>rows.length - (intOf i).toNat)
 case atStart=>exact⟨0,Nat.zero_le _,rfl,Ext.refl _⟩
 case round =>
  obtain⟨k,hk,rfl,he⟩:=hrel
  by_cases hlt:k<rows.length
  ·
   obtain⟨r,b1,o1,s,hr,rfl,_,hci,hcs,hin0⟩:=HA.out k hlt
   obtain⟨r2,b2,o2,t,hr2,rfl,_,hci2,hcs2,hin2⟩:=HB.out k hlt
   obtain rfl:r=r2:=by rw [hr] at hr2;exact Option.some.inj hr2
   have hrw:=HW.out r (List.mem_of_getElem? hr)
   obtain⟨x0,hx0⟩:∃ u,r.1[0]?=some u:=⟨_,List.getElem?_eq_getElem (by rw [hrw];decide)⟩
   have d0:=he.cell (hci 0 _ hx0)
   obtain⟨x1,hx1⟩:∃ u,r.1[1]?=some u:=⟨_,List.getElem?_eq_getElem (by rw [hrw];decide)⟩
   have d1:=he.cell (hci 1 _ hx1)
   have d2:=he.cell hcs
   simp only [Nat.add_zero,Nat.reduceAdd] at d0 d1 d2
   have d02:=he.cell (hci2 0 _ hx0)
   have d12:=he.cell (hci2 1 _ hx1)
   have d22:=he.cell hcs2
   simp only [Nat.add_zero,Nat.reduceAdd] at d02 d12 d22
   have g1:=hin0.ext he;have g2:=hin2.ext he
   obtain⟨sa,sn,sc,rfl⟩:=g1.shape;obtain⟨ta,tn,tc,rfl⟩:=g2.shape
   clear hci hcs hci2 hcs2 hrw hr hr2 hin0 hin2 hx0 hx1
   go_wp2
   go_region_held3 (fun w'=>Ext wr w'∧w'.cell? ⟨b1,o1+k * 3,none⟩=some (.int .i64 x0)∧w'.cell? ⟨b1,o1+k * 3+1,none⟩=some (.int .i64 x1)∧w'.cell? ⟨b1,o1+k * 3+2,none⟩=some (.slice sa sn sc)∧w'.cell? ⟨b2,o2+k * 3,none⟩=some (.int .i64 x0)∧w'.cell? ⟨b2,o2+k * 3+1,none⟩=some (.int .i64 x1)∧w'.cell? ⟨b2,o2+k * 3+2,none⟩=some (.slice ta tn tc)) (first|exact⟨Ext.drew (Ext.refl _),d0,d1,d2,d02,d12,d22⟩|exact held_of (S:=fun w'=>Ext wr w'∧w'.cell? ⟨b1,o1+k * 3,none⟩=some (.int .i64 x0)∧w'.cell? ⟨b1,o1+k * 3+1,none⟩=some (.int .i64 x1)∧w'.cell? ⟨b1,o1+k * 3+2,none⟩=some (.slice sa sn sc)∧w'.cell? ⟨b2,o2+k * 3,none⟩=some (.int .i64 x0)∧w'.cell? ⟨b2,o2+k * 3+1,none⟩=some (.int .i64 x1)∧w'.cell? ⟨b2,o2+k * 3+2,none⟩=some (.slice ta tn tc)) (by assumption) hx (fun a b h x=>⟨h.1.trans x,(h.1.trans x).cell d0,(h.1.trans x).cell d1,(h.1.trans x).cell d2,(h.1.trans x).cell d02,(h.1.trans x).cell d12,(h.1.trans x).cell d22⟩)) ((go_at_call 256;refine (eqMsg_c _ _ _ _ _ r.2 (g1.ext (And.left ‹_›)) (g2.ext (And.left ‹_›))).mono ?_;rintro e w' ⟨rfl,hx⟩))
   go_wp2
   go_roundw
   case rel=>exact⟨k+1,by omega,by go_num,he.trans (And.left ‹_›)⟩
   case measure=>simp [intOf];omega
  go_wp2
  go_ret
  exact⟨rfl,he⟩
theorem heldMsgS_c (w:World) (v:Value) (rows:List NRow) (q:Int) (h:Nest 2 w v (marks 2 q rows)) (h0:0≤q) (h1:q+(tot 2 rows:Nat)≤4611686018427387904) :
  Calls Tryz.prog 198 #[v,.int .i64 q] w (RetV w (.int .i64 (q+(tot 2 rows:Nat)))):=by
 obtain⟨a,ca,rfl,hca,hm,ha⟩:=h.open_
 rw [length_marks] at hca ha ⊢
 have HA:=Lib.hid ha
 clear ha h
 unfold maxLen at hm
 go_enter Tryz.func198,Tryz.ntmps198
 go_wp2
 go_loopw [1,5] (fun kk i wr=>∃ k:Nat,k≤rows.length∧i=.int .i64 k∧(∃ q':Int,q'=q+(tot 2 (rows.take k):Nat)∧kk=.int .i64 q')∧Ext w wr) (fun _ i _=>rows.length - (intOf i).toNat)
 case atStart=>exact⟨0,Nat.zero_le _,rfl,⟨q,by simp [tot],rfl⟩,Ext.refl _⟩
 case round =>
  obtain⟨k,hk,rfl,⟨q',hq',rfl⟩,he⟩:=hrel
  by_cases hlt:k<rows.length
  ·
   obtain⟨r0,b1,o1,s,hr0,rfl,_,hci,hcs,hin0⟩:=HA.out k hlt
   have hr:rows[k]?=some rows[k]:=List.getElem?_eq_getElem hlt
   obtain⟨L,hLr⟩:∃ L,L=(rows[k]).2.length:=⟨_,rfl⟩
   have hm0:=marks_get (n:=2) (q:=q) hr
   rw [← hq',← hLr] at hm0
   obtain rfl:r0=(run q' 2,run (q'+(2:Nat)) L):=by rw [hr0] at hm0;exact Option.some.inj hm0
   have ht1:=tot_take (n:=2) hr
   have ht2:=tot_le (n:=2) rows (k+1)
   rw [← hLr] at ht1
   have HQ:=Lib.hid hq';have HT:=Lib.hid ht1
   have hq0:0≤q'∧q'+2+L≤4611686018427387904:=by omega
   obtain⟨hq1,hq2⟩:=hq0
   have hx0:(run q' 2)[0]?=some (q'+0):=by rw [run_get _ _ _ oM];rfl
   have d0:=he.cell (hci 0 _ hx0)
   have hx1:(run q' 2)[1]?=some (q'+1):=by rw [run_get _ _ _ oM];rfl
   have d1:=he.cell (hci 1 _ hx1)
   have d2:=he.cell hcs
   simp only [Nat.add_zero,Nat.reduceAdd,Int.add_zero] at d0 d1 d2
   have hin:Ints 1 wr s (run (q'+1+1) L):=by
    have h9:=hin0.ext he
    rw [show q'+1+1=q'+(2:Nat) from by omega]
    exact h9
   have hw1:IntKind.i64.wrap (q'+1)=q'+1:=by rw [IntKind.wrap_i64] <;> omega
   have hw2:IntKind.i64.wrap (q'+1+1)=q'+1+1:=by rw [IntKind.wrap_i64] <;> omega
   obtain⟨sa,sn,sc,rfl⟩:=hin.shape
   clear hci hcs hr0 hm0 hin0 hq' ht1 ht2 hLr hr hx0 hx1
   have hneg:decide (q'+1+1+(L:Int)<0)=false:=by simp;omega
   go_wp2_with (first|(go_at_call 20;refine (heldInt64S_c _ _ L (q'+1+1) (hin.ext xT) oM oM).mono ?_;rintro e w1 ⟨rfl,hx⟩))
   go_roundw
   case rel =>
    have h3:=HT.out;have h4:=HQ.out
    exact⟨k+1,by omega,by go_num,⟨_,by omega,rfl⟩,he.trans xT⟩
   case measure=>simp [intOf];omega
  obtain rfl:k=rows.length:=by omega
  have HQ:=Lib.hid hq'
  clear hq'
  go_wp2
  go_ret
  have h4:=HQ.out
  rw [List.take_length] at h4
  exact⟨congrArg (fun z=>Ending.returned (.int .i64 z)) h4,he⟩
theorem markMsgS_c (w:World) (B:Nat) (v:Value) (rows:List NRow) (ss:List Value) (q:Int) (h:OwnNs B 255 2 2 w v rows ss) (h0:0≤q) (h1:q+(tot 2 rows:Nat)≤4611686018427387904) :
  Calls Tryz.prog 161 #[v,.int .i64 q] w (RetM w (feet (v :: ss)) (.int .i64 (q+(tot 2 rows:Nat))) fun w'=>OwnNs B 255 2 2 w' v (marks 2 q rows) ss):=by
 obtain⟨a,len,ca,rfl,hlen,hca,hm⟩:∃ a len ca,v=.slice a len ca∧rows.length=len∧len≤ca∧ca≤maxLen:=by
  obtain⟨a,len,cap,h2,h3,h4,h5,_⟩:=Own.open_ h.2.2.1
  rw [ncells_len h.1 h.2.1] at h3
  exact⟨a,len,cap,h2,Nat.eq_of_mul_eq_mul_right oM h3,h4,h5⟩
 subst hlen
 have hssl:=h.2.1
 have HO:=Lib.hid h
 clear h
 unfold maxLen at hm
 go_enter Tryz.func161,Tryz.ntmps161
 go_wp2
 go_loopw [1,5] (fun kk i wr=>∃ k:Nat,k≤rows.length∧i=.int .i64 k∧(∃ q':Int,q'=q+(tot 2 (rows.take k):Nat)∧kk=.int .i64 q')∧Upd w wr (feet (.slice a rows.length ca :: ss))∧OwnNs B 255 2 2 wr (.slice a rows.length ca) ((marks 2 q rows).take k ++ rows.drop k) ss) (fun _ i _=>rows.length - (intOf i).toNat)
 case atStart=>exact⟨0,Nat.zero_le _,rfl,⟨q,by simp [tot],rfl⟩,Upd.refl _ _,by simpa using HO.out⟩
 case round =>
  obtain⟨k,hk,rfl,⟨q',hq',rfl⟩,he,hown⟩:=hrel
  by_cases hlt:k<rows.length
  ·
   have hr:rows[k]?=some rows[k]:=List.getElem?_eq_getElem hlt
   have hml:=length_marks 2 q rows
   have hmx:=mix_get hml hr
   obtain⟨s,hs⟩:∃ s,ss[k]?=some s:=⟨_,List.getElem?_eq_getElem oM⟩
   obtain⟨L,hLr⟩:∃ L,L=(rows[k]).2.length:=⟨_,rfl⟩
   have hm0:=marks_get (n:=2) (q:=q) hr
   rw [← hq',← hLr] at hm0
   have hstep:=mix_step hml hm0
   have ht1:=tot_take (n:=2) hr
   have ht2:=tot_le (n:=2) rows (k+1)
   rw [← hLr] at ht1
   have hq0:0≤q'∧q'+2+L≤4611686018427387904:=by omega
   obtain⟨hq1,hq2⟩:=hq0
   have hsown:OwnI B 2 1 wr s (rows[k]).2:=hown.2.2.2.own k s _ hs hmx
   obtain⟨sa,sn,sc,rfl⟩:=hsown.shape
   obtain⟨a',len',cap',hv,hcl,hc1,hc2,hcase⟩:=Own.open_ hown.2.2.1
   injection hv with hv1 hv2 hv3
   subst hv1;subst hv2;subst hv3
   have hnl:=ncells_len hown.1 (by rw [hown.2.1])
   rcases hcase with hz|⟨g,cur,rfl,hBg,hblk,hcsz,hpre⟩
   ·
    omega
   have hcell_s:cur[k * 3+2]?=some (.slice sa sn sc):=by
    have h5:=ncells_sl hown.1 hmx hs
    rw [← h5]
    have:=mul_lt_of hlt 3
    exact hpre _ oM
   have HC:=Lib.hid hc1
   have d2:wr.cell? ⟨g,k * 3+2,none⟩=some (.slice sa sn sc):=by rw [hblk.cell];exact hcell_s
   obtain⟨z0,g0⟩:∃ z,wr.cell? ⟨g,k * 3,none⟩=some z:=⟨_,by rw [hblk.cell];exact Array.getElem?_eq_getElem (by have:=HC.out;have:=mul_lt_of hlt 3;have:=hcsz;omega)⟩
   have f0:=hblk.frozen (k * 3)
   obtain⟨z1,g1⟩:∃ z,wr.cell? ⟨g,k * 3+1,none⟩=some z:=⟨_,by rw [hblk.cell];exact Array.getElem?_eq_getElem (by have:=HC.out;have:=mul_lt_of hlt 3;have:=hcsz;omega)⟩
   have f1:=hblk.frozen (k * 3+1)
   have HQ:=Lib.hid hq';have HT:=Lib.hid ht1;have HH:=Lib.hid hown;have HST:=Lib.hid hstep;have HMX:=Lib.hid hmx;have HSS:=Lib.hid hs;have HLR:=Lib.hid hLr;have HCS:=Lib.hid hcsz;have HPRE:=Lib.hid hpre
   clear hm0 hq' ht1 ht2 hr hml hmx hs hstep hown hcell_s hcl hnl hLr hcsz hpre
   have o0:=HH.out;have m0:((marks 2 q rows).take k ++ rows.drop k)[k]?=some ((rows[k]).1,(rows[k]).2):=HMX.out
   have hkl:k<((marks 2 q rows).take k ++ rows.drop k).length:=(List.getElem?_eq_some_iff.1 m0).1
   have o1:OwnNs B 255 2 2 (wr.setCell ⟨g,k * 3,none⟩ (.int .i64 q')) (.slice (some ⟨g,0,none⟩) rows.length ca) (((marks 2 q rows).take k ++ rows.drop k).set k (((rows[k]).1.set 0 (q')),(rows[k]).2)) ss:=by have h:=o0.set_int m0 (j:=0) oM (q');simpa [List.set_set] using h
   have m1:(((marks 2 q rows).take k ++ rows.drop k).set k (((rows[k]).1.set 0 (q')),(rows[k]).2))[k]?=some (((rows[k]).1.set 0 (q')),(rows[k]).2):=by rw [List.getElem?_set_self hkl]
   have o2:OwnNs B 255 2 2 ((wr.setCell ⟨g,k * 3,none⟩ (.int .i64 q')).setCell ⟨g,k * 3+1,none⟩ (.int .i64 (q'+1))) (.slice (some ⟨g,0,none⟩) rows.length ca) (((marks 2 q rows).take k ++ rows.drop k).set k ((((rows[k]).1.set 0 (q')).set 1 (q'+1)),(rows[k]).2)) ss:=by have h:=o1.set_int m1 (j:=1) oM (q'+1);simpa [List.set_set] using h
   have m2:(((marks 2 q rows).take k ++ rows.drop k).set k ((((rows[k]).1.set 0 (q')).set 1 (q'+1)),(rows[k]).2))[k]?=some ((((rows[k]).1.set 0 (q')).set 1 (q'+1)),(rows[k]).2):=by rw [List.getElem?_set_self hkl]
   have hso:OwnI B 2 1 ((wr.setCell ⟨g,k * 3,none⟩ (.int .i64 q')).setCell ⟨g,k * 3+1,none⟩ (.int .i64 (q'+1))) (.slice sa sn sc) (rows[k]).2:=o2.2.2.2.own k _ ((((rows[k]).1.set 0 (q')).set 1 (q'+1)),(rows[k]).2) HSS.out m2
   have hup:Upd wr ((wr.setCell ⟨g,k * 3,none⟩ (.int .i64 q')).setCell ⟨g,k * 3+1,none⟩ (.int .i64 (q'+1))) (feet ((.slice (some ⟨g,0,none⟩) rows.length ca) :: ss)):=(((((Upd.refl wr _)).setCell (by simp [feet,Value.ownBlock]) _)).setCell (by simp [feet,Value.ownBlock]) _)
   have O:=Lib.hid o2;have MM:=Lib.hid m2;have HSO:=Lib.hid hso;have HUP:=Lib.hid hup;clear o0 m0 o1 m1 o2 m2 hso hup hsown
   go_wp2_with (first|(go_at_call 19;refine (markInt64S_c _ B _ _ L (by have:=HLR.out;omega) _ HSO.out oM oM).mono ?_;rintro e w1 ⟨rfl,hx,hg⟩))
   go_roundw
   case rel =>
    have h3:=HT.out;have h4:=HQ.out
    have hO:OwnNs B 255 2 2 w1 (.slice (some ⟨g,0,none⟩) rows.length ca) ((marks 2 q rows).take (k+1) ++ rows.drop (k+1)) ss:=by
     rw [HST.out]
     have h6:=O.out.set_row MM.out HSS.out hx (xs:=run (q'+2) L) (by rw [show q'+2=q'+1+1 from by omega];exact hg)
     have h7:((rows[k]).1:List Int).length=2:=HO.out.1 _ (List.getElem_mem hlt)
     obtain⟨y0,y1,h8⟩:∃ y0 y1,(rows[k]).1=[y0,y1]:=by match (rows[k]).1,h7 with|[y0,y1],_=>exact⟨y0,y1,rfl⟩
     rw [h8] at h6
     simpa [run,List.set_set,Int.add_assoc] using h6
    exact⟨k+1,by omega,by go_num,⟨_,by omega,rfl⟩,(he.trans (HUP.out.trans (hx.more (fun x hx'=>feet_sub HSS.out hx')))),hO⟩
   case measure=>simp [intOf];omega
  obtain rfl:k=rows.length:=by omega
  have HQ:=Lib.hid hq'
  clear hq'
  go_wp2
  go_ret
  have h4:=HQ.out
  rw [List.take_length] at h4
  refine⟨congrArg (fun z=>Ending.returned (.int .i64 z)) h4,he,?_⟩
  rw [List.drop_length,List.append_nil] at hown
  have:=length_marks 2 q rows
  rwa [List.take_of_length_le oM] at hown
def RdMsgs (w:World) (v:Value) (l:List NRow):Prop:=Nest 2 w v l
def OwMsgs (B:Nat) (w:World) (v:Value) (l:List NRow) (F:List Nat):Prop:=∃ ss:List Value,OwnNs B 255 2 2 w v l ss∧F=feet (v :: ss)
def numMsgs (l:List NRow):Nat:=tot 2 l
def MkMsgs (B:Nat) (w:World) (v:Value) (l:List NRow) (F:List Nat) (q:Int):Prop:=∃ ss:List Value,OwnNs B 255 2 2 w v (marks 2 q l) ss∧F=feet (v :: ss)
section
variable {B B':Nat} {w w':World} {v:Value} {l:List NRow} {F:List Nat} {q:Int}
theorem RdMsgs.shape (h:RdMsgs w v l):∃ a n k,v=.slice a n k:=Nest.shape h
theorem RdMsgs.ext (h:RdMsgs w v l) (x:Ext w w'):RdMsgs w' v l:=Nest.ext h x
theorem OwMsgs.of (h:OwnNest B 255 2 2 w v l):∃ F,OwMsgs B w v l F:=let ⟨ss,h⟩:=h;⟨_,ss,h,rfl⟩
theorem OwMsgs.rd (h:OwMsgs B w v l F):RdMsgs w v l:=let ⟨_,h,_⟩:=h;h.nest
theorem OwMsgs.ext (h:OwMsgs B w v l F) (x:Ext w w'):OwMsgs B w' v l F:=let ⟨s,h,e⟩:=h;⟨s,h.ext x,e⟩
theorem OwMsgs.keep (h:OwMsgs B w v l F) (x:Chg B w w'):OwMsgs B w' v l F:=let ⟨s,h,e⟩:=h;⟨s,h.keep x,e⟩
theorem OwMsgs.mono (h:OwMsgs B w v l F) (x:B'≤B):OwMsgs B' w v l F:=let ⟨s,h,e⟩:=h;⟨s,h.mono x,e⟩
theorem OwMsgs.upd (h:OwMsgs B w v l F) {fs:List Nat} (x:Upd w w' fs) (hn:∀ k,k ∈ F→k ∈ fs→False):OwMsgs B w' v l F:=by
 obtain⟨s,h,rfl⟩:=h
 exact⟨s,h.upd x hn,rfl⟩
theorem OwMsgs.low (h:OwMsgs B w v l F):∀ k,k ∈ F→B≤k∧k<w.heap.size:=by
 obtain⟨s,h,rfl⟩:=h
 exact h.foot
theorem MkMsgs.ext (h:MkMsgs B w v l F q) (x:Ext w w'):MkMsgs B w' v l F q:=let ⟨s,h,e⟩:=h;⟨s,h.ext x,e⟩
theorem eq_Msgs {u:Value} (h:RdMsgs w v l) (k:RdMsgs w u l):Calls Tryz.prog 150 #[v,u] w (RetV w (.bool true)):=eqMsgS_c w v u _ h k
theorem mark_Msgs (h:OwMsgs B w v l F) (hq0:0≤q) (hq1:q+(numMsgs l:Nat)≤4611686018427387904) :
  Calls Tryz.prog 161 #[v,.int .i64 q] w (RetM w F (.int .i64 (q+(numMsgs l:Nat))) fun w'=>MkMsgs B w' v l F q):=by
 obtain⟨s,h,rfl⟩:=h
 refine (markMsgS_c w B v _ s q h hq0 hq1).mono ?_
 rintro e w' ⟨rfl,hx,g⟩
 exact⟨rfl,hx,s,g,rfl⟩
theorem held_Msgs (h:MkMsgs B w v l F q) (hq0:0≤q) (hq1:q+(numMsgs l:Nat)≤4611686018427387904) :
  Calls Tryz.prog 198 #[v,.int .i64 q] w (RetV w (.int .i64 (q+(numMsgs l:Nat)))):=by
 obtain⟨s,h,rfl⟩:=h
 exact heldMsgS_c w v _ q h.nest hq0 hq1
end
theorem rqB10 {p:Prop} (h:p:=by intro KQ hKQ;(repeat (first|go_big_quiet_skip|(go_big_quiet_want;first|(refine quiet_load _ _ _ ?_ rfl rfl (fun wq hq=>?_) ?_;rotate_left;(focus (have q0:=hq.cell d0;have q1:=hq.cell d1;go_simp;first|done|rfl));(try simp only [redA,Act.put]);go_big_quiet_on)|(go_big_quiet_op;first|go_big_quiet_on|(refine⟨_,fun _ _=>rfl,?_⟩;go_big_quiet_on)|(apply Exists.intro;refine⟨fun wq hq=>?_,?_⟩;(focus (first|exact call_same hq (by have c:=l7Id_c wq d.Id;rw [hid] at c;exact c)));go_big_quiet_on)))));exact wpQuiet_nil hKQ):p:=h
theorem rqB11 {p:Prop} (h:p:=by intro KQ hKQ;(repeat (first|go_big_quiet_skip|(go_big_quiet_want;first|(refine quiet_load _ _ _ ?_ rfl rfl (fun wq hq=>?_) ?_;rotate_left;(focus (have q0:=hq.cell d0;have q1:=hq.cell d1;go_simp;first|done|rfl));(try simp only [redA,Act.put]);go_big_quiet_on)|(go_big_quiet_op;first|go_big_quiet_on|(refine⟨_,fun _ _=>rfl,?_⟩;go_big_quiet_on)|(apply Exists.intro;refine⟨fun wq hq=>?_,?_⟩;(focus (first|exact call_same hq (by have c:=l7Id_c wq d.Id;rw [hid] at c;exact c)|exact call_same hq (by have c:=sTimeOk_c wq d.Due;rw [htm] at c;exact c)));go_big_quiet_on)))));exact wpQuiet_nil hKQ):p:=h
theorem rqB12 {p:Prop} (h:p:=by intro KQ hKQ;(repeat (first|go_big_quiet_skip|(go_big_quiet_want;first|(refine quiet_load _ _ _ ?_ rfl rfl (fun wq hq=>?_) ?_;rotate_left;(focus (have q0:=hq.cell d0;have q1:=hq.cell d1;have p0:=hq.cell e0;have p1:=hq.cell e1;go_simp;first|done|rfl));(try simp only [redA,Act.put]);go_big_quiet_on)|(go_big_quiet_op;first|go_big_quiet_on|(refine⟨_,fun _ _=>rfl,?_⟩;go_big_quiet_on)|(apply Exists.intro;refine⟨fun wq hq=>?_,?_⟩;(focus (first|exact call_same hq (by have c:=l7Id_c wq d.Id;rw [hid] at c;exact c)|exact call_same hq (by have c:=sTimeOk_c wq d.Due;rw [htm] at c;exact c)|exact call_ext hq (by have c:=l11DueLess_c wq e d;rw [hls] at c;exact c)));go_big_quiet_on)))));exact wpQuiet_nil hKQ):p:=h
theorem l11Open_c (w:World) (v:Value) (l:List DDue) (h:Ints 2 w v (dues l)):Calls Tryz.prog 419 #[v] w (RetV w (.bool (openOk l))):=by
 obtain⟨a,cap,rfl,hcap,hm,ha⟩:=h.recs (f:=DDue.ints) (fun _=>rfl) dC
 have HA:=Lib.hid ha
 clear ha
 unfold maxLen at hm
 by_cases h8:8<l.length
 ·
  rw [openOk_false (fun hh=>by have:=hh.1;omega)]
  go_enter Tryz.func419,Tryz.ntmps419
  go_wp2
  go_ret
  exact⟨rfl,Ext.refl _⟩
 have h8':decide ((8:Int)<(l.length:Int))=false:=by simp;omega
 go_enter Tryz.func419,Tryz.ntmps419
 go_wp2
 go_loopw [3] (fun i wr=>∃ k:Nat,k≤l.length∧i=.int .i64 k∧Ext w wr∧∀ i,i<k→OpenAt l i) (fun i _=>l.length - (intOf i).toNat)
 case atStart=>exact⟨0,Nat.zero_le _,rfl,Ext.refl _,fun i hi=>by omega⟩
 case round =>
  obtain⟨k,hk,rfl,he,hok⟩:=hrel
  have HO:=Lib.hid hok
  clear hok
  by_cases hlt:k<l.length
  ·
   obtain⟨d,b1,o1,hd,rfl,hb1,c⟩:=HA.out k hlt
   have d0:=he.cell (c 0 _ dC rfl)
   have d1:=he.cell (c 1 _ dC rfl)
   simp only [Nat.add_zero] at d0
   have HD:=Lib.hid hd
   clear c hd
   cases hid:idOk d.Id
   ·
    go_wp2
    refine rx0 rqB10 fun w1 hx1=>?_
    go_wp2
    go_ret
    exact⟨congrArg (fun z=>Ending.returned (.bool z)) (openOk_false (fun hh=>by have:=(hh.2 k hlt d HD.out).1;rw [hid] at this;cases this)).symm,he.trans hx1⟩
   cases htm:timeOk d.Due
   ·
    go_wp2
    refine rx0 rqB11 fun w1 hx1=>?_
    go_wp2
    go_ret
    exact⟨congrArg (fun z=>Ending.returned (.bool z)) (openOk_false (fun hh=>by have:=(hh.2 k hlt d HD.out).2.1;rw [htm] at this;cases this)).symm,he.trans hx1⟩
   have hnext:(∀ e,0<k→l[k - 1]?=some e→dueLess e d=true)→(∀ i e,i<k→l[i]?=some e→e.Id ≠ d.Id)→∀ i,i<k+1→OpenAt l i:=by
    intro n1 n2 i hi
    by_cases hik:i=k
    ·
     subst hik
     intro d' hd'
     rw [HD.out] at hd'
     obtain rfl:=Option.some.inj hd'
     exact⟨hid,htm,n1,n2⟩
    exact HO.out i oM
   have HN:=Lib.hid hnext
   clear hnext
   have hdup:∀ i e,i<k→l[i]?=some e→e.Id=d.Id→openOk l=false:=fun i e hi he' hh=>openOk_false (fun ho=>(ho.2 k hlt d HD.out).2.2.2 i e hi he' hh)
   have HU:=Lib.hid hdup
   clear hdup
   by_cases hk0:k=0
   ·
    subst hk0
    simp only [Nat.zero_mul,Nat.add_zero] at d0 d1
    go_wp2
    refine rx0 rqB11 fun w1 hx1=>?_
    go_wp2
    go_loopw [4] (fun i wr'=>i=.int .i64 0∧Ext wr wr') (fun _ _=>0)
    case atStart=>exact⟨rfl,hx1⟩
    case round =>
     obtain⟨rfl,he'⟩:=hrel
     go_wp2
     go_roundw
     case rel=>exact⟨1,by omega,rfl,he.trans he',HN.out (fun e h=>by omega) (fun i e h=>by omega)⟩
     case measure=>simp [intOf];omega
   obtain⟨e,b2,o2,hde,hbo,_,c⟩:=HA.out (k - 1) oM
   obtain⟨rfl,rfl⟩:b1=b2∧o1=o2:=by simpa using hbo
   have e0:=he.cell (c 0 _ dC rfl)
   have e1:=he.cell (c 1 _ dC rfl)
   simp only [Nat.add_zero] at e0
   have HE:=Lib.hid hde
   clear c hde hbo
   have hk1:decide (0<k)=true:=by simp;omega
   cases hls:dueLess e d
   ·
    go_wp2
    refine rx0 rqB12 fun w1 hx1=>?_
    go_wp2
    go_ret
    exact⟨congrArg (fun z=>Ending.returned (.bool z)) (openOk_false (fun hh=>by have:=(hh.2 k hlt d HD.out).2.2.1 e oM HE.out;rw [hls] at this;cases this)).symm,he.trans hx1⟩
   go_wp2
   refine rx0 rqB12 fun w1 hx1=>?_
   go_wp2
   go_loopw [4] (fun i wr'=>∃ m:Nat,m≤k∧i=.int .i64 m∧Ext wr wr'∧∀ i e,i<m→l[i]?=some e→e.Id ≠ d.Id) (fun i _=>k - (intOf i).toNat)
   case atStart=>exact⟨0,by omega,rfl,hx1,fun i e h=>by omega⟩
   case round =>
    obtain⟨m,hm',rfl,he',hno⟩:=hrel
    have HM:=Lib.hid hno
    clear hno
    by_cases hmk:m<k
    ·
     obtain⟨g,b2,o2,hdg,hbo,_,c⟩:=HA.out m oM
     obtain⟨rfl,rfl⟩:b1=b2∧o1=o2:=by simpa using hbo
     have g0:=(he.trans he').cell (c 0 _ dC rfl)
     have f0:=he'.cell d0
     simp only [Nat.add_zero] at g0
     have HG:=Lib.hid hdg
     clear c hdg hbo
     by_cases heq:g.Id=d.Id
     ·
      have hb:(g.Id == d.Id)=true:=by simpa using heq
      have HEQ:=Lib.hid heq
      clear heq
      go_wp2
      go_quiet (fail)
      go_wp2
      go_ret
      exact⟨congrArg (fun z=>Ending.returned (.bool z)) (HU.out m g hmk HG.out HEQ.out).symm,(he.trans he').drewN _⟩
     have hb:(g.Id == d.Id)=false:=by simpa using heq
     go_wp2
     go_quiet (fail)
     go_wp2
     go_roundw
     case rel=>
      refine⟨m+1,by omega,by go_num,he'.drewN _,fun i e' hi hl=>?_⟩
      by_cases him:i=m
      ·
       subst him
       rw [HG.out] at hl
       obtain rfl:=Option.some.inj hl
       exact heq
      exact HM.out i e' oM hl
     case measure=>simp [intOf];omega
    obtain rfl:m=k:=by omega
    go_wp2
    go_roundw
    case rel=>exact⟨m+1,by omega,by go_num,he.trans he',HN.out (fun e' _ hl=>by rw [HE.out] at hl;obtain rfl:=Option.some.inj hl;exact hls) HM.out⟩
    case measure=>simp [intOf];omega
  obtain rfl:k=l.length:=by omega
  go_wp2
  go_ret
  exact⟨congrArg (fun z=>Ending.returned (.bool z)) (openOk_true ⟨by omega,HO.out⟩).symm,he⟩
theorem l11Sched_c (w:World) (x:Int):Calls Tryz.prog 418 #[.int .i64 x] w fun e w'=>e=.returned (.bool (schedOk x))∧w=w':=by
 by_cases h2:x=2
 ·
  subst h2
  go_enter Tryz.func418,Tryz.ntmps418
  go_wp2
  go_ret
  exact⟨rfl,rfl⟩
 have e2:(x == 2)=false:=by simpa using h2
 by_cases h3:x=3
 ·
  subst h3
  go_enter Tryz.func418,Tryz.ntmps418
  go_wp2
  go_ret
  exact⟨rfl,rfl⟩
 have e3:(x == 3)=false:=by simpa using h3
 go_enter Tryz.func418,Tryz.ntmps418
 go_wp2
 go_ret
 exact⟨by simp [schedOk,e2,e3],rfl⟩
theorem l16Who_c (w:World) (x:Int):Calls Tryz.prog 175 #[.int .i64 x] w fun e w'=>e=.returned (.bool (schedOk x))∧w=w':=by
 by_cases h2:x=2
 ·
  subst h2
  go_enter Tryz.func175,Tryz.ntmps175
  go_wp2
  go_ret
  exact⟨rfl,rfl⟩
 have e2:(x == 2)=false:=by simpa using h2
 by_cases h3:x=3
 ·
  subst h3
  go_enter Tryz.func175,Tryz.ntmps175
  go_wp2
  go_ret
  exact⟨rfl,rfl⟩
 have e3:(x == 3)=false:=by simpa using h3
 go_enter Tryz.func175,Tryz.ntmps175
 go_wp2
 go_ret
 exact⟨by simp [schedOk,e2,e3],rfl⟩
theorem schedOk_c (w:World) (x:Int):Calls Tryz.prog 170 #[.int .i64 x] w fun e w'=>e=.returned (.bool (schedOk x))∧w=w':=by
 by_cases h2:x=2
 ·
  subst h2
  go_enter Tryz.func170,Tryz.ntmps170
  go_wp2
  go_ret
  exact⟨rfl,rfl⟩
 have e2:(x == 2)=false:=by simpa using h2
 by_cases h3:x=3
 ·
  subst h3
  go_enter Tryz.func170,Tryz.ntmps170
  go_wp2
  go_ret
  exact⟨rfl,rfl⟩
 have e3:(x == 3)=false:=by simpa using h3
 go_enter Tryz.func170,Tryz.ntmps170
 go_wp2
 go_ret
 exact⟨by simp [schedOk,e2,e3],rfl⟩
theorem sJobsOk2_c (w:World) (j:DJobs) (s:Value) (h:Ints 2 w s (dues j.Open)):Calls Tryz.prog 390 #[.agg #[.int .i64 j.Index,.int .i64 j.Time,.int .i64 j.Holder,.int .i64 j.Epoch,.int .i64 j.Until,s]] w (RetV w (.bool (jobsOk2 j))):=by
 obtain⟨a,n,c,rfl⟩:=h.shape
 by_cases hH:j.Holder=0
 ·
  have hH':(j.Holder == 0)=true:=by simpa using hH
  clear hH
  go_enter Tryz.func390,Tryz.ntmps390
  go_wp2_with (first|(go_at_call 303;refine (l1In_c _ _ _ _).mono ?_;rintro e w1 ⟨rfl,rfl⟩)|(go_at_call 207;refine (sTimeOk_c _ _).mono ?_;rintro e w1 ⟨rfl,rfl⟩)|(go_at_call 418;refine (l11Sched_c _ _).mono ?_;rintro e w1 ⟨rfl,rfl⟩)|(go_at_call 419;refine (l11Open_c _ _ _ (h.ext xT)).mono ?_;rintro e w1 ⟨rfl,hx1⟩))
  all_goals
   go_ret
   refine⟨congrArg (fun z=>Ending.returned (.bool z)) ?_,?_⟩
   ·
    simp [jobsOk2, *]
   exact xT
 have hH':(j.Holder == 0)=false:=by simpa using hH
 clear hH
 go_enter Tryz.func390,Tryz.ntmps390
 go_wp2_with (first|(go_at_call 303;refine (l1In_c _ _ _ _).mono ?_;rintro e w1 ⟨rfl,rfl⟩)|(go_at_call 207;refine (sTimeOk_c _ _).mono ?_;rintro e w1 ⟨rfl,rfl⟩)|(go_at_call 418;refine (l11Sched_c _ _).mono ?_;rintro e w1 ⟨rfl,rfl⟩)|(go_at_call 419;refine (l11Open_c _ _ _ (h.ext xT)).mono ?_;rintro e w1 ⟨rfl,hx1⟩))
 all_goals
  go_ret
  refine⟨congrArg (fun z=>Ending.returned (.bool z)) ?_,?_⟩
  ·
   simp [jobsOk2, *]
  exact xT
theorem sViewOk_c (w:World) (v:DView) (s:Value) (h:Ints 2 w s (dues v.Jobs.Open)):Calls Tryz.prog 320 #[.agg #[.int .i64 v.Jobs.Index,.int .i64 v.Jobs.Time,.int .i64 v.Jobs.Holder,.int .i64 v.Jobs.Epoch,.int .i64 v.Jobs.Until,s]] w (RetV w (.bool (jobsOk2 v.Jobs))):=by
 obtain⟨a,n,c,rfl⟩:=h.shape
 go_enter Tryz.func320,Tryz.ntmps320
 go_wp2_with (first|(go_at_call 390;refine (sJobsOk2_c _ v.Jobs _ (h.ext xT)).mono ?_;rintro e w1 ⟨rfl,hx1⟩;have hz1:=hx1.size;obtain⟨hc1,hf1⟩:=hx1.cells;(repeat (first|simp only [World.size_alloc] at hz1 hc1 hf1|simp only [World.size_setCell] at hz1 hc1 hf1));have hy1_0:w.heap.size<w1.heap.size:=oM))
 go_ret
 refine⟨rfl,?_⟩
 exact xT
def opZ (o:DOp):Bool:=decide (o.Kind=0∧o.A=0∧o.B=0∧o.C=0∧o.D=0)
noncomputable def schedOkS (s:DSched):Bool:=schedOk s.Id && (inb s.Seq 0 2000 && (jobsOk2 s.View.Jobs && (inb s.Index 0 2000 && (if s.Busy then decide (0<s.Seq) && (opOk s.Op && (decide (s.Op.Kind=4) || decide (s.Op.Kind=5))) else opZ s.Op))))
theorem sViewOk_l (w:World) (c0_0:Int) (c0_1:Int) (c0_2:Int) (c0_3:Int) (c0_4:Int) (s0_5:Value) (l0_5:List DDue) (h0_5:Ints 2 w s0_5 (dues l0_5)) :
  Calls Tryz.prog 320 #[.agg #[.int .i64 c0_0,.int .i64 c0_1,.int .i64 c0_2,.int .i64 c0_3,.int .i64 c0_4,s0_5]] w (RetV w (.bool (jobsOk2 (⟨⟨c0_0,c0_1,c0_2,c0_3,c0_4,l0_5⟩⟩:DView).Jobs))):=sViewOk_c w (⟨⟨c0_0,c0_1,c0_2,c0_3,c0_4,l0_5⟩⟩:DView) s0_5 h0_5
theorem l7Key_c (w:World) (c0_0:Int) :
  Calls Tryz.prog 322 #[.int .i64 c0_0] w (fun e w'=>e=.returned (.bool (inb c0_0 0 9))∧w=w'):=by
 go_enter Tryz.func322,Tryz.ntmps322
 go_wp2_with (first|(go_at_call 303;refine (l1In_c _ _ _ _  ).mono ?_;rintro e wa ⟨rfl,rfl⟩))
 all_goals
  go_ret
  refine⟨by first|rfl|(simp [*];done)|(simp [*];omega)|(simp_all [bq,bn];done)|(simp_all [bq,bn];omega),by rfl⟩
theorem l7Value_c (w:World) (c0_0:Int) :
  Calls Tryz.prog 324 #[.int .i64 c0_0] w (fun e w'=>e=.returned (.bool (inb c0_0 0 999))∧w=w'):=by
 go_enter Tryz.func324,Tryz.ntmps324
 go_wp2_with (first|(go_at_call 303;refine (l1In_c _ _ _ _  ).mono ?_;rintro e wa ⟨rfl,rfl⟩))
 all_goals
  go_ret
  refine⟨by first|rfl|(simp [*];done)|(simp [*];omega)|(simp_all [bq,bn];done)|(simp_all [bq,bn];omega),by rfl⟩
theorem sOpOk_c (w:World) (c0_0:Int) (c0_1:Int) (c0_2:Int) (c0_3:Int) (c0_4:Int) :
  Calls Tryz.prog 321 #[.agg #[.int .i64 c0_0,.int .i64 c0_1,.int .i64 c0_2,.int .i64 c0_3,.int .i64 c0_4]] w (RetV w (.bool (opOk (⟨c0_0,c0_1,c0_2,c0_3,c0_4⟩:DOp)))):=by
 go_enter Tryz.func321,Tryz.ntmps321
 go_wp2_with (first|(go_at_call 322;refine (l7Key_c _ _  ).mono ?_;rintro e wa ⟨rfl,rfl⟩)|(go_at_call 324;refine (l7Value_c _ _  ).mono ?_;rintro e wb ⟨rfl,rfl⟩)|(go_at_call 391;refine (l7Id_c _ _  ).mono ?_;rintro e wc ⟨rfl,rfl⟩)|(go_at_call 207;refine (sTimeOk_c _ _  ).mono ?_;rintro e wd ⟨rfl,rfl⟩)|(go_at_call 303;refine (l1In_c _ _ _ _  ).mono ?_;rintro e we ⟨rfl,rfl⟩))
 all_goals
  go_ret
  refine⟨by first|rfl|(simp [opOk, *];done)|(simp [opOk, *];omega)|(simp_all [opOk,bq,bn];done)|(simp_all [opOk,bq,bn];omega),?_⟩
  exact xT
theorem sSchedOk_c (w:World) (c0_0:Int) (c0_1:Int) (c0_2:Int) (c0_3:Int) (c0_4:Int) (c0_5:Int) (c0_6:Int) (s0_7:Value) (l0_7:List DDue) (c0_8:Bool) (c0_9:Int) (c0_10:Int) (c0_11:Int) (c0_12:Int) (c0_13:Int) (c0_14:Int) (h0_7:Ints 2 w s0_7 (dues l0_7)) :
  Calls Tryz.prog 212 #[.agg #[.int .i64 c0_0,.int .i64 c0_1,.int .i64 c0_2,.int .i64 c0_3,.int .i64 c0_4,.int .i64 c0_5,.int .i64 c0_6,s0_7,.bool c0_8,.int .i64 c0_9,.int .i64 c0_10,.int .i64 c0_11,.int .i64 c0_12,.int .i64 c0_13,.int .i64 c0_14]] w (RetV w (.bool (schedOkS (⟨c0_0,c0_1,⟨⟨c0_2,c0_3,c0_4,c0_5,c0_6,l0_7⟩⟩,c0_8,⟨c0_9,c0_10,c0_11,c0_12,c0_13⟩,c0_14⟩:DSched)))):=by
 obtain⟨a0_7,n0_7,k0_7,rfl⟩:=h0_7.shape
 go_enter Tryz.func212,Tryz.ntmps212
 go_wp2_with (first|(go_at_call 175;refine (l16Who_c _ _  ).mono ?_;rintro e wa ⟨rfl,rfl⟩)|(go_at_call 303;refine (l1In_c _ _ _ _  ).mono ?_;rintro e wb ⟨rfl,rfl⟩)|(go_at_call 320;refine (sViewOk_l _ _ _ _ _ _ _ _ (by first|(with_reducible exact Ints.ext (by assumption) xT)|(with_reducible exact Ints.ext (OwnI.ints (by assumption)) xT)|with_reducible exact rnil_dues _ _) ).mono ?_;rintro e wc ⟨rfl,hxc⟩;have hzc:=hxc.size;obtain⟨hcc,hfc⟩:=hxc.cells;(repeat (first|simp only [World.size_alloc] at hzc hcc hfc|simp only [World.size_setCell] at hzc hcc hfc));(try have hcrc_a:=fun u v (h0:wa.heap.size≤u) h=>hcc u v h);(try have hfrc_a:=fun u v (h0:wa.heap.size≤u) h=>hfc u v h);(try have hyc_a_0:wa.heap.size<wc.heap.size:=oM);(try have hyc_a_1:wa.heap.size+1<wc.heap.size:=oM);(try have hyc_a_2:wa.heap.size+1+1<wc.heap.size:=oM);(try have hcrc_b:=fun u v (h0:wb.heap.size≤u) h=>hcc u v h);(try have hfrc_b:=fun u v (h0:wb.heap.size≤u) h=>hfc u v h);(try have hyc_b_0:wb.heap.size<wc.heap.size:=oM);(try have hyc_b_1:wb.heap.size+1<wc.heap.size:=oM);(try have hyc_b_2:wb.heap.size+1+1<wc.heap.size:=oM);(try have hcrc_d:=fun u v (h0:wd.heap.size≤u) h=>hcc u v h);(try have hfrc_d:=fun u v (h0:wd.heap.size≤u) h=>hfc u v h);(try have hyc_d_0:wd.heap.size<wc.heap.size:=oM);(try have hyc_d_1:wd.heap.size+1<wc.heap.size:=oM);(try have hyc_d_2:wd.heap.size+1+1<wc.heap.size:=oM);have Pc0_0:=hcc (w.heap.size) 0 oM;have Rc0_0:=hfc (w.heap.size) 0 oM;have Pc0_1:=hcc (w.heap.size) 1 oM;have Rc0_1:=hfc (w.heap.size) 1 oM;have Pc0_2:=hcc (w.heap.size) 2 oM;have Rc0_2:=hfc (w.heap.size) 2 oM;have Pc0_3:=hcc (w.heap.size) 3 oM;have Rc0_3:=hfc (w.heap.size) 3 oM;have Pc0_4:=hcc (w.heap.size) 4 oM;have Rc0_4:=hfc (w.heap.size) 4 oM;have Pc0_5:=hcc (w.heap.size) 5 oM;have Rc0_5:=hfc (w.heap.size) 5 oM;have Pc0_6:=hcc (w.heap.size) 6 oM;have Rc0_6:=hfc (w.heap.size) 6 oM;have Pc0_7:=hcc (w.heap.size) 7 oM;have Rc0_7:=hfc (w.heap.size) 7 oM;have Pc0_8:=hcc (w.heap.size) 8 oM;have Rc0_8:=hfc (w.heap.size) 8 oM;have Pc0_9:=hcc (w.heap.size) 9 oM;have Rc0_9:=hfc (w.heap.size) 9 oM;have Pc0_10:=hcc (w.heap.size) 10 oM;have Rc0_10:=hfc (w.heap.size) 10 oM;have Pc0_11:=hcc (w.heap.size) 11 oM;have Rc0_11:=hfc (w.heap.size) 11 oM;have Pc0_12:=hcc (w.heap.size) 12 oM;have Rc0_12:=hfc (w.heap.size) 12 oM;have Pc0_13:=hcc (w.heap.size) 13 oM;have Rc0_13:=hfc (w.heap.size) 13 oM;have Pc0_14:=hcc (w.heap.size) 14 oM;have Rc0_14:=hfc (w.heap.size) 14 oM;have hyc__0:w.heap.size<wc.heap.size:=oM;clear hcc hfc;(try simp [*] at Pc0_0);(try simp [*] at Rc0_0);(try simp [*] at Pc0_1);(try simp [*] at Rc0_1);(try simp [*] at Pc0_2);(try simp [*] at Rc0_2);(try simp [*] at Pc0_3);(try simp [*] at Rc0_3);(try simp [*] at Pc0_4);(try simp [*] at Rc0_4);(try simp [*] at Pc0_5);(try simp [*] at Rc0_5);(try simp [*] at Pc0_6);(try simp [*] at Rc0_6);(try simp [*] at Pc0_7);(try simp [*] at Rc0_7);(try simp [*] at Pc0_8);(try simp [*] at Rc0_8);(try simp [*] at Pc0_9);(try simp [*] at Rc0_9);(try simp [*] at Pc0_10);(try simp [*] at Rc0_10);(try simp [*] at Pc0_11);(try simp [*] at Rc0_11);(try simp [*] at Pc0_12);(try simp [*] at Rc0_12);(try simp [*] at Pc0_13);(try simp [*] at Rc0_13);(try simp [*] at Pc0_14);(try simp [*] at Rc0_14))|(go_at_call 321;refine (sOpOk_c _ _ _ _ _ _  ).mono ?_;rintro e wd ⟨rfl,hxd⟩;have hzd:=hxd.size;obtain⟨hcd,hfd⟩:=hxd.cells;(repeat (first|simp only [World.size_alloc] at hzd hcd hfd|simp only [World.size_setCell] at hzd hcd hfd));(try have hcrd_a:=fun u v (h0:wa.heap.size≤u) h=>hcd u v h);(try have hfrd_a:=fun u v (h0:wa.heap.size≤u) h=>hfd u v h);(try have hyd_a_0:wa.heap.size<wd.heap.size:=oM);(try have hyd_a_1:wa.heap.size+1<wd.heap.size:=oM);(try have hyd_a_2:wa.heap.size+1+1<wd.heap.size:=oM);(try have hcrd_b:=fun u v (h0:wb.heap.size≤u) h=>hcd u v h);(try have hfrd_b:=fun u v (h0:wb.heap.size≤u) h=>hfd u v h);(try have hyd_b_0:wb.heap.size<wd.heap.size:=oM);(try have hyd_b_1:wb.heap.size+1<wd.heap.size:=oM);(try have hyd_b_2:wb.heap.size+1+1<wd.heap.size:=oM);(try have hcrd_c:=fun u v (h0:wc.heap.size≤u) h=>hcd u v h);(try have hfrd_c:=fun u v (h0:wc.heap.size≤u) h=>hfd u v h);(try have hyd_c_0:wc.heap.size<wd.heap.size:=oM);(try have hyd_c_1:wc.heap.size+1<wd.heap.size:=oM);(try have hyd_c_2:wc.heap.size+1+1<wd.heap.size:=oM);have Pd0_0:=hcd (w.heap.size) 0 oM;have Rd0_0:=hfd (w.heap.size) 0 oM;have Pd0_1:=hcd (w.heap.size) 1 oM;have Rd0_1:=hfd (w.heap.size) 1 oM;have Pd0_2:=hcd (w.heap.size) 2 oM;have Rd0_2:=hfd (w.heap.size) 2 oM;have Pd0_3:=hcd (w.heap.size) 3 oM;have Rd0_3:=hfd (w.heap.size) 3 oM;have Pd0_4:=hcd (w.heap.size) 4 oM;have Rd0_4:=hfd (w.heap.size) 4 oM;have Pd0_5:=hcd (w.heap.size) 5 oM;have Rd0_5:=hfd (w.heap.size) 5 oM;have Pd0_6:=hcd (w.heap.size) 6 oM;have Rd0_6:=hfd (w.heap.size) 6 oM;have Pd0_7:=hcd (w.heap.size) 7 oM;have Rd0_7:=hfd (w.heap.size) 7 oM;have Pd0_8:=hcd (w.heap.size) 8 oM;have Rd0_8:=hfd (w.heap.size) 8 oM;have Pd0_9:=hcd (w.heap.size) 9 oM;have Rd0_9:=hfd (w.heap.size) 9 oM;have Pd0_10:=hcd (w.heap.size) 10 oM;have Rd0_10:=hfd (w.heap.size) 10 oM;have Pd0_11:=hcd (w.heap.size) 11 oM;have Rd0_11:=hfd (w.heap.size) 11 oM;have Pd0_12:=hcd (w.heap.size) 12 oM;have Rd0_12:=hfd (w.heap.size) 12 oM;have Pd0_13:=hcd (w.heap.size) 13 oM;have Rd0_13:=hfd (w.heap.size) 13 oM;have Pd0_14:=hcd (w.heap.size) 14 oM;have Rd0_14:=hfd (w.heap.size) 14 oM;have hyd__0:w.heap.size<wd.heap.size:=oM;clear hcd hfd;(try simp [*] at Pd0_0);(try simp [*] at Rd0_0);(try simp [*] at Pd0_1);(try simp [*] at Rd0_1);(try simp [*] at Pd0_2);(try simp [*] at Rd0_2);(try simp [*] at Pd0_3);(try simp [*] at Rd0_3);(try simp [*] at Pd0_4);(try simp [*] at Rd0_4);(try simp [*] at Pd0_5);(try simp [*] at Rd0_5);(try simp [*] at Pd0_6);(try simp [*] at Rd0_6);(try simp [*] at Pd0_7);(try simp [*] at Rd0_7);(try simp [*] at Pd0_8);(try simp [*] at Rd0_8);(try simp [*] at Pd0_9);(try simp [*] at Rd0_9);(try simp [*] at Pd0_10);(try simp [*] at Rd0_10);(try simp [*] at Pd0_11);(try simp [*] at Rd0_11);(try simp [*] at Pd0_12);(try simp [*] at Rd0_12);(try simp [*] at Pd0_13);(try simp [*] at Rd0_13);(try simp [*] at Pd0_14);(try simp [*] at Rd0_14)))
 all_goals
  go_ret
  refine⟨by first|rfl|(simp [schedOkS,opZ,inb, *];done)|(simp [schedOkS,opZ,inb, *];omega)|(simp_all [schedOkS,opZ,inb,bq,bn];done)|(simp_all [schedOkS,opZ,inb,bq,bn];omega),?_⟩
  exact xT
noncomputable def zSched:DSched:=⟨0,0,⟨⟨0,0,0,0,0,[]⟩⟩,false,⟨0,0,0,0,0⟩,0⟩
noncomputable def newSched (id:Int):DSched:=if schedOk id then ⟨id,0,⟨⟨0,0,0,0,0,[]⟩⟩,false,⟨0,0,0,0,0⟩,0⟩ else zSched
theorem sNewSched_c (w:World) (c0_0:Int) :
  Calls Tryz.prog 79 #[.int .i64 c0_0] w (Ret w fun r0 w'=>IsSched w.heap.size w' r0 (newSched c0_0)):=by
 have rsize_setRow:=@size_setRow
 have rcell_setRow_lt:=@cell_setRow_lt
 have rcell_setRow_gt:=@cell_setRow_gt
 have rfrozen_setRow_lt:=@frozen_setRow_lt
 have rfrozen_setRow_gt:=@frozen_setRow_gt
 go_enter Tryz.func79,Tryz.ntmps79
 go_wp2_with (first|(go_at_call 175;refine (l16Who_c _ _  ).mono ?_;rintro e wa ⟨rfl,rfl⟩))
 all_goals
  refine bodyPost_ret (by simp [results,Tryz.results79,go_sem, *];try rfl) rfl ?_
  refine⟨_,rfl,?_,?_⟩
  ·
   exact xT
  exact (IsSched.cast (IsSched.mk (by first|(with_reducible exact nil_dues _ _ _ _)|(with_reducible refine OwnI.mono (OwnI.keep (by assumption) ?_) ?_;rotate_left;(focus omega);(focus (exact chgT))))) (by first|rfl|(simp [newSched,zSched, *];done)|(simp [newSched,zSched, *];omega)|(simp_all [newSched,zSched,bq,bn];done)|(simp_all [newSched,zSched,bq,bn];omega)))
theorem newSched_c (w:World) (c0_0:Int) :
  Calls Tryz.prog 73 #[.int .i64 c0_0] w (Ret w fun r0 w'=>IsSched w.heap.size w' r0 (newSched c0_0)):=by
 have rsize_setRow:=@size_setRow
 have rcell_setRow_lt:=@cell_setRow_lt
 have rcell_setRow_gt:=@cell_setRow_gt
 have rfrozen_setRow_lt:=@frozen_setRow_lt
 have rfrozen_setRow_gt:=@frozen_setRow_gt
 go_enter Tryz.func73,Tryz.ntmps73
 go_wp2_with (first|(go_at_call 170;refine (schedOk_c _ _  ).mono ?_;rintro e wa ⟨rfl,rfl⟩))
 all_goals
  refine bodyPost_ret (by simp [results,Tryz.results73,go_sem, *];try rfl) rfl ?_
  refine⟨_,rfl,?_,?_⟩
  ·
   exact xT
  exact (IsSched.cast (IsSched.mk (by first|(with_reducible exact nil_dues _ _ _ _)|(with_reducible refine OwnI.mono (OwnI.keep (by assumption) ?_) ?_;rotate_left;(focus omega);(focus (exact chgT))))) (by first|rfl|(simp [newSched,zSched, *];done)|(simp [newSched,zSched, *];omega)|(simp_all [newSched,zSched,bq,bn];done)|(simp_all [newSched,zSched,bq,bn];omega)))
end Go.Proofs.YtkpmbocbbgocbaaGreat
namespace Go.G8
open Go.RowKit
theorem OwnI.boxS {B:Nat} {e:TypeId} {n:Nat} {w:World} {v:Value} {xs:List Int} (h:OwnI B e n w v xs) {X:Nat} {t:TypeId} {a:Array Value} (hX:Blk w X t a) (h1:t ≠ e) (i:Nat) (u:Value):OwnI B e n (w.setCell ⟨X,i,none⟩ u) v xs :=
 OwnI.upd' h ((Upd.refl w [X]).setCell (by simp) _) (fun k hk hf=>by
  obtain⟨cur,hb⟩:=h.typed hk
  simp at hf;subst hf
  exact h1 (hX.same hb))
end Go.G8
namespace Go.Proofs.YtkpmbocbbgocbaaGreat
open Go.RowKit Go.G8
def RdSched (w:World) (v:Value) (s:DSched):Prop:=∃ t2:Value,v=.agg #[.int .i64 s.Id,.int .i64 s.Seq,.int .i64 s.View.Jobs.Index,.int .i64 s.View.Jobs.Time,.int .i64 s.View.Jobs.Holder,.int .i64 s.View.Jobs.Epoch,.int .i64 s.View.Jobs.Until,t2,.bool s.Busy,.int .i64 s.Op.Kind,.int .i64 s.Op.A,.int .i64 s.Op.B,.int .i64 s.Op.C,.int .i64 s.Op.D,.int .i64 s.Index]∧Ints 2 w t2 (dues s.View.Jobs.Open)
def OwSched (B:Nat) (w:World) (v:Value) (s:DSched) (F:List Nat):Prop:=∃ t2:Value,v=.agg #[.int .i64 s.Id,.int .i64 s.Seq,.int .i64 s.View.Jobs.Index,.int .i64 s.View.Jobs.Time,.int .i64 s.View.Jobs.Holder,.int .i64 s.View.Jobs.Epoch,.int .i64 s.View.Jobs.Until,t2,.bool s.Busy,.int .i64 s.Op.Kind,.int .i64 s.Op.A,.int .i64 s.Op.B,.int .i64 s.Op.C,.int .i64 s.Op.D,.int .i64 s.Index]∧OwnI B 286 2 w t2 (dues s.View.Jobs.Open)∧F=feet [t2]
def numSched (s:DSched):Nat:=s.View.Jobs.Open.length * 2
def MkSched (B:Nat) (w:World) (v:Value) (s:DSched) (F:List Nat) (q:Int):Prop:=∃ t2:Value,v=.agg #[.int .i64 s.Id,.int .i64 s.Seq,.int .i64 s.View.Jobs.Index,.int .i64 s.View.Jobs.Time,.int .i64 s.View.Jobs.Holder,.int .i64 s.View.Jobs.Epoch,.int .i64 s.View.Jobs.Until,t2,.bool s.Busy,.int .i64 s.Op.Kind,.int .i64 s.Op.A,.int .i64 s.Op.B,.int .i64 s.Op.C,.int .i64 s.Op.D,.int .i64 s.Index]∧OwnI B 286 2 w t2 (run q (s.View.Jobs.Open.length * 2))∧F=feet [t2]
section
variable {B B':Nat} {w w':World} {v:Value} {s s':DSched} {F:List Nat} {q:Int}
theorem RdSched.shape (h:RdSched w v s):∃ a7 n7 k7,v=.agg #[.int .i64 s.Id,.int .i64 s.Seq,.int .i64 s.View.Jobs.Index,.int .i64 s.View.Jobs.Time,.int .i64 s.View.Jobs.Holder,.int .i64 s.View.Jobs.Epoch,.int .i64 s.View.Jobs.Until,.slice a7 n7 k7,.bool s.Busy,.int .i64 s.Op.Kind,.int .i64 s.Op.A,.int .i64 s.Op.B,.int .i64 s.Op.C,.int .i64 s.Op.D,.int .i64 s.Index]:=by
 obtain⟨t2,rfl,h2⟩:=h
 obtain⟨a2,n2,k2,rfl⟩:=h2.shape
 exact⟨a2,n2,k2,rfl⟩
theorem RdSched.ext (h:RdSched w v s) (x:Ext w w'):RdSched w' v s:=let ⟨t2,e,h2⟩:=h;⟨t2,e,h2.ext x⟩
theorem OwSched.rd (h:OwSched B w v s F):RdSched w v s:=let ⟨t2,e,h2,_⟩:=h;⟨t2,e,h2.ints⟩
theorem OwSched.ext (h:OwSched B w v s F) (x:Ext w w'):OwSched B w' v s F:=let ⟨t2,e,h2,hF⟩:=h;⟨t2,e,Own.ext h2 x,hF⟩
theorem OwSched.keep (h:OwSched B w v s F) (x:Chg B w w'):OwSched B w' v s F:=let ⟨t2,e,h2,hF⟩:=h;⟨t2,e,h2.keep x,hF⟩
theorem OwSched.mono (h:OwSched B w v s F) (x:B'≤B):OwSched B' w v s F:=let ⟨t2,e,h2,hF⟩:=h;⟨t2,e,h2.mono x,hF⟩
theorem OwSched.upd (h:OwSched B w v s F) {fs:List Nat} (x:Upd w w' fs) (hn:∀ k,k ∈ F→k ∈ fs→False):OwSched B w' v s F:=by
 obtain⟨t2,e,h2,rfl⟩:=h
 exact⟨t2,e,OwnI.upd' h2 x hn,rfl⟩
theorem OwSched.box (h:OwSched B w v s F) {X:Nat} {a:Array Value} (hX:Blk w X 96 a) (i:Nat) (u:Value):OwSched B (w.setCell ⟨X,i,none⟩ u) v s F:=let ⟨t2,e,h2,hF⟩:=h;⟨t2,e,h2.boxS hX dC i u,hF⟩
theorem OwSched.low (h:OwSched B w v s F):∀ k,k ∈ F→B≤k∧k<w.heap.size:=by
 obtain⟨t2,e,h2,rfl⟩:=h
 exact fun k hk=>h2.foot k hk
theorem MkSched.ext (h:MkSched B w v s F q) (x:Ext w w'):MkSched B w' v s F q:=let ⟨t2,e,h2,hF⟩:=h;⟨t2,e,Own.ext h2 x,hF⟩
theorem MkSched.upd (h:MkSched B w v s F q) {fs:List Nat} (x:Upd w w' fs) (hn:∀ k,k ∈ F→k ∈ fs→False):MkSched B w' v s F q:=by
 obtain⟨t2,e,h2,rfl⟩:=h
 exact⟨t2,e,OwnI.upd' h2 x hn,rfl⟩
theorem eq_Sched {u:Value} (h:RdSched w v s) (k:RdSched w u s):Calls Tryz.prog 54 #[v,u] w (RetV w (.bool true)):=by
 obtain⟨t2,rfl,h2⟩:=h
 obtain⟨u2,rfl,k2⟩:=k
 exact eqSched_c w _ _ _ _ _ _ _ t2 u2 _ _ _ _ _ _ _ _ h2 k2
theorem mark_Sched (h:OwSched B w v s F) (hq0:0≤q) (hq1:q+(numSched s:Nat)≤4611686018427387904):Calls Tryz.prog 61 #[v,.int .i64 q] w (RetM w F (.int .i64 (q+(numSched s:Nat))) fun w'=>MkSched B w' v s F q):=by
 obtain⟨t2,rfl,h2,rfl⟩:=h
 unfold numSched at hq1 ⊢
 refine (markSched_c w B _ _ _ _ _ _ _ t2 _ _ (length_dues _) _ _ _ _ _ _ _ q h2 hq0 oM).mono ?_
 rintro e w' ⟨rfl,hx,g2⟩
 exact⟨rfl,hx,t2,rfl,g2,rfl⟩
theorem held_Sched (h:MkSched B w v s F q) (hq0:0≤q) (hq1:q+(numSched s:Nat)≤4611686018427387904):Calls Tryz.prog 92 #[v,.int .i64 q] w (RetV w (.int .i64 (q+(numSched s:Nat)))):=by
 obtain⟨t2,rfl,h2,rfl⟩:=h
 unfold numSched at hq1 ⊢
 exact heldSched_c w _ _ _ _ _ _ _ t2 _ _ _ _ _ _ _ _ q h2.ints hq0 oM
end
theorem sSchedOk_k {w:World} {v:Value} {s:DSched} (h:RdSched w v s):Calls Tryz.prog 212 #[v] w (RetV w (.bool (schedOkS s))):=by
 obtain⟨t2,rfl,h2⟩:=h
 exact sSchedOk_c w _ _ _ _ _ _ _ t2 _ _ _ _ _ _ _ _ h2
end Go.Proofs.YtkpmbocbbgocbaaGreat
