/- HelpM KM V2 V3 V4a V4b V4c V4 V5 V6 V7 V12 V13 V8 V9 V10 V11 V14 KSc. -/
import Derived.Test.YtkpmbocbbgocbaaGreatGb
import Derived.Test.YtkpmbocbbgocbaaGreatGe
import Derived.Test.YtkpmbocbbgocbaaGreatGa
import Derived.Test.YtkpmbocbbgocbaaGreatGw
set_option linter.unusedSimpArgs false
set_option linter.unusedVariables false
set_option maxHeartbeats 8000000
set_option maxRecDepth 100000
namespace Go.Proofs.YtkpmbocbbgocbaaGreat
open Go.RowKit Go.G8
theorem toMsgS_c (w:World) (v:Value) (rows:List NRow) (h:Nest 2 w v rows) (hs:rowsSize rows≤1048576) :
  Calls Tryz.prog 129 #[v] w (Ret w fun v' w'=>OwnNest w.heap.size 255 2 2 w' v' rows):=by
 have hwid:=h.1
 obtain⟨a,ca,rfl,hca,hm,ha⟩:=h.open_
 have HA:=Lib.hid ha;have HW:=Lib.hid hwid;have HZ:=Lib.hid hs
 have hL:rows.length≤1048576:=by unfold rowsSize at hs;omega
 clear ha h hwid hs
 unfold maxLen at hm
 obtain⟨i0,hi,hz0,hz1,hz2⟩:=info_parts info_Msg
 go_enter Tryz.func129,Tryz.ntmps129
 have hmk:=fun W=>run_make (P:=Tryz.prog) W 101 255 i0 _ Tryz.underlying101 hi hz0 .i64 .i64 rows.length rows.length oM oM (by rw [hz2];omega) oM
 simp only [Int.toNat_natCast,hz1] at hmk
 go_wp2
 clear hmk
 go_loopw [4] (fun i wr=>∃ k:Nat,k≤rows.length∧i=.int .i64 k∧Ext w wr∧∃ cur ss,Blk wr w.heap.size 255 cur∧cur.size=rows.length * 3∧ss.length=k∧Pre cur (k * 3) (ncells (rows.take k) ss)∧Inner (w.heap.size+1) 2 wr (.slice (some ⟨w.heap.size,0,none⟩) rows.length rows.length) (rows.take k) ss) (fun i _=>rows.length - (intOf i).toNat)
 case atStart=>exact⟨0,Nat.zero_le _,rfl,(Ext.refl _).alloc _,_,[],Blk.new _ _ _,by simp [size_madeCells],rfl,by simpa using Pre.zero _ _,⟨fun i s q h1=>by simp at h1,fun i j s t k _ h1=>by simp at h1,fun i s k h1=>by simp at h1⟩⟩
 case round =>
  obtain⟨k,hk,rfl,he,cur,ss,hblk,hsz,hssl,hpre,hinn⟩:=hrel
  by_cases hlt:k<rows.length
  ·
   obtain⟨r,b1,o1,s,hr,rfl,_,hci,hcs,hin0⟩:=HA.out k hlt
   have hrw:=HW.out r (List.mem_of_getElem? hr)
   obtain⟨x0,hx0⟩:∃ u,r.1[0]?=some u:=⟨_,List.getElem?_eq_getElem (by rw [hrw];decide)⟩
   have d0:=he.cell (hci 0 _ hx0)
   obtain⟨x1,hx1⟩:∃ u,r.1[1]?=some u:=⟨_,List.getElem?_eq_getElem (by rw [hrw];decide)⟩
   have d1:=he.cell (hci 1 _ hx1)
   have d2:=he.cell hcs
   simp only [Nat.add_zero,Nat.reduceAdd] at d0 d1 d2
   have hin:=hin0.ext he
   obtain⟨sa,sn,sc,rfl⟩:=hin.shape
   have HR:=Lib.hid (rowsSize_row HZ.out hr)
   have HS:=Lib.hid hsz;have HRW:=Lib.hid hrw;have HK:=Lib.hid hr
   have hlen:(ncells (rows.take k) ss).length=k * 3:=by rw [ncells_len (wid_take HW.out k) (by simp;omega)];simp;omega
   have HL:=Lib.hid hlen;have HSS:=Lib.hid hssl
   clear hlen hssl
   have HX0:=Lib.hid hx0;clear hx0
   have HX1:=Lib.hid hx1;clear hx1
   clear hci hcs hrw hr hsz hin0
   go_wp2_with (first|(go_at_call 235;refine (toMsg_c _ _ _ _ r.2 r.2.length oM (hin.ext xT) HR.out).mono ?_;rintro e w1 ⟨_,rfl,hx,t,rfl,hg⟩;obtain⟨ta,tn,tc,rfl⟩:=hg.shape;have hb1:=hblk.ext hx;obtain⟨z0,g0⟩:∃ z,w1.cell? ⟨w.heap.size,k * 3,none⟩=some z:=⟨_,by rw [hb1.cell];exact Array.getElem?_eq_getElem (by have:=HS.out;omega)⟩;have f0:=hb1.frozen (k * 3);obtain⟨z1,g1⟩:∃ z,w1.cell? ⟨w.heap.size,k * 3+1,none⟩=some z:=⟨_,by rw [hb1.cell];exact Array.getElem?_eq_getElem (by have:=HS.out;omega)⟩;have f1:=hb1.frozen (k * 3+1);obtain⟨z2,g2⟩:∃ z,w1.cell? ⟨w.heap.size,k * 3+2,none⟩=some z:=⟨_,by rw [hb1.cell];exact Array.getElem?_eq_getElem (by have:=HS.out;omega)⟩;have f2:=hb1.frozen (k * 3+2)))
   have hlen:=HL.out;have hssl:=HSS.out
   go_roundw
   case rel =>
    refine⟨k+1,by omega,by go_num,((((he.trans hx).setCell (Nat.le_refl _) _).setCell (Nat.le_refl _) _).setCell (Nat.le_refl _) _),_,ss ++ [.slice ta tn tc],(((hb1.set_ _ _).set_ _ _).set_ _ _),by simp;exact HS.out,by simp;omega,?_,?_⟩
    ·
     rw [take_snoc HK.out,ncells_snoc (by simp;omega)]
     refine (((((hpre.app (Nat.le_of_eq hlen.symm)).set (ncells_at0 r (.slice ta tn tc) hlen (ncell_int HX0.out)) (by have:=HS.out;omega)).set (ncells_at (N:=k * 3) (j:=1) r (.slice ta tn tc) hlen (ncell_int HX1.out)) (by have:=HS.out;simp;omega)).set (ncells_at (N:=k * 3) (j:=2) r (.slice ta tn tc) hlen (ncell_sl HRW.out)) (by have:=HS.out;simp;omega))).cast ?_
     omega
    rw [take_snoc HK.out]
    have hi1:=(hinn.ext hx)
    refine (Inner.snoc hi1 (by simp;omega) (hg.mono (by have:=he.size;have:=hblk.lt;omega)) (fun i s' k' h1 h2 h3=>?_) (fun k' h2 h3=>?_)).keep ((((Chg.refl _ _).setLow oM _).setLow oM _).setLow oM _)
    ·
     have hli:i<(rows.take k).length:=by
      have:i<ss.length:=(List.getElem?_eq_some_iff.1 h1).1
      simp;omega
     have h4:=(hinn.own i s' _ h1 (List.getElem?_eq_getElem hli)).foot k' h2
     have h5:=hg.foot k' h3
     omega
    have h5:=hg.foot k' h2
    have:=hblk.lt
    simp [feet,Value.ownBlock] at h3
    omega
   case measure=>simp [intOf];omega
  obtain rfl:k=rows.length:=by omega
  go_wp2
  go_ret
  rw [List.take_length] at hpre hinn
  exact⟨_,rfl,he,ss,HW.out,hssl,Own.of_blk hblk (Nat.le_refl _) hsz (ncells_len HW.out hssl) (Nat.le_refl _) (by unfold maxLen;omega) hpre,hinn.mono oM⟩
theorem eqMsgS_c (w:World) (va vb:Value) (rows:List NRow) (ha:Nest 2 w va rows) (hb:Nest 2 w vb rows) :
  Calls Tryz.prog 150 #[va,vb] w (RetV w (.bool true)):=by
 have hwid:=ha.1
 obtain⟨a,ca,rfl,hca,hm,ha'⟩:=ha.open_
 obtain⟨b,cb,rfl,_,_,hb'⟩:=hb.open_
 have HA:=Lib.hid ha';have HB:=Lib.hid hb';have HW:=Lib.hid hwid
 clear ha' hb' ha hb hwid
 unfold maxLen at hm
 go_enter Tryz.func150,Tryz.ntmps150
 go_wp2
 go_loopw [5] (fun i wr=>∃ k:Nat,k≤rows.length∧i=.int .i64 k∧Ext w wr) (fun i _=>rows.length - (intOf i).toNat)
 case atStart=>exact⟨0,Nat.zero_le _,rfl,Ext.refl _⟩
 case round =>
  obtain⟨k,hk,rfl,he⟩:=hrel
  by_cases hlt:k<rows.length
  ·
   obtain⟨r,b1,o1,s,hr,rfl,_,hci,hcs,hin0⟩:=HA.out k hlt
   obtain⟨r2,b2,o2,t,hr2,rfl,_,hci2,hcs2,hin2⟩:=HB.out k hlt
   obtain rfl:r=r2:=by rw [hr] at hr2;exact Option.some.inj hr2
   have hrw:=HW.out r (List.mem_of_getElem? hr)
   obtain⟨x0,hx0⟩:∃ u,r.1[0]?=some u:=⟨_,List.getElem?_eq_getElem (by rw [hrw];decide)⟩
   have d0:=he.cell (hci 0 _ hx0)
   obtain⟨x1,hx1⟩:∃ u,r.1[1]?=some u:=⟨_,List.getElem?_eq_getElem (by rw [hrw];decide)⟩
   have d1:=he.cell (hci 1 _ hx1)
   have d2:=he.cell hcs
   simp only [Nat.add_zero,Nat.reduceAdd] at d0 d1 d2
   have d02:=he.cell (hci2 0 _ hx0)
   have d12:=he.cell (hci2 1 _ hx1)
   have d22:=he.cell hcs2
   simp only [Nat.add_zero,Nat.reduceAdd] at d02 d12 d22
   have g1:=hin0.ext he;have g2:=hin2.ext he
   obtain⟨sa,sn,sc,rfl⟩:=g1.shape;obtain⟨ta,tn,tc,rfl⟩:=g2.shape
   clear hci hcs hci2 hcs2 hrw hr hr2 hin0 hin2 hx0 hx1
   go_wp2
   go_region_held3 (fun w'=>Ext wr w'∧w'.cell? ⟨b1,o1+k * 3,none⟩=some (.int .i64 x0)∧w'.cell? ⟨b1,o1+k * 3+1,none⟩=some (.int .i64 x1)∧w'.cell? ⟨b1,o1+k * 3+2,none⟩=some (.slice sa sn sc)∧w'.cell? ⟨b2,o2+k * 3,none⟩=some (.int .i64 x0)∧w'.cell? ⟨b2,o2+k * 3+1,none⟩=some (.int .i64 x1)∧w'.cell? ⟨b2,o2+k * 3+2,none⟩=some (.slice ta tn tc)) (first|exact⟨Ext.drew (Ext.refl _),d0,d1,d2,d02,d12,d22⟩|exact held_of (S:=fun w'=>Ext wr w'∧w'.cell? ⟨b1,o1+k * 3,none⟩=some (.int .i64 x0)∧w'.cell? ⟨b1,o1+k * 3+1,none⟩=some (.int .i64 x1)∧w'.cell? ⟨b1,o1+k * 3+2,none⟩=some (.slice sa sn sc)∧w'.cell? ⟨b2,o2+k * 3,none⟩=some (.int .i64 x0)∧w'.cell? ⟨b2,o2+k * 3+1,none⟩=some (.int .i64 x1)∧w'.cell? ⟨b2,o2+k * 3+2,none⟩=some (.slice ta tn tc)) (by assumption) hx (fun a b h x=>⟨h.1.trans x,(h.1.trans x).cell d0,(h.1.trans x).cell d1,(h.1.trans x).cell d2,(h.1.trans x).cell d02,(h.1.trans x).cell d12,(h.1.trans x).cell d22⟩)) ((go_at_call 256;refine (eqMsg_c _ _ _ _ _ r.2 (g1.ext (And.left ‹_›)) (g2.ext (And.left ‹_›))).mono ?_;rintro e w' ⟨rfl,hx⟩))
   go_wp2
   go_roundw
   case rel=>exact⟨k+1,by omega,by go_num,he.trans (And.left ‹_›)⟩
   case measure=>simp [intOf];omega
  go_wp2
  go_ret
  exact⟨rfl,he⟩
theorem szMsgS_c (w:World) (v:Value) (rows:List NRow) (left:Int) (h:Nest 2 w v rows) (h0:0≤left) (h1:left≤1048576) :
  Calls Tryz.prog 105 #[v,.int .i64 left] w (Ret w fun v' _=>SzR left (rowsSize rows) v'):=by
 have hwid:=h.1
 obtain⟨a,ca,rfl,hca,hm,ha⟩:=h.open_
 have HA:=Lib.hid ha;have HW:=Lib.hid hwid
 clear ha h hwid
 unfold maxLen at hm
 by_cases hlt:left<rows.length
 ·
  have ht:decide (left - (rows.length:Int)<0)=true:=by simp;omega
  go_enter Tryz.func105,Tryz.ntmps105
  go_wp2
  go_ret
  exact⟨_,rfl,Ext.refl _,.inl ⟨rfl,by unfold rowsSize;omega⟩⟩
 have ht:decide (left - (rows.length:Int)<0)=false:=by simp;omega
 go_enter Tryz.func105,Tryz.ntmps105
 go_wp2
 clear ht
 go_loopw [1,5] (fun lv i wr=>∃ k:Nat,k≤rows.length∧i=.int .i64 k∧(∃ z:Int,z=left - rows.length - (((rows.take k).map (fun r=>r.2.length)).sum:Nat)∧0≤z∧lv=.int .i64 z)∧Ext w wr) (fun _ i _=>rows.length - (intOf i).toNat)
 case atStart=>exact⟨0,Nat.zero_le _,rfl,⟨_,by simp,by omega,rfl⟩,Ext.refl _⟩
 case round =>
  obtain⟨k,hk,rfl,⟨z,hz,hz0,rfl⟩,he⟩:=hrel
  have HZ:=Lib.hid hz;
  by_cases hlt:k<rows.length
  ·
   obtain⟨r,b1,o1,s,hr,rfl,_,hci,hcs,hin0⟩:=HA.out k hlt
   have hrw:=HW.out r (List.mem_of_getElem? hr)
   obtain⟨x0,hx0⟩:∃ u,r.1[0]?=some u:=⟨_,List.getElem?_eq_getElem (by rw [hrw];decide)⟩
   have d0:=he.cell (hci 0 _ hx0)
   obtain⟨x1,hx1⟩:∃ u,r.1[1]?=some u:=⟨_,List.getElem?_eq_getElem (by rw [hrw];decide)⟩
   have d1:=he.cell (hci 1 _ hx1)
   have d2:=he.cell hcs
   simp only [Nat.add_zero,Nat.reduceAdd] at d0 d1 d2
   have hin:=hin0.ext he
   obtain⟨sa,sn,sc,rfl⟩:=hin.shape
   have HK:=Lib.hid hr
   have hz1:z≤1048576:=by omega
   clear hci hcs hrw hr hin0 hz hx0 hx1
   go_wp2_with (first|(go_at_call 206;refine (szMsg_c _ _ _ _ r.2 r.2.length rfl _ (hin.ext xT) oM oM).mono ?_;rintro e w1 ⟨v1,rfl,hx,hv⟩;rcases hv with ⟨rfl,q1⟩|⟨rfl,q1⟩))
   ·
    go_ret
    refine⟨_,rfl,he.trans xT,.inl ⟨rfl,?_⟩⟩
    have h2:=rowsSize_take HK.out;have h3:=sum_take_le rows (k+1);have h4:=HZ.out
    unfold rowsSize;omega
   go_roundw
   case rel =>
    have h2:=rowsSize_take HK.out;have h4:=HZ.out
    exact⟨k+1,by omega,by go_num,⟨_,by omega,by omega,rfl⟩,he.trans xT⟩
   case measure=>simp [intOf];omega
  obtain rfl:k=rows.length:=by omega
  clear hz
  go_wp2
  go_ret
  have h4:=HZ.out
  rw [List.take_length] at h4
  refine⟨_,rfl,he,.inr ⟨congrArg (Value.int .i64) ?_,?_⟩⟩ <;> (unfold rowsSize;omega)
def RdMsgs (w:World) (v:Value) (l:List NRow):Prop:=Nest 2 w v l
def OwMsgs (B:Nat) (w:World) (v:Value) (l:List NRow) (F:List Nat):Prop:=∃ ss:List Value,OwnNs B 255 2 2 w v l ss∧F=feet (v :: ss)
def MkMsgs (B:Nat) (w:World) (v:Value) (l:List NRow) (F:List Nat) (q:Int):Prop:=∃ ss:List Value,OwnNs B 255 2 2 w v (marks 2 q l) ss∧F=feet (v :: ss)
section
variable {B B':Nat} {w w':World} {v:Value} {l:List NRow} {F:List Nat} {q:Int}
theorem RdMsgs.shape (h:RdMsgs w v l):∃ a n k,v=.slice a n k:=Nest.shape h
theorem RdMsgs.ext (h:RdMsgs w v l) (x:Ext w w'):RdMsgs w' v l:=Nest.ext h x
theorem OwMsgs.of (h:OwnNest B 255 2 2 w v l):∃ F,OwMsgs B w v l F:=let ⟨ss,h⟩:=h;⟨_,ss,h,rfl⟩
theorem OwMsgs.rd (h:OwMsgs B w v l F):RdMsgs w v l:=let ⟨_,h,_⟩:=h;h.nest
theorem OwMsgs.ext (h:OwMsgs B w v l F) (x:Ext w w'):OwMsgs B w' v l F:=let ⟨s,h,e⟩:=h;⟨s,h.ext x,e⟩
theorem OwMsgs.keep (h:OwMsgs B w v l F) (x:Chg B w w'):OwMsgs B w' v l F:=let ⟨s,h,e⟩:=h;⟨s,h.keep x,e⟩
theorem OwMsgs.mono (h:OwMsgs B w v l F) (x:B'≤B):OwMsgs B' w v l F:=let ⟨s,h,e⟩:=h;⟨s,h.mono x,e⟩
theorem OwMsgs.upd (h:OwMsgs B w v l F) {fs:List Nat} (x:Upd w w' fs) (hn:∀ k,k ∈ F→k ∈ fs→False):OwMsgs B w' v l F:=by
 obtain⟨s,h,rfl⟩:=h
 exact⟨s,h.upd x hn,rfl⟩
theorem OwMsgs.low (h:OwMsgs B w v l F):∀ k,k ∈ F→B≤k∧k<w.heap.size:=by
 obtain⟨s,h,rfl⟩:=h
 exact h.foot
theorem MkMsgs.ext (h:MkMsgs B w v l F q) (x:Ext w w'):MkMsgs B w' v l F q:=let ⟨s,h,e⟩:=h;⟨s,h.ext x,e⟩
theorem to_Msgs (h:RdMsgs w v l) (q0:rowsSize l≤1048576) :
  Calls Tryz.prog 129 #[v] w (Ret w fun v' w'=>∃ F,OwMsgs w.heap.size w' v' l F):=by
 refine (toMsgS_c w v _ h q0).mono ?_
 rintro e w' ⟨_,rfl,hx,g⟩
 exact⟨_,rfl,hx,OwMsgs.of g⟩
theorem sz_Msgs (h:RdMsgs w v l) {left:Int} (h0:0≤left) (h1:left≤1048576) :
  Calls Tryz.prog 105 #[v,.int .i64 left] w (Ret w fun v' _=>SzR left (rowsSize l) v'):=szMsgS_c w v _ left h h0 h1
theorem eq_Msgs {u:Value} (h:RdMsgs w v l) (k:RdMsgs w u l):Calls Tryz.prog 150 #[v,u] w (RetV w (.bool true)):=eqMsgS_c w v u _ h k
end
theorem rqB10 {p:Prop} (h:p:=by intro KQ hKQ;(repeat (first|go_big_quiet_skip|(go_big_quiet_want;first|(refine quiet_load _ _ _ ?_ rfl rfl (fun wq hq=>?_) ?_;rotate_left;(focus (have q0:=hq.cell d0;have q1:=hq.cell d1;go_simp;first|done|rfl));(try simp only [redA,Act.put]);go_big_quiet_on)|(go_big_quiet_op;first|go_big_quiet_on|(refine⟨_,fun _ _=>rfl,?_⟩;go_big_quiet_on)|(apply Exists.intro;refine⟨fun wq hq=>?_,?_⟩;(focus (first|exact call_same hq (by have c:=l7Id_c wq d.Id;rw [hid] at c;exact c)));go_big_quiet_on)))));exact wpQuiet_nil hKQ):p:=h
theorem rqB11 {p:Prop} (h:p:=by intro KQ hKQ;(repeat (first|go_big_quiet_skip|(go_big_quiet_want;first|(refine quiet_load _ _ _ ?_ rfl rfl (fun wq hq=>?_) ?_;rotate_left;(focus (have q0:=hq.cell d0;have q1:=hq.cell d1;go_simp;first|done|rfl));(try simp only [redA,Act.put]);go_big_quiet_on)|(go_big_quiet_op;first|go_big_quiet_on|(refine⟨_,fun _ _=>rfl,?_⟩;go_big_quiet_on)|(apply Exists.intro;refine⟨fun wq hq=>?_,?_⟩;(focus (first|exact call_same hq (by have c:=l7Id_c wq d.Id;rw [hid] at c;exact c)|exact call_same hq (by have c:=sTimeOk_c wq d.Due;rw [htm] at c;exact c)));go_big_quiet_on)))));exact wpQuiet_nil hKQ):p:=h
theorem rqB12 {p:Prop} (h:p:=by intro KQ hKQ;(repeat (first|go_big_quiet_skip|(go_big_quiet_want;first|(refine quiet_load _ _ _ ?_ rfl rfl (fun wq hq=>?_) ?_;rotate_left;(focus (have q0:=hq.cell d0;have q1:=hq.cell d1;have p0:=hq.cell e0;have p1:=hq.cell e1;go_simp;first|done|rfl));(try simp only [redA,Act.put]);go_big_quiet_on)|(go_big_quiet_op;first|go_big_quiet_on|(refine⟨_,fun _ _=>rfl,?_⟩;go_big_quiet_on)|(apply Exists.intro;refine⟨fun wq hq=>?_,?_⟩;(focus (first|exact call_same hq (by have c:=l7Id_c wq d.Id;rw [hid] at c;exact c)|exact call_same hq (by have c:=sTimeOk_c wq d.Due;rw [htm] at c;exact c)|exact call_ext hq (by have c:=l11DueLess_c wq e d;rw [hls] at c;exact c)));go_big_quiet_on)))));exact wpQuiet_nil hKQ):p:=h
theorem l11Open_c (w:World) (v:Value) (l:List DDue) (h:Ints 2 w v (dues l)):Calls Tryz.prog 419 #[v] w (RetV w (.bool (openOk l))):=by
 obtain⟨a,cap,rfl,hcap,hm,ha⟩:=h.recs (f:=DDue.ints) (fun _=>rfl) dC
 have HA:=Lib.hid ha
 clear ha
 unfold maxLen at hm
 by_cases h8:8<l.length
 ·
  rw [openOk_false (fun hh=>by have:=hh.1;omega)]
  go_enter Tryz.func419,Tryz.ntmps419
  go_wp2
  go_ret
  exact⟨rfl,Ext.refl _⟩
 have h8':decide ((8:Int)<(l.length:Int))=false:=by simp;omega
 go_enter Tryz.func419,Tryz.ntmps419
 go_wp2
 go_loopw [3] (fun i wr=>∃ k:Nat,k≤l.length∧i=.int .i64 k∧Ext w wr∧∀ i,i<k→OpenAt l i) (fun i _=>l.length - (intOf i).toNat)
 case atStart=>exact⟨0,Nat.zero_le _,rfl,Ext.refl _,fun i hi=>by omega⟩
 case round =>
  obtain⟨k,hk,rfl,he,hok⟩:=hrel
  have HO:=Lib.hid hok
  clear hok
  by_cases hlt:k<l.length
  ·
   obtain⟨d,b1,o1,hd,rfl,hb1,c⟩:=HA.out k hlt
   have d0:=he.cell (c 0 _ dC rfl)
   have d1:=he.cell (c 1 _ dC rfl)
   simp only [Nat.add_zero] at d0
   have HD:=Lib.hid hd
   clear c hd
   cases hid:idOk d.Id
   ·
    go_wp2
    refine rx0 rqB10 fun w1 hx1=>?_
    go_wp2
    go_ret
    exact⟨congrArg (fun z=>Ending.returned (.bool z)) (openOk_false (fun hh=>by have:=(hh.2 k hlt d HD.out).1;rw [hid] at this;cases this)).symm,he.trans hx1⟩
   cases htm:timeOk d.Due
   ·
    go_wp2
    refine rx0 rqB11 fun w1 hx1=>?_
    go_wp2
    go_ret
    exact⟨congrArg (fun z=>Ending.returned (.bool z)) (openOk_false (fun hh=>by have:=(hh.2 k hlt d HD.out).2.1;rw [htm] at this;cases this)).symm,he.trans hx1⟩
   have hnext:(∀ e,0<k→l[k - 1]?=some e→dueLess e d=true)→(∀ i e,i<k→l[i]?=some e→e.Id ≠ d.Id)→∀ i,i<k+1→OpenAt l i:=by
    intro n1 n2 i hi
    by_cases hik:i=k
    ·
     subst hik
     intro d' hd'
     rw [HD.out] at hd'
     obtain rfl:=Option.some.inj hd'
     exact⟨hid,htm,n1,n2⟩
    exact HO.out i oM
   have HN:=Lib.hid hnext
   clear hnext
   have hdup:∀ i e,i<k→l[i]?=some e→e.Id=d.Id→openOk l=false:=fun i e hi he' hh=>openOk_false (fun ho=>(ho.2 k hlt d HD.out).2.2.2 i e hi he' hh)
   have HU:=Lib.hid hdup
   clear hdup
   by_cases hk0:k=0
   ·
    subst hk0
    simp only [Nat.zero_mul,Nat.add_zero] at d0 d1
    go_wp2
    refine rx0 rqB11 fun w1 hx1=>?_
    go_wp2
    go_loopw [4] (fun i wr'=>i=.int .i64 0∧Ext wr wr') (fun _ _=>0)
    case atStart=>exact⟨rfl,hx1⟩
    case round =>
     obtain⟨rfl,he'⟩:=hrel
     go_wp2
     go_roundw
     case rel=>exact⟨1,by omega,rfl,he.trans he',HN.out (fun e h=>by omega) (fun i e h=>by omega)⟩
     case measure=>simp [intOf];omega
   obtain⟨e,b2,o2,hde,hbo,_,c⟩:=HA.out (k - 1) oM
   obtain⟨rfl,rfl⟩:b1=b2∧o1=o2:=by simpa using hbo
   have e0:=he.cell (c 0 _ dC rfl)
   have e1:=he.cell (c 1 _ dC rfl)
   simp only [Nat.add_zero] at e0
   have HE:=Lib.hid hde
   clear c hde hbo
   have hk1:decide (0<k)=true:=by simp;omega
   cases hls:dueLess e d
   ·
    go_wp2
    refine rx0 rqB12 fun w1 hx1=>?_
    go_wp2
    go_ret
    exact⟨congrArg (fun z=>Ending.returned (.bool z)) (openOk_false (fun hh=>by have:=(hh.2 k hlt d HD.out).2.2.1 e oM HE.out;rw [hls] at this;cases this)).symm,he.trans hx1⟩
   go_wp2
   refine rx0 rqB12 fun w1 hx1=>?_
   go_wp2
   go_loopw [4] (fun i wr'=>∃ m:Nat,m≤k∧i=.int .i64 m∧Ext wr wr'∧∀ i e,i<m→l[i]?=some e→e.Id ≠ d.Id) (fun i _=>k - (intOf i).toNat)
   case atStart=>exact⟨0,by omega,rfl,hx1,fun i e h=>by omega⟩
   case round =>
    obtain⟨m,hm',rfl,he',hno⟩:=hrel
    have HM:=Lib.hid hno
    clear hno
    by_cases hmk:m<k
    ·
     obtain⟨g,b2,o2,hdg,hbo,_,c⟩:=HA.out m oM
     obtain⟨rfl,rfl⟩:b1=b2∧o1=o2:=by simpa using hbo
     have g0:=(he.trans he').cell (c 0 _ dC rfl)
     have f0:=he'.cell d0
     simp only [Nat.add_zero] at g0
     have HG:=Lib.hid hdg
     clear c hdg hbo
     by_cases heq:g.Id=d.Id
     ·
      have hb:(g.Id == d.Id)=true:=by simpa using heq
      have HEQ:=Lib.hid heq
      clear heq
      go_wp2
      go_quiet (fail)
      go_wp2
      go_ret
      exact⟨congrArg (fun z=>Ending.returned (.bool z)) (HU.out m g hmk HG.out HEQ.out).symm,(he.trans he').drewN _⟩
     have hb:(g.Id == d.Id)=false:=by simpa using heq
     go_wp2
     go_quiet (fail)
     go_wp2
     go_roundw
     case rel=>
      refine⟨m+1,by omega,by go_num,he'.drewN _,fun i e' hi hl=>?_⟩
      by_cases him:i=m
      ·
       subst him
       rw [HG.out] at hl
       obtain rfl:=Option.some.inj hl
       exact heq
      exact HM.out i e' oM hl
     case measure=>simp [intOf];omega
    obtain rfl:m=k:=by omega
    go_wp2
    go_roundw
    case rel=>exact⟨m+1,by omega,by go_num,he.trans he',HN.out (fun e' _ hl=>by rw [HE.out] at hl;obtain rfl:=Option.some.inj hl;exact hls) HM.out⟩
    case measure=>simp [intOf];omega
  obtain rfl:k=l.length:=by omega
  go_wp2
  go_ret
  exact⟨congrArg (fun z=>Ending.returned (.bool z)) (openOk_true ⟨by omega,HO.out⟩).symm,he⟩
theorem l11Sched_c (w:World) (x:Int):Calls Tryz.prog 418 #[.int .i64 x] w fun e w'=>e=.returned (.bool (schedOk x))∧w=w':=by
 by_cases h2:x=2
 ·
  subst h2
  go_enter Tryz.func418,Tryz.ntmps418
  go_wp2
  go_ret
  exact⟨rfl,rfl⟩
 have e2:(x == 2)=false:=by simpa using h2
 by_cases h3:x=3
 ·
  subst h3
  go_enter Tryz.func418,Tryz.ntmps418
  go_wp2
  go_ret
  exact⟨rfl,rfl⟩
 have e3:(x == 3)=false:=by simpa using h3
 go_enter Tryz.func418,Tryz.ntmps418
 go_wp2
 go_ret
 exact⟨by simp [schedOk,e2,e3],rfl⟩
theorem l16Who_c (w:World) (x:Int):Calls Tryz.prog 175 #[.int .i64 x] w fun e w'=>e=.returned (.bool (schedOk x))∧w=w':=by
 by_cases h2:x=2
 ·
  subst h2
  go_enter Tryz.func175,Tryz.ntmps175
  go_wp2
  go_ret
  exact⟨rfl,rfl⟩
 have e2:(x == 2)=false:=by simpa using h2
 by_cases h3:x=3
 ·
  subst h3
  go_enter Tryz.func175,Tryz.ntmps175
  go_wp2
  go_ret
  exact⟨rfl,rfl⟩
 have e3:(x == 3)=false:=by simpa using h3
 go_enter Tryz.func175,Tryz.ntmps175
 go_wp2
 go_ret
 exact⟨by simp [schedOk,e2,e3],rfl⟩
theorem schedOk_c (w:World) (x:Int):Calls Tryz.prog 170 #[.int .i64 x] w fun e w'=>e=.returned (.bool (schedOk x))∧w=w':=by
 by_cases h2:x=2
 ·
  subst h2
  go_enter Tryz.func170,Tryz.ntmps170
  go_wp2
  go_ret
  exact⟨rfl,rfl⟩
 have e2:(x == 2)=false:=by simpa using h2
 by_cases h3:x=3
 ·
  subst h3
  go_enter Tryz.func170,Tryz.ntmps170
  go_wp2
  go_ret
  exact⟨rfl,rfl⟩
 have e3:(x == 3)=false:=by simpa using h3
 go_enter Tryz.func170,Tryz.ntmps170
 go_wp2
 go_ret
 exact⟨by simp [schedOk,e2,e3],rfl⟩
theorem sJobsOk2_c (w:World) (j:DJobs) (s:Value) (h:Ints 2 w s (dues j.Open)):Calls Tryz.prog 390 #[.agg #[.int .i64 j.Index,.int .i64 j.Time,.int .i64 j.Holder,.int .i64 j.Epoch,.int .i64 j.Until,s]] w (RetV w (.bool (jobsOk2 j))):=by
 obtain⟨a,n,c,rfl⟩:=h.shape
 by_cases hH:j.Holder=0
 ·
  have hH':(j.Holder == 0)=true:=by simpa using hH
  clear hH
  go_enter Tryz.func390,Tryz.ntmps390
  go_wp2_with (first|(go_at_call 303;refine (l1In_c _ _ _ _).mono ?_;rintro e w1 ⟨rfl,rfl⟩)|(go_at_call 207;refine (sTimeOk_c _ _).mono ?_;rintro e w1 ⟨rfl,rfl⟩)|(go_at_call 418;refine (l11Sched_c _ _).mono ?_;rintro e w1 ⟨rfl,rfl⟩)|(go_at_call 419;refine (l11Open_c _ _ _ (h.ext xT)).mono ?_;rintro e w1 ⟨rfl,hx1⟩))
  all_goals
   go_ret
   refine⟨congrArg (fun z=>Ending.returned (.bool z)) ?_,?_⟩
   ·
    simp [jobsOk2, *]
   exact xT
 have hH':(j.Holder == 0)=false:=by simpa using hH
 clear hH
 go_enter Tryz.func390,Tryz.ntmps390
 go_wp2_with (first|(go_at_call 303;refine (l1In_c _ _ _ _).mono ?_;rintro e w1 ⟨rfl,rfl⟩)|(go_at_call 207;refine (sTimeOk_c _ _).mono ?_;rintro e w1 ⟨rfl,rfl⟩)|(go_at_call 418;refine (l11Sched_c _ _).mono ?_;rintro e w1 ⟨rfl,rfl⟩)|(go_at_call 419;refine (l11Open_c _ _ _ (h.ext xT)).mono ?_;rintro e w1 ⟨rfl,hx1⟩))
 all_goals
  go_ret
  refine⟨congrArg (fun z=>Ending.returned (.bool z)) ?_,?_⟩
  ·
   simp [jobsOk2, *]
  exact xT
theorem zb (w:World):(zeroValue 4).run Tryz.prog w=.ok (.bool false) w:=by kernel_rfl
theorem jobsOk2_bad (w:World) (j:DJobs) (s:Value) (h:Ints 2 w s (dues j.Open)) (hbad:¬ (inb j.Index 0 2000=true∧timeOk j.Time=true∧(j.Holder == 0 || schedOk j.Holder)=true∧inb j.Epoch 0 1000=true∧inb j.Until 0 1001000=true∧j.Open.length≤8)):Calls Tryz.prog 408 #[.agg #[.int .i64 j.Index,.int .i64 j.Time,.int .i64 j.Holder,.int .i64 j.Epoch,.int .i64 j.Until,s]] w (RetV w (.bool (jobsOk2 j))):=by
 obtain⟨a,cap,rfl,hcap,hm,ha⟩:=h.recs (f:=DDue.ints) (fun _=>rfl) dC
 have HA:=Lib.hid ha
 clear ha
 unfold maxLen at hm
 have hmm:=@run_makeMap Tryz.prog
 have hb0:jobsOk2 j=false:=by
  have e8:¬ j.Open.length≤8→openOk j.Open=false:=fun hn=>openOk_false (fun hh=>hn hh.1)
  cases h1:inb j.Index 0 2000 <;> cases h2:timeOk j.Time <;> cases h3:(j.Holder == 0 || schedOk j.Holder) <;> cases h4:inb j.Epoch 0 1000 <;> cases h5:inb j.Until 0 1001000 <;> simp only [jobsOk2,h1,h2,h3,h4,h5,Bool.false_and,Bool.and_false,Bool.true_and]
  exact e8 (fun h8=>hbad ⟨h1,h2,h3,h4,h5,h8⟩)
 rw [hb0]
 have HBD:=Lib.hid hbad
 clear hb0 hbad
 by_cases hH:j.Holder=0
 ·
  have hH':(j.Holder == 0)=true:=by simpa using hH
  have hH2:(j.Holder != 0)=false:=by simpa using hH
  clear hH
  go_enter Tryz.func408,Tryz.ntmps408
  go_wp2_with (first|(go_at_call 176;refine (between_c _ _ _ _).mono ?_;rintro e w1 ⟨rfl,rfl⟩)|(go_at_call 177;refine (timeOk_c _ _).mono ?_;rintro e w1 ⟨rfl,rfl⟩)|(go_at_call 170;refine (schedOk_c _ _).mono ?_;rintro e w1 ⟨rfl,rfl⟩))
  all_goals try (go_ret;refine⟨rfl,?_⟩;(exact xT);done)
  exfalso
  refine HBD.out ⟨?_,?_,?_,?_,?_,?_⟩
  all_goals first|assumption|omega|(rw [Bool.or_eq_true];first|exact .inl hH'|exact .inr (by simpa using ‹(!schedOk j.Holder)=false›))
 have hH':(j.Holder == 0)=false:=by simpa using hH
 have hH2:(j.Holder != 0)=true:=by simpa using hH
 clear hH
 go_enter Tryz.func408,Tryz.ntmps408
 go_wp2_with (first|(go_at_call 176;refine (between_c _ _ _ _).mono ?_;rintro e w1 ⟨rfl,rfl⟩)|(go_at_call 177;refine (timeOk_c _ _).mono ?_;rintro e w1 ⟨rfl,rfl⟩)|(go_at_call 170;refine (schedOk_c _ _).mono ?_;rintro e w1 ⟨rfl,rfl⟩))
 all_goals try (go_ret;refine⟨rfl,?_⟩;(exact xT);done)
 exfalso
 refine HBD.out ⟨?_,?_,?_,?_,?_,?_⟩
 all_goals first|assumption|omega|(rw [Bool.or_eq_true];first|exact .inl hH'|exact .inr (by simpa using ‹(!schedOk j.Holder)=false›))
theorem rqB13 {p:Prop} (h:p:=by intro KQ hKQ;(repeat (first|go_big_quiet_skip|(go_big_quiet_want;first|(refine quiet_load _ _ _ ?_ rfl rfl (fun wq hq=>?_) ?_;rotate_left;(focus (have q0:=hq.cell x0;have q1:=hq.cell x1;go_simp;first|done|rfl));(try simp only [redA,Act.put]);go_big_quiet_on)|(refine quiet_lookup _ _ _ _ _ ?_ rfl rfl rfl (fun wq hq=>?_) ?_;rotate_left;(focus (fail));(try simp only [redA,Act.put]);go_big_quiet_on)|(go_big_quiet_op;first|go_big_quiet_on|(refine⟨_,fun _ _=>rfl,?_⟩;go_big_quiet_on)|(apply Exists.intro;refine⟨fun wq hq=>?_,?_⟩;(focus (first|exact call_same hq (by have c:=idOk_c wq d.Id;rw [hid] at c;exact c)));go_big_quiet_on)))));exact wpQuiet_nil hKQ):p:=h
theorem rqB14 {p:Prop} (h:p:=by intro KQ hKQ;(repeat (first|go_big_quiet_skip|(go_big_quiet_want;first|(refine quiet_load _ _ _ ?_ rfl rfl (fun wq hq=>?_) ?_;rotate_left;(focus (have q0:=hq.cell x0;have q1:=hq.cell x1;go_simp;first|done|rfl));(try simp only [redA,Act.put]);go_big_quiet_on)|(refine quiet_lookup _ _ _ _ _ ?_ rfl rfl rfl (fun wq hq=>?_) ?_;rotate_left;(focus (fail));(try simp only [redA,Act.put]);go_big_quiet_on)|(go_big_quiet_op;first|go_big_quiet_on|(refine⟨_,fun _ _=>rfl,?_⟩;go_big_quiet_on)|(apply Exists.intro;refine⟨fun wq hq=>?_,?_⟩;(focus (first|exact call_same hq (by have c:=idOk_c wq d.Id;rw [hid] at c;exact c)|exact call_same hq (by have c:=timeOk_c wq d.Due;rw [htm] at c;exact c)));go_big_quiet_on)))));exact wpQuiet_nil hKQ):p:=h
theorem rqB15 {p:Prop} (h:p:=by intro KQ hKQ;(repeat (first|go_big_quiet_skip|(go_big_quiet_want;first|(refine quiet_load _ _ _ ?_ rfl rfl (fun wq hq=>?_) ?_;rotate_left;(focus (have q0:=hq.cell x0;have q1:=hq.cell x1;go_simp;first|done|rfl));(try simp only [redA,Act.put]);go_big_quiet_on)|(refine quiet_lookup _ _ _ _ _ ?_ rfl rfl rfl (fun wq hq=>?_) ?_;rotate_left;(focus (exact (by have c:=(hset'.ext hq).look (t:=407) Tryz.underlying2 Tryz.underlying407 Tryz.underlying4 (zb _) hw;rw [hnu] at c;exact c)));(try simp only [redA,Act.put]);go_big_quiet_on)|(go_big_quiet_op;first|go_big_quiet_on|(refine⟨_,fun _ _=>rfl,?_⟩;go_big_quiet_on)|(apply Exists.intro;refine⟨fun wq hq=>?_,?_⟩;(focus (first|exact call_same hq (by have c:=idOk_c wq d.Id;rw [hid] at c;exact c)|exact call_same hq (by have c:=timeOk_c wq d.Due;rw [htm] at c;exact c)));go_big_quiet_on)))));exact wpQuiet_nil hKQ):p:=h
theorem rqB16 {p:Prop} (h:p:=by intro KQ hKQ;(repeat (first|go_big_quiet_skip|(go_big_quiet_want;first|(refine quiet_load _ _ _ ?_ rfl rfl (fun wq hq=>?_) ?_;rotate_left;(focus (have q0:=hq.cell x0;have q1:=hq.cell x1;have q2:=hq.cell jb';have p0:=hq.cell e0';have p1:=hq.cell e1';go_simp;first|done|rfl));(try simp only [redA,Act.put]);go_big_quiet_on)|(refine quiet_lookup _ _ _ _ _ ?_ rfl rfl rfl (fun wq hq=>?_) ?_;rotate_left;(focus (exact (by have c:=(hset'.ext hq).look (t:=407) Tryz.underlying2 Tryz.underlying407 Tryz.underlying4 (zb _) hw;rw [hnu] at c;exact c)));(try simp only [redA,Act.put]);go_big_quiet_on)|(go_big_quiet_op;first|go_big_quiet_on|(refine⟨_,fun _ _=>rfl,?_⟩;go_big_quiet_on)|(apply Exists.intro;refine⟨fun wq hq=>?_,?_⟩;(focus (first|exact call_same hq (by have c:=idOk_c wq d.Id;rw [hid] at c;exact c)|exact call_same hq (by have c:=timeOk_c wq d.Due;rw [htm] at c;exact c)|exact call_ext hq (by have c:=dueLess_c wq e d;rw [hls] at c;exact c)));go_big_quiet_on)))));exact wpQuiet_nil hKQ):p:=h
theorem jobsOk2_free (w:World) (j:DJobs) (s:Value) (h:Ints 2 w s (dues j.Open)) (h1:inb j.Index 0 2000=true) (h2:timeOk j.Time=true) (h3:(j.Holder == 0)=true) (h4:inb j.Epoch 0 1000=true) (h5:inb j.Until 0 1001000=true) (h8:j.Open.length≤8):Calls Tryz.prog 408 #[.agg #[.int .i64 j.Index,.int .i64 j.Time,.int .i64 j.Holder,.int .i64 j.Epoch,.int .i64 j.Until,s]] w (RetV w (.bool (jobsOk2 j))):=by
 obtain⟨a,cap,rfl,hcap,hm,ha⟩:=h.recs (f:=DDue.ints) (fun _=>rfl) dC
 have HA:=Lib.hid ha
 clear ha
 unfold maxLen at hm
 have hmm:=@run_makeMap Tryz.prog
 have hb0:jobsOk2 j=openOk j.Open:=by simp [jobsOk2, *]
 have HB0:=Lib.hid hb0
 clear hb0
 have h8':decide ((8:Int)<(j.Open.length:Int))=false:=by simp;omega
 have h3':(j.Holder != 0)=false:=by simpa using h3
 go_enter Tryz.func408,Tryz.ntmps408
 go_wp2_with (first|(go_at_call 176;refine (between_c _ _ _ _).mono ?_;rintro e w1 ⟨rfl,rfl⟩)|(go_at_call 177;refine (timeOk_c _ _).mono ?_;rintro e w1 ⟨rfl,rfl⟩)|(go_at_call 170;refine (schedOk_c _ _).mono ?_;rintro e w1 ⟨rfl,rfl⟩))
 clear hmm
 go_loopw [47] (fun i wr=>∃ k:Nat,k≤j.Open.length∧i=.int .i64 k∧Ext w wr∧wr.cell? ⟨w.heap.size,5,none⟩=some (.slice a j.Open.length cap)∧(∃ S,BSet Tryz.prog 2 4 wr (w.heap.size+1) k S∧(∀ i,i<k→OpenAt j.Open i)∧(∀ x,x ∈ S ↔ ∃ i e,i<k∧j.Open[i]?=some e∧e.Id=x))) (fun i _=>j.Open.length - (intOf i).toNat)
 case atStart=>exact⟨0,Nat.zero_le _,rfl,((Ext.refl _).alloc _).alloc _,by simp,[],by simpa using BSet.made Tryz.prog 2 4 (w.alloc _),fun i hi=>by omega,fun x=>by simp⟩
 case round =>
  obtain⟨k,hk,rfl,he,jb,S,hset,hok,hS⟩:=hrel
  have HO:=Lib.hid hok
  have HM:=Lib.hid hS
  clear hok hS
  have hsz:=he.size
  by_cases hlt:k<j.Open.length
  ·
   obtain⟨d,b1,o1,hd,rfl,hb1,c⟩:=HA.out k hlt
   have d0:=he.cell (c 0 _ dC rfl)
   have d1:=he.cell (c 1 _ dC rfl)
   simp only [Nat.add_zero] at d0
   have HD:=Lib.hid hd
   clear c hd
   go_wp2
   obtain⟨W,hW⟩:∃ W,W=wr.alloc (.cells #[.int .i64 d.Id,.int .i64 d.Due] 286):=⟨_,rfl⟩
   have x0:W.cell? ⟨wr.heap.size,0,none⟩=some (.int .i64 d.Id):=by rw [hW];simp
   have x1:W.cell? ⟨wr.heap.size,1,none⟩=some (.int .i64 d.Due):=by rw [hW];simp
   have jb':W.cell? ⟨w.heap.size,5,none⟩=some (.slice (some ⟨b1,o1,none⟩) j.Open.length cap):=by rw [hW];exact ((Ext.refl wr).alloc _).cell jb
   have hset':BSet Tryz.prog 2 4 W (w.heap.size+1) k S:=by rw [hW];exact hset.ext ((Ext.refl wr).alloc _)
   have heW:Ext w W:=by rw [hW];exact he.alloc _
   have heR:Ext wr W:=by rw [hW];exact (Ext.refl wr).alloc _
   rw [← hW]
   clear hW
   cases hid:idOk d.Id
   ·
    refine rx0 rqB13 fun w1 hx1=>?_
    go_wp2
    go_ret
    exact⟨congrArg (fun z=>Ending.returned (.bool z)) (HB0.out.trans (openOk_false (fun hh=>by have:=(hh.2 k hlt d HD.out).1;rw [hid] at this;cases this))).symm,heW.trans hx1⟩
   have hw:(Lit.int .i64 d.Id).wf=true:=by
    have:=inb_true.1 hid
    exact WalkArith.wf_i64 oM
   cases htm:timeOk d.Due
   ·
    refine rx0 rqB14 fun w1 hx1=>?_
    go_wp2
    go_ret
    exact⟨congrArg (fun z=>Ending.returned (.bool z)) (HB0.out.trans (openOk_false (fun hh=>by have:=(hh.2 k hlt d HD.out).2.1;rw [htm] at this;cases this))).symm,heW.trans hx1⟩
   by_cases hmem:d.Id ∈ S
   ·
    have hnu:decide (d.Id ∈ S)=true:=by simpa using hmem
    have HMM:=Lib.hid hmem
    clear hmem
    refine rx0 rqB15 fun w1 hx1=>?_
    go_wp2
    go_ret
    exact⟨congrArg (fun z=>Ending.returned (.bool z)) (HB0.out.trans (openOk_false (fun hh=>by obtain⟨i,e,hi,he',hid'⟩:=(HM.out d.Id).1 HMM.out;exact (hh.2 k hlt d HD.out).2.2.2 i e hi he' hid'))).symm,heW.trans hx1⟩
   have hnu:decide (d.Id ∈ S)=false:=by simpa using hmem
   have hnd:∀ i e,i<k→j.Open[i]?=some e→e.Id ≠ d.Id:=fun i e hi he' hid'=>hmem ((HM.out d.Id).2 ⟨i,e,hi,he',hid'⟩)
   have HND:=Lib.hid hnd
   clear hmem hnd
   have hnext:(∀ e,0<k→j.Open[k - 1]?=some e→dueLess e d=true)→∀ i,i<k+1→OpenAt j.Open i:=by
    intro n1 i hi
    by_cases hik:i=k
    ·
     subst hik
     intro d' hd'
     rw [HD.out] at hd'
     obtain rfl:=Option.some.inj hd'
     exact⟨hid,htm,n1,HND.out⟩
    exact HO.out i oM
   have HN:=Lib.hid hnext
   clear hnext
   have hs2:∀ x,x ∈ d.Id :: S ↔ ∃ i e,i<k+1∧j.Open[i]?=some e∧e.Id=x:=by
    intro x
    rw [List.mem_cons,HM.out x]
    constructor
    ·
     rintro (rfl|⟨i,e,hi,h1,h2⟩)
     ·
      exact⟨k,d,by omega,HD.out,rfl⟩
     exact⟨i,e,by omega,h1,h2⟩
    rintro ⟨i,e,hi,h1,h2⟩
    by_cases hik:i=k
    ·
     subst hik
     rw [HD.out] at h1
     obtain rfl:=Option.some.inj h1
     exact .inl h2.symm
    exact .inr ⟨i,e,by omega,h1,h2⟩
   have HS:=Lib.hid hs2
   clear hs2
   by_cases hk0:k=0
   ·
    subst hk0
    refine rx0 rqB15 fun w1 hx1=>?_
    have x0':=hx1.cell x0
    go_wp2_with (at_mapUpdate;refine wpList_put rfl _ _ _ 407 rfl 2 4 Tryz.underlying2 Tryz.underlying407 Tryz.underlying4 _ _ _ _ rfl rfl rfl (hset'.ext hx1) (by unfold maxLen;omega) hw ?_;intro w2 hset2 hgr2)
    have hx2:=(heW.trans hx1).grownOwn hgr2 oM
    go_roundw
    case rel=>exact⟨0+1,by omega,by go_num,hx2,hgr2.cell (hx1.cell jb') (by first|(simp;done)|(simp;omega)),_,hset2,HN.out (fun e h=>by omega),HS.out⟩
    case measure=>simp [intOf];omega
   obtain⟨e,b2,o2,hde,hbo,_,c⟩:=HA.out (k - 1) oM
   obtain⟨rfl,rfl⟩:b1=b2∧o1=o2:=by simpa using hbo
   have e0':=heW.cell (c 0 _ dC rfl)
   have e1':=heW.cell (c 1 _ dC rfl)
   simp only [Nat.add_zero] at e0'
   have HE:=Lib.hid hde
   clear c hde hbo
   have hk1:decide (0<k)=true:=by simp;omega
   cases hls:dueLess e d
   ·
    refine rx0 rqB16 fun w1 hx1=>?_
    go_wp2
    go_ret
    exact⟨congrArg (fun z=>Ending.returned (.bool z)) (HB0.out.trans (openOk_false (fun hh=>by have:=(hh.2 k hlt d HD.out).2.2.1 e oM HE.out;rw [hls] at this;cases this))).symm,heW.trans hx1⟩
   refine rx0 rqB16 fun w1 hx1=>?_
   have x0':=hx1.cell x0
   go_wp2_with (at_mapUpdate;refine wpList_put rfl _ _ _ 407 rfl 2 4 Tryz.underlying2 Tryz.underlying407 Tryz.underlying4 _ _ _ _ rfl rfl rfl (hset'.ext hx1) (by unfold maxLen;omega) hw ?_;intro w2 hset2 hgr2)
   have hx2:=(heW.trans hx1).grownOwn hgr2 oM
   go_roundw
   case rel=>exact⟨k+1,by omega,by go_num,hx2,hgr2.cell (hx1.cell jb') (by first|(simp;done)|(simp;omega)),_,hset2,HN.out (fun e' _ hl=>by rw [HE.out] at hl;obtain rfl:=Option.some.inj hl;exact hls),HS.out⟩
   case measure=>simp [intOf];omega
  obtain rfl:k=j.Open.length:=by omega
  go_wp2
  go_ret
  exact⟨congrArg (fun z=>Ending.returned (.bool z)) (HB0.out.trans (openOk_true ⟨by omega,HO.out⟩)).symm,he⟩
theorem jobsOk2_held (w:World) (j:DJobs) (s:Value) (h:Ints 2 w s (dues j.Open)) (h1:inb j.Index 0 2000=true) (h2:timeOk j.Time=true) (h3:(j.Holder == 0)=false) (h6:schedOk j.Holder=true) (h4:inb j.Epoch 0 1000=true) (h5:inb j.Until 0 1001000=true) (h8:j.Open.length≤8):Calls Tryz.prog 408 #[.agg #[.int .i64 j.Index,.int .i64 j.Time,.int .i64 j.Holder,.int .i64 j.Epoch,.int .i64 j.Until,s]] w (RetV w (.bool (jobsOk2 j))):=by
 obtain⟨a,cap,rfl,hcap,hm,ha⟩:=h.recs (f:=DDue.ints) (fun _=>rfl) dC
 have HA:=Lib.hid ha
 clear ha
 unfold maxLen at hm
 have hmm:=@run_makeMap Tryz.prog
 have hb0:jobsOk2 j=openOk j.Open:=by simp [jobsOk2, *]
 have HB0:=Lib.hid hb0
 clear hb0
 have h8':decide ((8:Int)<(j.Open.length:Int))=false:=by simp;omega
 have h3':(j.Holder != 0)=true:=by simpa using h3
 go_enter Tryz.func408,Tryz.ntmps408
 go_wp2_with (first|(go_at_call 176;refine (between_c _ _ _ _).mono ?_;rintro e w1 ⟨rfl,rfl⟩)|(go_at_call 177;refine (timeOk_c _ _).mono ?_;rintro e w1 ⟨rfl,rfl⟩)|(go_at_call 170;refine (schedOk_c _ _).mono ?_;rintro e w1 ⟨rfl,rfl⟩))
 clear hmm
 go_loopw [47] (fun i wr=>∃ k:Nat,k≤j.Open.length∧i=.int .i64 k∧Ext w wr∧wr.cell? ⟨w.heap.size,5,none⟩=some (.slice a j.Open.length cap)∧(∃ S,BSet Tryz.prog 2 4 wr (w.heap.size+1) k S∧(∀ i,i<k→OpenAt j.Open i)∧(∀ x,x ∈ S ↔ ∃ i e,i<k∧j.Open[i]?=some e∧e.Id=x))) (fun i _=>j.Open.length - (intOf i).toNat)
 case atStart=>exact⟨0,Nat.zero_le _,rfl,((Ext.refl _).alloc _).alloc _,by simp,[],by simpa using BSet.made Tryz.prog 2 4 (w.alloc _),fun i hi=>by omega,fun x=>by simp⟩
 case round =>
  obtain⟨k,hk,rfl,he,jb,S,hset,hok,hS⟩:=hrel
  have HO:=Lib.hid hok
  have HM:=Lib.hid hS
  clear hok hS
  have hsz:=he.size
  by_cases hlt:k<j.Open.length
  ·
   obtain⟨d,b1,o1,hd,rfl,hb1,c⟩:=HA.out k hlt
   have d0:=he.cell (c 0 _ dC rfl)
   have d1:=he.cell (c 1 _ dC rfl)
   simp only [Nat.add_zero] at d0
   have HD:=Lib.hid hd
   clear c hd
   go_wp2
   obtain⟨W,hW⟩:∃ W,W=wr.alloc (.cells #[.int .i64 d.Id,.int .i64 d.Due] 286):=⟨_,rfl⟩
   have x0:W.cell? ⟨wr.heap.size,0,none⟩=some (.int .i64 d.Id):=by rw [hW];simp
   have x1:W.cell? ⟨wr.heap.size,1,none⟩=some (.int .i64 d.Due):=by rw [hW];simp
   have jb':W.cell? ⟨w.heap.size,5,none⟩=some (.slice (some ⟨b1,o1,none⟩) j.Open.length cap):=by rw [hW];exact ((Ext.refl wr).alloc _).cell jb
   have hset':BSet Tryz.prog 2 4 W (w.heap.size+1) k S:=by rw [hW];exact hset.ext ((Ext.refl wr).alloc _)
   have heW:Ext w W:=by rw [hW];exact he.alloc _
   have heR:Ext wr W:=by rw [hW];exact (Ext.refl wr).alloc _
   rw [← hW]
   clear hW
   cases hid:idOk d.Id
   ·
    refine rx0 rqB13 fun w1 hx1=>?_
    go_wp2
    go_ret
    exact⟨congrArg (fun z=>Ending.returned (.bool z)) (HB0.out.trans (openOk_false (fun hh=>by have:=(hh.2 k hlt d HD.out).1;rw [hid] at this;cases this))).symm,heW.trans hx1⟩
   have hw:(Lit.int .i64 d.Id).wf=true:=by
    have:=inb_true.1 hid
    exact WalkArith.wf_i64 oM
   cases htm:timeOk d.Due
   ·
    refine rx0 rqB14 fun w1 hx1=>?_
    go_wp2
    go_ret
    exact⟨congrArg (fun z=>Ending.returned (.bool z)) (HB0.out.trans (openOk_false (fun hh=>by have:=(hh.2 k hlt d HD.out).2.1;rw [htm] at this;cases this))).symm,heW.trans hx1⟩
   by_cases hmem:d.Id ∈ S
   ·
    have hnu:decide (d.Id ∈ S)=true:=by simpa using hmem
    have HMM:=Lib.hid hmem
    clear hmem
    refine rx0 rqB15 fun w1 hx1=>?_
    go_wp2
    go_ret
    exact⟨congrArg (fun z=>Ending.returned (.bool z)) (HB0.out.trans (openOk_false (fun hh=>by obtain⟨i,e,hi,he',hid'⟩:=(HM.out d.Id).1 HMM.out;exact (hh.2 k hlt d HD.out).2.2.2 i e hi he' hid'))).symm,heW.trans hx1⟩
   have hnu:decide (d.Id ∈ S)=false:=by simpa using hmem
   have hnd:∀ i e,i<k→j.Open[i]?=some e→e.Id ≠ d.Id:=fun i e hi he' hid'=>hmem ((HM.out d.Id).2 ⟨i,e,hi,he',hid'⟩)
   have HND:=Lib.hid hnd
   clear hmem hnd
   have hnext:(∀ e,0<k→j.Open[k - 1]?=some e→dueLess e d=true)→∀ i,i<k+1→OpenAt j.Open i:=by
    intro n1 i hi
    by_cases hik:i=k
    ·
     subst hik
     intro d' hd'
     rw [HD.out] at hd'
     obtain rfl:=Option.some.inj hd'
     exact⟨hid,htm,n1,HND.out⟩
    exact HO.out i oM
   have HN:=Lib.hid hnext
   clear hnext
   have hs2:∀ x,x ∈ d.Id :: S ↔ ∃ i e,i<k+1∧j.Open[i]?=some e∧e.Id=x:=by
    intro x
    rw [List.mem_cons,HM.out x]
    constructor
    ·
     rintro (rfl|⟨i,e,hi,h1,h2⟩)
     ·
      exact⟨k,d,by omega,HD.out,rfl⟩
     exact⟨i,e,by omega,h1,h2⟩
    rintro ⟨i,e,hi,h1,h2⟩
    by_cases hik:i=k
    ·
     subst hik
     rw [HD.out] at h1
     obtain rfl:=Option.some.inj h1
     exact .inl h2.symm
    exact .inr ⟨i,e,by omega,h1,h2⟩
   have HS:=Lib.hid hs2
   clear hs2
   by_cases hk0:k=0
   ·
    subst hk0
    refine rx0 rqB15 fun w1 hx1=>?_
    have x0':=hx1.cell x0
    go_wp2_with (at_mapUpdate;refine wpList_put rfl _ _ _ 407 rfl 2 4 Tryz.underlying2 Tryz.underlying407 Tryz.underlying4 _ _ _ _ rfl rfl rfl (hset'.ext hx1) (by unfold maxLen;omega) hw ?_;intro w2 hset2 hgr2)
    have hx2:=(heW.trans hx1).grownOwn hgr2 oM
    go_roundw
    case rel=>exact⟨0+1,by omega,by go_num,hx2,hgr2.cell (hx1.cell jb') (by first|(simp;done)|(simp;omega)),_,hset2,HN.out (fun e h=>by omega),HS.out⟩
    case measure=>simp [intOf];omega
   obtain⟨e,b2,o2,hde,hbo,_,c⟩:=HA.out (k - 1) oM
   obtain⟨rfl,rfl⟩:b1=b2∧o1=o2:=by simpa using hbo
   have e0':=heW.cell (c 0 _ dC rfl)
   have e1':=heW.cell (c 1 _ dC rfl)
   simp only [Nat.add_zero] at e0'
   have HE:=Lib.hid hde
   clear c hde hbo
   have hk1:decide (0<k)=true:=by simp;omega
   cases hls:dueLess e d
   ·
    refine rx0 rqB16 fun w1 hx1=>?_
    go_wp2
    go_ret
    exact⟨congrArg (fun z=>Ending.returned (.bool z)) (HB0.out.trans (openOk_false (fun hh=>by have:=(hh.2 k hlt d HD.out).2.2.1 e oM HE.out;rw [hls] at this;cases this))).symm,heW.trans hx1⟩
   refine rx0 rqB16 fun w1 hx1=>?_
   have x0':=hx1.cell x0
   go_wp2_with (at_mapUpdate;refine wpList_put rfl _ _ _ 407 rfl 2 4 Tryz.underlying2 Tryz.underlying407 Tryz.underlying4 _ _ _ _ rfl rfl rfl (hset'.ext hx1) (by unfold maxLen;omega) hw ?_;intro w2 hset2 hgr2)
   have hx2:=(heW.trans hx1).grownOwn hgr2 oM
   go_roundw
   case rel=>exact⟨k+1,by omega,by go_num,hx2,hgr2.cell (hx1.cell jb') (by first|(simp;done)|(simp;omega)),_,hset2,HN.out (fun e' _ hl=>by rw [HE.out] at hl;obtain rfl:=Option.some.inj hl;exact hls),HS.out⟩
   case measure=>simp [intOf];omega
  obtain rfl:k=j.Open.length:=by omega
  go_wp2
  go_ret
  exact⟨congrArg (fun z=>Ending.returned (.bool z)) (HB0.out.trans (openOk_true ⟨by omega,HO.out⟩)).symm,he⟩
theorem jobsOk2_c (w:World) (j:DJobs) (s:Value) (h:Ints 2 w s (dues j.Open)):Calls Tryz.prog 408 #[.agg #[.int .i64 j.Index,.int .i64 j.Time,.int .i64 j.Holder,.int .i64 j.Epoch,.int .i64 j.Until,s]] w (RetV w (.bool (jobsOk2 j))):=by
 by_cases hg:inb j.Index 0 2000=true∧timeOk j.Time=true∧(j.Holder == 0 || schedOk j.Holder)=true∧inb j.Epoch 0 1000=true∧inb j.Until 0 1001000=true∧j.Open.length≤8
 ·
  obtain⟨h1,h2,h3,h4,h5,h8⟩:=hg
  cases h6:(j.Holder == 0)
  ·
   exact jobsOk2_held w j s h h1 h2 h6 (by simpa [h6] using h3) h4 h5 h8
  exact jobsOk2_free w j s h h1 h2 h6 h4 h5 h8
 exact jobsOk2_bad w j s h hg
theorem sViewOk_c (w:World) (v:DView) (s:Value) (h:Ints 2 w s (dues v.Jobs.Open)):Calls Tryz.prog 320 #[.agg #[.int .i64 v.Jobs.Index,.int .i64 v.Jobs.Time,.int .i64 v.Jobs.Holder,.int .i64 v.Jobs.Epoch,.int .i64 v.Jobs.Until,s]] w (RetV w (.bool (jobsOk2 v.Jobs))):=by
 obtain⟨a,n,c,rfl⟩:=h.shape
 go_enter Tryz.func320,Tryz.ntmps320
 go_wp2_with (first|(go_at_call 390;refine (sJobsOk2_c _ v.Jobs _ (h.ext xT)).mono ?_;rintro e w1 ⟨rfl,hx1⟩;have hz1:=hx1.size;obtain⟨hc1,hf1⟩:=hx1.cells;(repeat (first|simp only [World.size_alloc] at hz1 hc1 hf1|simp only [World.size_setCell] at hz1 hc1 hf1));have hy1_0:w.heap.size<w1.heap.size:=oM))
 go_ret
 refine⟨rfl,?_⟩
 exact xT
theorem viewOk_c (w:World) (v:DView) (s:Value) (h:Ints 2 w s (dues v.Jobs.Open)):Calls Tryz.prog 355 #[.agg #[.int .i64 v.Jobs.Index,.int .i64 v.Jobs.Time,.int .i64 v.Jobs.Holder,.int .i64 v.Jobs.Epoch,.int .i64 v.Jobs.Until,s]] w (RetV w (.bool (jobsOk2 v.Jobs))):=by
 obtain⟨a,n,c,rfl⟩:=h.shape
 go_enter Tryz.func355,Tryz.ntmps355
 go_wp2_with (first|(go_at_call 408;refine (jobsOk2_c _ v.Jobs _ (h.ext xT)).mono ?_;rintro e w1 ⟨rfl,hx1⟩;have hz1:=hx1.size;obtain⟨hc1,hf1⟩:=hx1.cells;(repeat (first|simp only [World.size_alloc] at hz1 hc1 hf1|simp only [World.size_setCell] at hz1 hc1 hf1));have hy1_0:w.heap.size<w1.heap.size:=oM))
 go_ret
 refine⟨rfl,?_⟩
 exact xT
def opZ (o:DOp):Bool:=decide (o.Kind=0∧o.A=0∧o.B=0∧o.C=0∧o.D=0)
noncomputable def schedOkS (s:DSched):Bool:=schedOk s.Id && (inb s.Seq 0 2000 && (jobsOk2 s.View.Jobs && (inb s.Index 0 2000 && (if s.Busy then decide (0<s.Seq) && (opOk s.Op && (decide (s.Op.Kind=4) || decide (s.Op.Kind=5))) else opZ s.Op))))
theorem sViewOk_l (w:World) (c0_0:Int) (c0_1:Int) (c0_2:Int) (c0_3:Int) (c0_4:Int) (s0_5:Value) (l0_5:List DDue) (h0_5:Ints 2 w s0_5 (dues l0_5)) :
  Calls Tryz.prog 320 #[.agg #[.int .i64 c0_0,.int .i64 c0_1,.int .i64 c0_2,.int .i64 c0_3,.int .i64 c0_4,s0_5]] w (RetV w (.bool (jobsOk2 (⟨⟨c0_0,c0_1,c0_2,c0_3,c0_4,l0_5⟩⟩:DView).Jobs))):=sViewOk_c w (⟨⟨c0_0,c0_1,c0_2,c0_3,c0_4,l0_5⟩⟩:DView) s0_5 h0_5
theorem viewOk_l (w:World) (c0_0:Int) (c0_1:Int) (c0_2:Int) (c0_3:Int) (c0_4:Int) (s0_5:Value) (l0_5:List DDue) (h0_5:Ints 2 w s0_5 (dues l0_5)) :
  Calls Tryz.prog 355 #[.agg #[.int .i64 c0_0,.int .i64 c0_1,.int .i64 c0_2,.int .i64 c0_3,.int .i64 c0_4,s0_5]] w (RetV w (.bool (jobsOk2 (⟨⟨c0_0,c0_1,c0_2,c0_3,c0_4,l0_5⟩⟩:DView).Jobs))):=viewOk_c w (⟨⟨c0_0,c0_1,c0_2,c0_3,c0_4,l0_5⟩⟩:DView) s0_5 h0_5
theorem l7Key_c (w:World) (c0_0:Int) :
  Calls Tryz.prog 322 #[.int .i64 c0_0] w (fun e w'=>e=.returned (.bool (inb c0_0 0 9))∧w=w'):=by
 go_enter Tryz.func322,Tryz.ntmps322
 go_wp2_with (first|(go_at_call 303;refine (l1In_c _ _ _ _  ).mono ?_;rintro e wa ⟨rfl,rfl⟩))
 all_goals
  go_ret
  refine⟨by first|rfl|(simp [*];done)|(simp [*];omega)|(simp_all [bq,bn];done)|(simp_all [bq,bn];omega),by rfl⟩
theorem l7Value_c (w:World) (c0_0:Int) :
  Calls Tryz.prog 324 #[.int .i64 c0_0] w (fun e w'=>e=.returned (.bool (inb c0_0 0 999))∧w=w'):=by
 go_enter Tryz.func324,Tryz.ntmps324
 go_wp2_with (first|(go_at_call 303;refine (l1In_c _ _ _ _  ).mono ?_;rintro e wa ⟨rfl,rfl⟩))
 all_goals
  go_ret
  refine⟨by first|rfl|(simp [*];done)|(simp [*];omega)|(simp_all [bq,bn];done)|(simp_all [bq,bn];omega),by rfl⟩
theorem keyOk_c (w:World) (c0_0:Int) :
  Calls Tryz.prog 266 #[.int .i64 c0_0] w (fun e w'=>e=.returned (.bool (inb c0_0 0 9))∧w=w'):=by
 go_enter Tryz.func266,Tryz.ntmps266
 go_wp2_with (first|(go_at_call 176;refine (between_c _ _ _ _  ).mono ?_;rintro e wa ⟨rfl,rfl⟩))
 all_goals
  go_ret
  refine⟨by first|rfl|(simp [*];done)|(simp [*];omega)|(simp_all [bq,bn];done)|(simp_all [bq,bn];omega),by rfl⟩
theorem valueOk_c (w:World) (c0_0:Int) :
  Calls Tryz.prog 346 #[.int .i64 c0_0] w (fun e w'=>e=.returned (.bool (inb c0_0 0 999))∧w=w'):=by
 go_enter Tryz.func346,Tryz.ntmps346
 go_wp2_with (first|(go_at_call 176;refine (between_c _ _ _ _  ).mono ?_;rintro e wa ⟨rfl,rfl⟩))
 all_goals
  go_ret
  refine⟨by first|rfl|(simp [*];done)|(simp [*];omega)|(simp_all [bq,bn];done)|(simp_all [bq,bn];omega),by rfl⟩
theorem sOpOk_c (w:World) (c0_0:Int) (c0_1:Int) (c0_2:Int) (c0_3:Int) (c0_4:Int) :
  Calls Tryz.prog 321 #[.agg #[.int .i64 c0_0,.int .i64 c0_1,.int .i64 c0_2,.int .i64 c0_3,.int .i64 c0_4]] w (RetV w (.bool (opOk (⟨c0_0,c0_1,c0_2,c0_3,c0_4⟩:DOp)))):=by
 go_enter Tryz.func321,Tryz.ntmps321
 go_wp2_with (first|(go_at_call 322;refine (l7Key_c _ _  ).mono ?_;rintro e wa ⟨rfl,rfl⟩)|(go_at_call 324;refine (l7Value_c _ _  ).mono ?_;rintro e wb ⟨rfl,rfl⟩)|(go_at_call 391;refine (l7Id_c _ _  ).mono ?_;rintro e wc ⟨rfl,rfl⟩)|(go_at_call 207;refine (sTimeOk_c _ _  ).mono ?_;rintro e wd ⟨rfl,rfl⟩)|(go_at_call 303;refine (l1In_c _ _ _ _  ).mono ?_;rintro e we ⟨rfl,rfl⟩))
 all_goals
  go_ret
  refine⟨by first|rfl|(simp [opOk, *];done)|(simp [opOk, *];omega)|(simp_all [opOk,bq,bn];done)|(simp_all [opOk,bq,bn];omega),?_⟩
  exact xT
theorem opOk_c (w:World) (c0_0:Int) (c0_1:Int) (c0_2:Int) (c0_3:Int) (c0_4:Int) :
  Calls Tryz.prog 265 #[.agg #[.int .i64 c0_0,.int .i64 c0_1,.int .i64 c0_2,.int .i64 c0_3,.int .i64 c0_4]] w (RetV w (.bool (opOk (⟨c0_0,c0_1,c0_2,c0_3,c0_4⟩:DOp)))):=by
 go_enter Tryz.func265,Tryz.ntmps265
 go_wp2_with (first|(go_at_call 266;refine (keyOk_c _ _  ).mono ?_;rintro e wa ⟨rfl,rfl⟩)|(go_at_call 346;refine (valueOk_c _ _  ).mono ?_;rintro e wb ⟨rfl,rfl⟩)|(go_at_call 347;refine (idOk_c _ _  ).mono ?_;rintro e wc ⟨rfl,rfl⟩)|(go_at_call 177;refine (timeOk_c _ _  ).mono ?_;rintro e wd ⟨rfl,rfl⟩)|(go_at_call 176;refine (between_c _ _ _ _  ).mono ?_;rintro e we ⟨rfl,rfl⟩))
 all_goals
  go_ret
  refine⟨by first|rfl|(simp [opOk, *];done)|(simp [opOk, *];omega)|(simp_all [opOk,bq,bn];done)|(simp_all [opOk,bq,bn];omega),?_⟩
  exact xT
theorem sSchedOk_c (w:World) (c0_0:Int) (c0_1:Int) (c0_2:Int) (c0_3:Int) (c0_4:Int) (c0_5:Int) (c0_6:Int) (s0_7:Value) (l0_7:List DDue) (c0_8:Bool) (c0_9:Int) (c0_10:Int) (c0_11:Int) (c0_12:Int) (c0_13:Int) (c0_14:Int) (h0_7:Ints 2 w s0_7 (dues l0_7)) :
  Calls Tryz.prog 212 #[.agg #[.int .i64 c0_0,.int .i64 c0_1,.int .i64 c0_2,.int .i64 c0_3,.int .i64 c0_4,.int .i64 c0_5,.int .i64 c0_6,s0_7,.bool c0_8,.int .i64 c0_9,.int .i64 c0_10,.int .i64 c0_11,.int .i64 c0_12,.int .i64 c0_13,.int .i64 c0_14]] w (RetV w (.bool (schedOkS (⟨c0_0,c0_1,⟨⟨c0_2,c0_3,c0_4,c0_5,c0_6,l0_7⟩⟩,c0_8,⟨c0_9,c0_10,c0_11,c0_12,c0_13⟩,c0_14⟩:DSched)))):=by
 obtain⟨a0_7,n0_7,k0_7,rfl⟩:=h0_7.shape
 go_enter Tryz.func212,Tryz.ntmps212
 go_wp2_with (first|(go_at_call 175;refine (l16Who_c _ _  ).mono ?_;rintro e wa ⟨rfl,rfl⟩)|(go_at_call 303;refine (l1In_c _ _ _ _  ).mono ?_;rintro e wb ⟨rfl,rfl⟩)|(go_at_call 320;refine (sViewOk_l _ _ _ _ _ _ _ _ (by first|(with_reducible exact Ints.ext (by assumption) xT)|(with_reducible exact Ints.ext (OwnI.ints (by assumption)) xT)|with_reducible exact rnil_dues _ _) ).mono ?_;rintro e wc ⟨rfl,hxc⟩;have hzc:=hxc.size;obtain⟨hcc,hfc⟩:=hxc.cells;(repeat (first|simp only [World.size_alloc] at hzc hcc hfc|simp only [World.size_setCell] at hzc hcc hfc));(try have hcrc_a:=fun u v (h0:wa.heap.size≤u) h=>hcc u v h);(try have hfrc_a:=fun u v (h0:wa.heap.size≤u) h=>hfc u v h);(try have hyc_a_0:wa.heap.size<wc.heap.size:=oM);(try have hyc_a_1:wa.heap.size+1<wc.heap.size:=oM);(try have hyc_a_2:wa.heap.size+1+1<wc.heap.size:=oM);(try have hcrc_b:=fun u v (h0:wb.heap.size≤u) h=>hcc u v h);(try have hfrc_b:=fun u v (h0:wb.heap.size≤u) h=>hfc u v h);(try have hyc_b_0:wb.heap.size<wc.heap.size:=oM);(try have hyc_b_1:wb.heap.size+1<wc.heap.size:=oM);(try have hyc_b_2:wb.heap.size+1+1<wc.heap.size:=oM);(try have hcrc_d:=fun u v (h0:wd.heap.size≤u) h=>hcc u v h);(try have hfrc_d:=fun u v (h0:wd.heap.size≤u) h=>hfc u v h);(try have hyc_d_0:wd.heap.size<wc.heap.size:=oM);(try have hyc_d_1:wd.heap.size+1<wc.heap.size:=oM);(try have hyc_d_2:wd.heap.size+1+1<wc.heap.size:=oM);have Pc0_0:=hcc (w.heap.size) 0 oM;have Rc0_0:=hfc (w.heap.size) 0 oM;have Pc0_1:=hcc (w.heap.size) 1 oM;have Rc0_1:=hfc (w.heap.size) 1 oM;have Pc0_2:=hcc (w.heap.size) 2 oM;have Rc0_2:=hfc (w.heap.size) 2 oM;have Pc0_3:=hcc (w.heap.size) 3 oM;have Rc0_3:=hfc (w.heap.size) 3 oM;have Pc0_4:=hcc (w.heap.size) 4 oM;have Rc0_4:=hfc (w.heap.size) 4 oM;have Pc0_5:=hcc (w.heap.size) 5 oM;have Rc0_5:=hfc (w.heap.size) 5 oM;have Pc0_6:=hcc (w.heap.size) 6 oM;have Rc0_6:=hfc (w.heap.size) 6 oM;have Pc0_7:=hcc (w.heap.size) 7 oM;have Rc0_7:=hfc (w.heap.size) 7 oM;have Pc0_8:=hcc (w.heap.size) 8 oM;have Rc0_8:=hfc (w.heap.size) 8 oM;have Pc0_9:=hcc (w.heap.size) 9 oM;have Rc0_9:=hfc (w.heap.size) 9 oM;have Pc0_10:=hcc (w.heap.size) 10 oM;have Rc0_10:=hfc (w.heap.size) 10 oM;have Pc0_11:=hcc (w.heap.size) 11 oM;have Rc0_11:=hfc (w.heap.size) 11 oM;have Pc0_12:=hcc (w.heap.size) 12 oM;have Rc0_12:=hfc (w.heap.size) 12 oM;have Pc0_13:=hcc (w.heap.size) 13 oM;have Rc0_13:=hfc (w.heap.size) 13 oM;have Pc0_14:=hcc (w.heap.size) 14 oM;have Rc0_14:=hfc (w.heap.size) 14 oM;have hyc__0:w.heap.size<wc.heap.size:=oM;clear hcc hfc;(try simp [*] at Pc0_0);(try simp [*] at Rc0_0);(try simp [*] at Pc0_1);(try simp [*] at Rc0_1);(try simp [*] at Pc0_2);(try simp [*] at Rc0_2);(try simp [*] at Pc0_3);(try simp [*] at Rc0_3);(try simp [*] at Pc0_4);(try simp [*] at Rc0_4);(try simp [*] at Pc0_5);(try simp [*] at Rc0_5);(try simp [*] at Pc0_6);(try simp [*] at Rc0_6);(try simp [*] at Pc0_7);(try simp [*] at Rc0_7);(try simp [*] at Pc0_8);(try simp [*] at Rc0_8);(try simp [*] at Pc0_9);(try simp [*] at Rc0_9);(try simp [*] at Pc0_10);(try simp [*] at Rc0_10);(try simp [*] at Pc0_11);(try simp [*] at Rc0_11);(try simp [*] at Pc0_12);(try simp [*] at Rc0_12);(try simp [*] at Pc0_13);(try simp [*] at Rc0_13);(try simp [*] at Pc0_14);(try simp [*] at Rc0_14))|(go_at_call 321;refine (sOpOk_c _ _ _ _ _ _  ).mono ?_;rintro e wd ⟨rfl,hxd⟩;have hzd:=hxd.size;obtain⟨hcd,hfd⟩:=hxd.cells;(repeat (first|simp only [World.size_alloc] at hzd hcd hfd|simp only [World.size_setCell] at hzd hcd hfd));(try have hcrd_a:=fun u v (h0:wa.heap.size≤u) h=>hcd u v h);(try have hfrd_a:=fun u v (h0:wa.heap.size≤u) h=>hfd u v h);(try have hyd_a_0:wa.heap.size<wd.heap.size:=oM);(try have hyd_a_1:wa.heap.size+1<wd.heap.size:=oM);(try have hyd_a_2:wa.heap.size+1+1<wd.heap.size:=oM);(try have hcrd_b:=fun u v (h0:wb.heap.size≤u) h=>hcd u v h);(try have hfrd_b:=fun u v (h0:wb.heap.size≤u) h=>hfd u v h);(try have hyd_b_0:wb.heap.size<wd.heap.size:=oM);(try have hyd_b_1:wb.heap.size+1<wd.heap.size:=oM);(try have hyd_b_2:wb.heap.size+1+1<wd.heap.size:=oM);(try have hcrd_c:=fun u v (h0:wc.heap.size≤u) h=>hcd u v h);(try have hfrd_c:=fun u v (h0:wc.heap.size≤u) h=>hfd u v h);(try have hyd_c_0:wc.heap.size<wd.heap.size:=oM);(try have hyd_c_1:wc.heap.size+1<wd.heap.size:=oM);(try have hyd_c_2:wc.heap.size+1+1<wd.heap.size:=oM);have Pd0_0:=hcd (w.heap.size) 0 oM;have Rd0_0:=hfd (w.heap.size) 0 oM;have Pd0_1:=hcd (w.heap.size) 1 oM;have Rd0_1:=hfd (w.heap.size) 1 oM;have Pd0_2:=hcd (w.heap.size) 2 oM;have Rd0_2:=hfd (w.heap.size) 2 oM;have Pd0_3:=hcd (w.heap.size) 3 oM;have Rd0_3:=hfd (w.heap.size) 3 oM;have Pd0_4:=hcd (w.heap.size) 4 oM;have Rd0_4:=hfd (w.heap.size) 4 oM;have Pd0_5:=hcd (w.heap.size) 5 oM;have Rd0_5:=hfd (w.heap.size) 5 oM;have Pd0_6:=hcd (w.heap.size) 6 oM;have Rd0_6:=hfd (w.heap.size) 6 oM;have Pd0_7:=hcd (w.heap.size) 7 oM;have Rd0_7:=hfd (w.heap.size) 7 oM;have Pd0_8:=hcd (w.heap.size) 8 oM;have Rd0_8:=hfd (w.heap.size) 8 oM;have Pd0_9:=hcd (w.heap.size) 9 oM;have Rd0_9:=hfd (w.heap.size) 9 oM;have Pd0_10:=hcd (w.heap.size) 10 oM;have Rd0_10:=hfd (w.heap.size) 10 oM;have Pd0_11:=hcd (w.heap.size) 11 oM;have Rd0_11:=hfd (w.heap.size) 11 oM;have Pd0_12:=hcd (w.heap.size) 12 oM;have Rd0_12:=hfd (w.heap.size) 12 oM;have Pd0_13:=hcd (w.heap.size) 13 oM;have Rd0_13:=hfd (w.heap.size) 13 oM;have Pd0_14:=hcd (w.heap.size) 14 oM;have Rd0_14:=hfd (w.heap.size) 14 oM;have hyd__0:w.heap.size<wd.heap.size:=oM;clear hcd hfd;(try simp [*] at Pd0_0);(try simp [*] at Rd0_0);(try simp [*] at Pd0_1);(try simp [*] at Rd0_1);(try simp [*] at Pd0_2);(try simp [*] at Rd0_2);(try simp [*] at Pd0_3);(try simp [*] at Rd0_3);(try simp [*] at Pd0_4);(try simp [*] at Rd0_4);(try simp [*] at Pd0_5);(try simp [*] at Rd0_5);(try simp [*] at Pd0_6);(try simp [*] at Rd0_6);(try simp [*] at Pd0_7);(try simp [*] at Rd0_7);(try simp [*] at Pd0_8);(try simp [*] at Rd0_8);(try simp [*] at Pd0_9);(try simp [*] at Rd0_9);(try simp [*] at Pd0_10);(try simp [*] at Rd0_10);(try simp [*] at Pd0_11);(try simp [*] at Rd0_11);(try simp [*] at Pd0_12);(try simp [*] at Rd0_12);(try simp [*] at Pd0_13);(try simp [*] at Rd0_13);(try simp [*] at Pd0_14);(try simp [*] at Rd0_14)))
 all_goals
  go_ret
  refine⟨by first|rfl|(simp [schedOkS,opZ,inb, *];done)|(simp [schedOkS,opZ,inb, *];omega)|(simp_all [schedOkS,opZ,inb,bq,bn];done)|(simp_all [schedOkS,opZ,inb,bq,bn];omega),?_⟩
  exact xT
theorem schedOk_cS (w:World) (c0_0:Int) (c0_1:Int) (c0_2:Int) (c0_3:Int) (c0_4:Int) (c0_5:Int) (c0_6:Int) (s0_7:Value) (l0_7:List DDue) (c0_8:Bool) (c0_9:Int) (c0_10:Int) (c0_11:Int) (c0_12:Int) (c0_13:Int) (c0_14:Int) (h0_7:Ints 2 w s0_7 (dues l0_7)) :
  Calls Tryz.prog 277 #[.agg #[.int .i64 c0_0,.int .i64 c0_1,.int .i64 c0_2,.int .i64 c0_3,.int .i64 c0_4,.int .i64 c0_5,.int .i64 c0_6,s0_7,.bool c0_8,.int .i64 c0_9,.int .i64 c0_10,.int .i64 c0_11,.int .i64 c0_12,.int .i64 c0_13,.int .i64 c0_14]] w (RetV w (.bool (schedOkS (⟨c0_0,c0_1,⟨⟨c0_2,c0_3,c0_4,c0_5,c0_6,l0_7⟩⟩,c0_8,⟨c0_9,c0_10,c0_11,c0_12,c0_13⟩,c0_14⟩:DSched)))):=by
 obtain⟨a0_7,n0_7,k0_7,rfl⟩:=h0_7.shape
 go_enter Tryz.func277,Tryz.ntmps277
 go_wp2_with (first|(go_at_call 170;refine (schedOk_c _ _  ).mono ?_;rintro e wa ⟨rfl,rfl⟩)|(go_at_call 176;refine (between_c _ _ _ _  ).mono ?_;rintro e wb ⟨rfl,rfl⟩)|(go_at_call 355;refine (viewOk_l _ _ _ _ _ _ _ _ (by first|(with_reducible exact Ints.ext (by assumption) xT)|(with_reducible exact Ints.ext (OwnI.ints (by assumption)) xT)|with_reducible exact rnil_dues _ _) ).mono ?_;rintro e wc ⟨rfl,hxc⟩;have hzc:=hxc.size;obtain⟨hcc,hfc⟩:=hxc.cells;(repeat (first|simp only [World.size_alloc] at hzc hcc hfc|simp only [World.size_setCell] at hzc hcc hfc));(try have hcrc_a:=fun u v (h0:wa.heap.size≤u) h=>hcc u v h);(try have hfrc_a:=fun u v (h0:wa.heap.size≤u) h=>hfc u v h);(try have hyc_a_0:wa.heap.size<wc.heap.size:=oM);(try have hyc_a_1:wa.heap.size+1<wc.heap.size:=oM);(try have hyc_a_2:wa.heap.size+1+1<wc.heap.size:=oM);(try have hcrc_b:=fun u v (h0:wb.heap.size≤u) h=>hcc u v h);(try have hfrc_b:=fun u v (h0:wb.heap.size≤u) h=>hfc u v h);(try have hyc_b_0:wb.heap.size<wc.heap.size:=oM);(try have hyc_b_1:wb.heap.size+1<wc.heap.size:=oM);(try have hyc_b_2:wb.heap.size+1+1<wc.heap.size:=oM);(try have hcrc_d:=fun u v (h0:wd.heap.size≤u) h=>hcc u v h);(try have hfrc_d:=fun u v (h0:wd.heap.size≤u) h=>hfc u v h);(try have hyc_d_0:wd.heap.size<wc.heap.size:=oM);(try have hyc_d_1:wd.heap.size+1<wc.heap.size:=oM);(try have hyc_d_2:wd.heap.size+1+1<wc.heap.size:=oM);have Pc0_0:=hcc (w.heap.size) 0 oM;have Rc0_0:=hfc (w.heap.size) 0 oM;have Pc0_1:=hcc (w.heap.size) 1 oM;have Rc0_1:=hfc (w.heap.size) 1 oM;have Pc0_2:=hcc (w.heap.size) 2 oM;have Rc0_2:=hfc (w.heap.size) 2 oM;have Pc0_3:=hcc (w.heap.size) 3 oM;have Rc0_3:=hfc (w.heap.size) 3 oM;have Pc0_4:=hcc (w.heap.size) 4 oM;have Rc0_4:=hfc (w.heap.size) 4 oM;have Pc0_5:=hcc (w.heap.size) 5 oM;have Rc0_5:=hfc (w.heap.size) 5 oM;have Pc0_6:=hcc (w.heap.size) 6 oM;have Rc0_6:=hfc (w.heap.size) 6 oM;have Pc0_7:=hcc (w.heap.size) 7 oM;have Rc0_7:=hfc (w.heap.size) 7 oM;have Pc0_8:=hcc (w.heap.size) 8 oM;have Rc0_8:=hfc (w.heap.size) 8 oM;have Pc0_9:=hcc (w.heap.size) 9 oM;have Rc0_9:=hfc (w.heap.size) 9 oM;have Pc0_10:=hcc (w.heap.size) 10 oM;have Rc0_10:=hfc (w.heap.size) 10 oM;have Pc0_11:=hcc (w.heap.size) 11 oM;have Rc0_11:=hfc (w.heap.size) 11 oM;have Pc0_12:=hcc (w.heap.size) 12 oM;have Rc0_12:=hfc (w.heap.size) 12 oM;have Pc0_13:=hcc (w.heap.size) 13 oM;have Rc0_13:=hfc (w.heap.size) 13 oM;have Pc0_14:=hcc (w.heap.size) 14 oM;have Rc0_14:=hfc (w.heap.size) 14 oM;have hyc__0:w.heap.size<wc.heap.size:=oM;clear hcc hfc;(try simp [*] at Pc0_0);(try simp [*] at Rc0_0);(try simp [*] at Pc0_1);(try simp [*] at Rc0_1);(try simp [*] at Pc0_2);(try simp [*] at Rc0_2);(try simp [*] at Pc0_3);(try simp [*] at Rc0_3);(try simp [*] at Pc0_4);(try simp [*] at Rc0_4);(try simp [*] at Pc0_5);(try simp [*] at Rc0_5);(try simp [*] at Pc0_6);(try simp [*] at Rc0_6);(try simp [*] at Pc0_7);(try simp [*] at Rc0_7);(try simp [*] at Pc0_8);(try simp [*] at Rc0_8);(try simp [*] at Pc0_9);(try simp [*] at Rc0_9);(try simp [*] at Pc0_10);(try simp [*] at Rc0_10);(try simp [*] at Pc0_11);(try simp [*] at Rc0_11);(try simp [*] at Pc0_12);(try simp [*] at Rc0_12);(try simp [*] at Pc0_13);(try simp [*] at Rc0_13);(try simp [*] at Pc0_14);(try simp [*] at Rc0_14))|(go_at_call 265;refine (opOk_c _ _ _ _ _ _  ).mono ?_;rintro e wd ⟨rfl,hxd⟩;have hzd:=hxd.size;obtain⟨hcd,hfd⟩:=hxd.cells;(repeat (first|simp only [World.size_alloc] at hzd hcd hfd|simp only [World.size_setCell] at hzd hcd hfd));(try have hcrd_a:=fun u v (h0:wa.heap.size≤u) h=>hcd u v h);(try have hfrd_a:=fun u v (h0:wa.heap.size≤u) h=>hfd u v h);(try have hyd_a_0:wa.heap.size<wd.heap.size:=oM);(try have hyd_a_1:wa.heap.size+1<wd.heap.size:=oM);(try have hyd_a_2:wa.heap.size+1+1<wd.heap.size:=oM);(try have hcrd_b:=fun u v (h0:wb.heap.size≤u) h=>hcd u v h);(try have hfrd_b:=fun u v (h0:wb.heap.size≤u) h=>hfd u v h);(try have hyd_b_0:wb.heap.size<wd.heap.size:=oM);(try have hyd_b_1:wb.heap.size+1<wd.heap.size:=oM);(try have hyd_b_2:wb.heap.size+1+1<wd.heap.size:=oM);(try have hcrd_c:=fun u v (h0:wc.heap.size≤u) h=>hcd u v h);(try have hfrd_c:=fun u v (h0:wc.heap.size≤u) h=>hfd u v h);(try have hyd_c_0:wc.heap.size<wd.heap.size:=oM);(try have hyd_c_1:wc.heap.size+1<wd.heap.size:=oM);(try have hyd_c_2:wc.heap.size+1+1<wd.heap.size:=oM);have Pd0_0:=hcd (w.heap.size) 0 oM;have Rd0_0:=hfd (w.heap.size) 0 oM;have Pd0_1:=hcd (w.heap.size) 1 oM;have Rd0_1:=hfd (w.heap.size) 1 oM;have Pd0_2:=hcd (w.heap.size) 2 oM;have Rd0_2:=hfd (w.heap.size) 2 oM;have Pd0_3:=hcd (w.heap.size) 3 oM;have Rd0_3:=hfd (w.heap.size) 3 oM;have Pd0_4:=hcd (w.heap.size) 4 oM;have Rd0_4:=hfd (w.heap.size) 4 oM;have Pd0_5:=hcd (w.heap.size) 5 oM;have Rd0_5:=hfd (w.heap.size) 5 oM;have Pd0_6:=hcd (w.heap.size) 6 oM;have Rd0_6:=hfd (w.heap.size) 6 oM;have Pd0_7:=hcd (w.heap.size) 7 oM;have Rd0_7:=hfd (w.heap.size) 7 oM;have Pd0_8:=hcd (w.heap.size) 8 oM;have Rd0_8:=hfd (w.heap.size) 8 oM;have Pd0_9:=hcd (w.heap.size) 9 oM;have Rd0_9:=hfd (w.heap.size) 9 oM;have Pd0_10:=hcd (w.heap.size) 10 oM;have Rd0_10:=hfd (w.heap.size) 10 oM;have Pd0_11:=hcd (w.heap.size) 11 oM;have Rd0_11:=hfd (w.heap.size) 11 oM;have Pd0_12:=hcd (w.heap.size) 12 oM;have Rd0_12:=hfd (w.heap.size) 12 oM;have Pd0_13:=hcd (w.heap.size) 13 oM;have Rd0_13:=hfd (w.heap.size) 13 oM;have Pd0_14:=hcd (w.heap.size) 14 oM;have Rd0_14:=hfd (w.heap.size) 14 oM;have hyd__0:w.heap.size<wd.heap.size:=oM;clear hcd hfd;(try simp [*] at Pd0_0);(try simp [*] at Rd0_0);(try simp [*] at Pd0_1);(try simp [*] at Rd0_1);(try simp [*] at Pd0_2);(try simp [*] at Rd0_2);(try simp [*] at Pd0_3);(try simp [*] at Rd0_3);(try simp [*] at Pd0_4);(try simp [*] at Rd0_4);(try simp [*] at Pd0_5);(try simp [*] at Rd0_5);(try simp [*] at Pd0_6);(try simp [*] at Rd0_6);(try simp [*] at Pd0_7);(try simp [*] at Rd0_7);(try simp [*] at Pd0_8);(try simp [*] at Rd0_8);(try simp [*] at Pd0_9);(try simp [*] at Rd0_9);(try simp [*] at Pd0_10);(try simp [*] at Rd0_10);(try simp [*] at Pd0_11);(try simp [*] at Rd0_11);(try simp [*] at Pd0_12);(try simp [*] at Rd0_12);(try simp [*] at Pd0_13);(try simp [*] at Rd0_13);(try simp [*] at Pd0_14);(try simp [*] at Rd0_14)))
 all_goals
  go_ret
  refine⟨by first|rfl|(simp [schedOkS,opZ,inb, *];done)|(simp [schedOkS,opZ,inb, *];omega)|(simp_all [schedOkS,opZ,inb,bq,bn];done)|(simp_all [schedOkS,opZ,inb,bq,bn];omega),?_⟩
  exact xT
noncomputable def zSched:DSched:=⟨0,0,⟨⟨0,0,0,0,0,[]⟩⟩,false,⟨0,0,0,0,0⟩,0⟩
noncomputable def newSched (id:Int):DSched:=if schedOk id then ⟨id,0,⟨⟨0,0,0,0,0,[]⟩⟩,false,⟨0,0,0,0,0⟩,0⟩ else zSched
theorem newSched_c (w:World) (c0_0:Int) :
  Calls Tryz.prog 73 #[.int .i64 c0_0] w (Ret w fun r0 w'=>IsSched w.heap.size w' r0 (newSched c0_0)):=by
 have rsize_setRow:=@size_setRow
 have rcell_setRow_lt:=@cell_setRow_lt
 have rcell_setRow_gt:=@cell_setRow_gt
 have rfrozen_setRow_lt:=@frozen_setRow_lt
 have rfrozen_setRow_gt:=@frozen_setRow_gt
 go_enter Tryz.func73,Tryz.ntmps73
 go_wp2_with (first|(go_at_call 170;refine (schedOk_c _ _  ).mono ?_;rintro e wa ⟨rfl,rfl⟩))
 all_goals
  refine bodyPost_ret (by simp [results,Tryz.results73,go_sem, *];try rfl) rfl ?_
  refine⟨_,rfl,?_,?_⟩
  ·
   exact xT
  exact (IsSched.cast (IsSched.mk (by first|(with_reducible exact nil_dues _ _ _ _)|(with_reducible refine OwnI.mono (OwnI.keep (by assumption) ?_) ?_;rotate_left;(focus omega);(focus (exact chgT))))) (by first|rfl|(simp [newSched,zSched, *];done)|(simp [newSched,zSched, *];omega)|(simp_all [newSched,zSched,bq,bn];done)|(simp_all [newSched,zSched,bq,bn];omega)))
end Go.Proofs.YtkpmbocbbgocbaaGreat
namespace Go.G8
open Go.RowKit
theorem OwnI.boxS {B:Nat} {e:TypeId} {n:Nat} {w:World} {v:Value} {xs:List Int} (h:OwnI B e n w v xs) {X:Nat} {t:TypeId} {a:Array Value} (hX:Blk w X t a) (h1:t ≠ e) (i:Nat) (u:Value):OwnI B e n (w.setCell ⟨X,i,none⟩ u) v xs :=
 OwnI.upd' h ((Upd.refl w [X]).setCell (by simp) _) (fun k hk hf=>by
  obtain⟨cur,hb⟩:=h.typed hk
  simp at hf;subst hf
  exact h1 (hX.same hb))
end Go.G8
namespace Go.Proofs.YtkpmbocbbgocbaaGreat
open Go.RowKit Go.G8
def RdSched (w:World) (v:Value) (s:DSched):Prop:=∃ t2:Value,v=.agg #[.int .i64 s.Id,.int .i64 s.Seq,.int .i64 s.View.Jobs.Index,.int .i64 s.View.Jobs.Time,.int .i64 s.View.Jobs.Holder,.int .i64 s.View.Jobs.Epoch,.int .i64 s.View.Jobs.Until,t2,.bool s.Busy,.int .i64 s.Op.Kind,.int .i64 s.Op.A,.int .i64 s.Op.B,.int .i64 s.Op.C,.int .i64 s.Op.D,.int .i64 s.Index]∧Ints 2 w t2 (dues s.View.Jobs.Open)
def OwSched (B:Nat) (w:World) (v:Value) (s:DSched) (F:List Nat):Prop:=∃ t2:Value,v=.agg #[.int .i64 s.Id,.int .i64 s.Seq,.int .i64 s.View.Jobs.Index,.int .i64 s.View.Jobs.Time,.int .i64 s.View.Jobs.Holder,.int .i64 s.View.Jobs.Epoch,.int .i64 s.View.Jobs.Until,t2,.bool s.Busy,.int .i64 s.Op.Kind,.int .i64 s.Op.A,.int .i64 s.Op.B,.int .i64 s.Op.C,.int .i64 s.Op.D,.int .i64 s.Index]∧OwnI B 286 2 w t2 (dues s.View.Jobs.Open)∧F=feet [t2]
def MkSched (B:Nat) (w:World) (v:Value) (s:DSched) (F:List Nat) (q:Int):Prop:=∃ t2:Value,v=.agg #[.int .i64 s.Id,.int .i64 s.Seq,.int .i64 s.View.Jobs.Index,.int .i64 s.View.Jobs.Time,.int .i64 s.View.Jobs.Holder,.int .i64 s.View.Jobs.Epoch,.int .i64 s.View.Jobs.Until,t2,.bool s.Busy,.int .i64 s.Op.Kind,.int .i64 s.Op.A,.int .i64 s.Op.B,.int .i64 s.Op.C,.int .i64 s.Op.D,.int .i64 s.Index]∧OwnI B 286 2 w t2 (run q (s.View.Jobs.Open.length * 2))∧F=feet [t2]
section
variable {B B':Nat} {w w':World} {v:Value} {s s':DSched} {F:List Nat} {q:Int}
theorem RdSched.shape (h:RdSched w v s):∃ a7 n7 k7,v=.agg #[.int .i64 s.Id,.int .i64 s.Seq,.int .i64 s.View.Jobs.Index,.int .i64 s.View.Jobs.Time,.int .i64 s.View.Jobs.Holder,.int .i64 s.View.Jobs.Epoch,.int .i64 s.View.Jobs.Until,.slice a7 n7 k7,.bool s.Busy,.int .i64 s.Op.Kind,.int .i64 s.Op.A,.int .i64 s.Op.B,.int .i64 s.Op.C,.int .i64 s.Op.D,.int .i64 s.Index]:=by
 obtain⟨t2,rfl,h2⟩:=h
 obtain⟨a2,n2,k2,rfl⟩:=h2.shape
 exact⟨a2,n2,k2,rfl⟩
theorem RdSched.ext (h:RdSched w v s) (x:Ext w w'):RdSched w' v s:=let ⟨t2,e,h2⟩:=h;⟨t2,e,h2.ext x⟩
theorem OwSched.rd (h:OwSched B w v s F):RdSched w v s:=let ⟨t2,e,h2,_⟩:=h;⟨t2,e,h2.ints⟩
theorem OwSched.ext (h:OwSched B w v s F) (x:Ext w w'):OwSched B w' v s F:=let ⟨t2,e,h2,hF⟩:=h;⟨t2,e,Own.ext h2 x,hF⟩
theorem OwSched.keep (h:OwSched B w v s F) (x:Chg B w w'):OwSched B w' v s F:=let ⟨t2,e,h2,hF⟩:=h;⟨t2,e,h2.keep x,hF⟩
theorem OwSched.mono (h:OwSched B w v s F) (x:B'≤B):OwSched B' w v s F:=let ⟨t2,e,h2,hF⟩:=h;⟨t2,e,h2.mono x,hF⟩
theorem OwSched.upd (h:OwSched B w v s F) {fs:List Nat} (x:Upd w w' fs) (hn:∀ k,k ∈ F→k ∈ fs→False):OwSched B w' v s F:=by
 obtain⟨t2,e,h2,rfl⟩:=h
 exact⟨t2,e,OwnI.upd' h2 x hn,rfl⟩
theorem OwSched.box (h:OwSched B w v s F) {X:Nat} {a:Array Value} (hX:Blk w X 96 a) (i:Nat) (u:Value):OwSched B (w.setCell ⟨X,i,none⟩ u) v s F:=let ⟨t2,e,h2,hF⟩:=h;⟨t2,e,h2.boxS hX dC i u,hF⟩
theorem OwSched.low (h:OwSched B w v s F):∀ k,k ∈ F→B≤k∧k<w.heap.size:=by
 obtain⟨t2,e,h2,rfl⟩:=h
 exact fun k hk=>h2.foot k hk
theorem MkSched.ext (h:MkSched B w v s F q) (x:Ext w w'):MkSched B w' v s F q:=let ⟨t2,e,h2,hF⟩:=h;⟨t2,e,Own.ext h2 x,hF⟩
theorem MkSched.upd (h:MkSched B w v s F q) {fs:List Nat} (x:Upd w w' fs) (hn:∀ k,k ∈ F→k ∈ fs→False):MkSched B w' v s F q:=by
 obtain⟨t2,e,h2,rfl⟩:=h
 exact⟨t2,e,OwnI.upd' h2 x hn,rfl⟩
theorem to_Sched (h:RdSched w v s) (q2:s.View.Jobs.Open.length≤1048576):Calls Tryz.prog 45 #[v] w (Ret w fun v' w'=>∃ F,OwSched w.heap.size w' v' s F):=by
 obtain⟨t2,rfl,h2⟩:=h
 refine (toSched_c w _ _ _ _ _ _ _ t2 _ _ (length_dues _) _ _ _ _ _ _ _ h2 q2).mono ?_
 rintro e w' ⟨_,rfl,hx,u2,rfl,g2⟩
 exact⟨_,rfl,hx,_,u2,rfl,g2,rfl⟩
theorem sz_Sched (h:RdSched w v s) {left:Int} (h0:0≤left) (h1:left≤1048576):Calls Tryz.prog 35 #[v,.int .i64 left] w (Ret w fun v' _=>SzR left (s.View.Jobs.Open.length) v'):=by
 obtain⟨t2,rfl,h2⟩:=h
 exact szSched_c w _ _ _ _ _ _ _ t2 _ _ (length_dues _) _ _ _ _ _ _ _ _ h2 h0 h1
theorem eq_Sched {u:Value} (h:RdSched w v s) (k:RdSched w u s):Calls Tryz.prog 54 #[v,u] w (RetV w (.bool true)):=by
 obtain⟨t2,rfl,h2⟩:=h
 obtain⟨u2,rfl,k2⟩:=k
 exact eqSched_c w _ _ _ _ _ _ _ t2 u2 _ _ _ _ _ _ _ _ h2 k2
end
theorem sSchedOk_k {w:World} {v:Value} {s:DSched} (h:RdSched w v s):Calls Tryz.prog 212 #[v] w (RetV w (.bool (schedOkS s))):=by
 obtain⟨t2,rfl,h2⟩:=h
 exact sSchedOk_c w _ _ _ _ _ _ _ t2 _ _ _ _ _ _ _ _ h2
theorem schedOk_kS {w:World} {v:Value} {s:DSched} (h:RdSched w v s):Calls Tryz.prog 277 #[v] w (RetV w (.bool (schedOkS s))):=by
 obtain⟨t2,rfl,h2⟩:=h
 exact schedOk_cS w _ _ _ _ _ _ _ t2 _ _ _ _ _ _ _ _ h2
end Go.Proofs.YtkpmbocbbgocbaaGreat
