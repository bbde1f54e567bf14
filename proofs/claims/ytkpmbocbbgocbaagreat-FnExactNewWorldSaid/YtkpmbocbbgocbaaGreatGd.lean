/- P1 P2 P3 P4 P5. -/
import Derived.Test.YtkpmbocbbgocbaaGreatGb
import Derived.Test.YtkpmbocbbgocbaaGreatGa
set_option linter.unusedSimpArgs false
set_option linter.unusedVariables false
set_option maxHeartbeats 8000000
set_option maxRecDepth 100000
namespace Go.G8
open Go.RowKit
def pairOk (p:DPair):Bool:=inb p.Key 0 9 && inb p.Value 0 999
def PairAt (l:List DPair) (i:Nat):Prop:=∀ d,l[i]?=some d→pairOk d=true∧(∀ e,0<i→l[i - 1]?=some e→e.Key<d.Key)
def PairsOk (l:List DPair):Prop:=∀ i,i<l.length→PairAt l i
open Classical in
noncomputable def pairsOk (l:List DPair):Bool:=decide (PairsOk l)
theorem pairsOk_true {l:List DPair} (h:PairsOk l):pairsOk l=true:=by simp [pairsOk,h]
theorem pairsOk_false {l:List DPair} (h:¬ PairsOk l):pairsOk l=false:=by simp [pairsOk,h]
theorem PairsOk.key {l:List DPair} (h:PairsOk l):∀ (i:Nat) (d:DPair),l[i]?=some d→(i:Int)≤d.Key
 | 0,d,hd=>by
  have hlt:0<l.length:=(List.getElem?_eq_some_iff.1 hd).1
  have:=(h 0 hlt d hd).1
  simp only [pairOk,Bool.and_eq_true] at this
  have:=(inb_true.1 this.1).1
  simpa using this
 | i+1,d,hd=>by
  have hlt:i+1<l.length:=(List.getElem?_eq_some_iff.1 hd).1
  have he:l[i]?=some l[i]:=List.getElem?_eq_getElem oM
  have h1:=(h (i+1) hlt d hd).2 l[i] oM (by simp)
  have h2:=PairsOk.key h i l[i] he
  omega
theorem PairsOk.len {l:List DPair} (h:PairsOk l):l.length≤10:=by
 rcases Nat.lt_or_ge 10 l.length with hlt|hge
 ·
  have hd:l[10]?=some l[10]:=List.getElem?_eq_getElem hlt
  have h1:=h.key 10 _ hd
  have:=(h 10 hlt _ hd).1
  simp only [pairOk,Bool.and_eq_true] at this
  have:=(inb_true.1 this.1).2
  omega
 exact hge
theorem PairsOk.next {l:List DPair} {k:Nat} {d:DPair} (hd:l[k]?=some d) (h:∀ i,i<k→PairAt l i) (h1:pairOk d=true) (h2:∀ e,0<k→l[k - 1]?=some e→e.Key<d.Key):∀ i,i<k+1→PairAt l i:=by
 intro i hi
 by_cases hik:i=k
 ·
  subst hik
  intro d' hd'
  rw [hd] at hd'
  obtain rfl:=Option.some.inj hd'
  exact⟨h1,h2⟩
 exact h i oM
end Go.G8
namespace Go.Proofs.YtkpmbocbbgocbaaGreat
open Go.RowKit Go.G8
theorem keyOk_cP (w:World) (c0_0:Int) :
  Calls Tryz.prog 266 #[.int .i64 c0_0] w (fun e w'=>e=.returned (.bool (inb c0_0 0 9))∧w=w'):=by
 have rsize_setRow:=@size_setRow
 have rcell_setRow_lt:=@cell_setRow_lt
 have rcell_setRow_gt:=@cell_setRow_gt
 have rfrozen_setRow_lt:=@frozen_setRow_lt
 have rfrozen_setRow_gt:=@frozen_setRow_gt
 go_enter Tryz.func266,Tryz.ntmps266
 go_wp2_with (first|(go_at_call 176;refine (between_c _ _ _ _  ).mono ?_;rintro e wa ⟨rfl,rfl⟩))
 all_goals
  go_ret
  refine⟨by first|rfl|(simp [*];done)|(simp [*];omega)|(simp_all [bq,bn];done)|(simp_all [bq,bn];omega),by rfl⟩
theorem valueOk_cP (w:World) (c0_0:Int) :
  Calls Tryz.prog 346 #[.int .i64 c0_0] w (fun e w'=>e=.returned (.bool (inb c0_0 0 999))∧w=w'):=by
 have rsize_setRow:=@size_setRow
 have rcell_setRow_lt:=@cell_setRow_lt
 have rcell_setRow_gt:=@cell_setRow_gt
 have rfrozen_setRow_lt:=@frozen_setRow_lt
 have rfrozen_setRow_gt:=@frozen_setRow_gt
 go_enter Tryz.func346,Tryz.ntmps346
 go_wp2_with (first|(go_at_call 176;refine (between_c _ _ _ _  ).mono ?_;rintro e wa ⟨rfl,rfl⟩))
 all_goals
  go_ret
  refine⟨by first|rfl|(simp [*];done)|(simp [*];omega)|(simp_all [bq,bn];done)|(simp_all [bq,bn];omega),by rfl⟩
theorem l14Right_c (w:World) (c0_0:Int) (c0_1:Int) :
  Calls Tryz.prog 416 #[.agg #[.int .i64 c0_0,.int .i64 c0_1]] w (RetV w (.bool (pairOk (⟨c0_0,c0_1⟩:DPair)))):=by
 have rsize_setRow:=@size_setRow
 have rcell_setRow_lt:=@cell_setRow_lt
 have rcell_setRow_gt:=@cell_setRow_gt
 have rfrozen_setRow_lt:=@frozen_setRow_lt
 have rfrozen_setRow_gt:=@frozen_setRow_gt
 go_enter Tryz.func416,Tryz.ntmps416
 go_wp2_with (first|(go_at_call 303;refine (l1In_c _ _ _ _  ).mono ?_;rintro e wa ⟨rfl,rfl⟩))
 all_goals
  go_ret
  refine⟨by first|rfl|(simp [pairOk, *];done)|(simp [pairOk, *];omega)|(simp_all [pairOk,bq,bn];done)|(simp_all [pairOk,bq,bn];omega),?_⟩
  exact xT
theorem rqGd0 {p:Prop} (h:p:=by intro KQ hKQ;(repeat (first|go_big_quiet_skip|(go_big_quiet_want;first|(refine quiet_load _ _ _ ?_ rfl rfl (fun wq hq=>?_) ?_;rotate_left;(focus ((try have y0:=hq.cell x0);(try have y1:=hq.cell x1);(try have y2:=hq.cell e0);go_simp;first|done|rfl));(try simp only [redA,Act.put]);go_big_quiet_on)|(go_big_quiet_op;first|go_big_quiet_on|(refine⟨_,fun _ _=>rfl,?_⟩;go_big_quiet_on)|(apply Exists.intro;refine⟨fun wq hq=>?_,?_⟩;(focus (exact call_ext hq (by have c:=l14Right_c wq d.Key d.Value;rw [show pairOk (⟨d.Key,d.Value⟩:DPair)=false from hp] at c;exact c)));go_big_quiet_on)))));exact wpQuiet_nil hKQ):p:=h
theorem rqGd1 {p:Prop} (h:p:=by intro KQ hKQ;(repeat (first|go_big_quiet_skip|(go_big_quiet_want;first|(refine quiet_load _ _ _ ?_ rfl rfl (fun wq hq=>?_) ?_;rotate_left;(focus ((try have y0:=hq.cell x0);(try have y1:=hq.cell x1);(try have y2:=hq.cell e0);go_simp;first|done|rfl));(try simp only [redA,Act.put]);go_big_quiet_on)|(go_big_quiet_op;first|go_big_quiet_on|(refine⟨_,fun _ _=>rfl,?_⟩;go_big_quiet_on)|(apply Exists.intro;refine⟨fun wq hq=>?_,?_⟩;(focus (exact call_ext hq (by have c:=l14Right_c wq d.Key d.Value;rw [show pairOk (⟨d.Key,d.Value⟩:DPair)=true from hp] at c;exact c)));go_big_quiet_on)))));exact wpQuiet_nil hKQ):p:=h
theorem sPairsOk_c (w:World) (s0_0:Value) (l0_0:List DPair) (h0_0:Ints 2 w s0_0 (flPair l0_0)):Calls Tryz.prog 384 #[s0_0] w (RetV w (.bool (pairsOk l0_0))):=by
 obtain⟨a,cap,rfl,hcap,hm,ha⟩:=h0_0.recs (f:=DPair.ints) (fun _=>rfl) dC
 have HA:=Lib.hid ha
 clear ha
 unfold maxLen at hm
 by_cases h10:l0_0.length≤10
 rotate_left
 ·
  go_enter Tryz.func384,Tryz.ntmps384
  go_wp2
  go_ret
  exact⟨congrArg (fun z=>Ending.returned (.bool z)) (pairsOk_false (fun hh=>h10 hh.len)).symm,Ext.refl _⟩
 go_enter Tryz.func384,Tryz.ntmps384
 go_wp2
 go_loopw [3] (fun i wr=>∃ k:Nat,k≤l0_0.length∧i=.int .i64 k∧Ext w wr∧Hid (∀ i,i<k→PairAt l0_0 i)) (fun i _=>l0_0.length - (intOf i).toNat)
 case atStart=>exact⟨0,Nat.zero_le _,rfl,Ext.refl _,Lib.hid (fun i hi=>by omega)⟩
 case round =>
  obtain⟨k,hk,rfl,he,HO⟩:=hrel
  by_cases hlt:k<l0_0.length
  ·
   obtain⟨d,b1,o1,hd,rfl,hb1,c⟩:=HA.out k hlt
   have d0:=he.cell (c 0 _ dC rfl)
   have d1:=he.cell (c 1 _ dC rfl)
   simp only [Nat.add_zero] at d0
   have HD:=Lib.hid hd
   clear c hd
   cases hp:pairOk d
   ·
    all_goals
     have x0:=d0;have x1:=d1
     have hEW:Ext w wr:=he
     obtain⟨W,hW⟩:∃ W,W=wr:=⟨_,rfl⟩
     rw [← hW] at x0 x1 hEW
     go_wp2
     rw [← hW]
     clear hW
     refine rx0 rqGd0 fun w1 hx1=>?_
     go_wp2
     go_ret
     exact⟨congrArg (fun z=>Ending.returned (.bool z)) (pairsOk_false (fun hh=>by have:=(hh k hlt d HD.out).1;rw [hp] at this;cases this)).symm,hEW.trans hx1⟩
   skip
   by_cases hk0:k=0
   ·
    subst hk0
    (try simp only [Nat.zero_mul,Nat.add_zero] at d0 d1)
    have x0:=d0;have x1:=d1
    have hEW:Ext w wr:=he
    obtain⟨W,hW⟩:∃ W,W=wr:=⟨_,rfl⟩
    rw [← hW] at x0 x1 hEW
    go_wp2
    rw [← hW]
    clear hW
    refine rx0 rqGd1 fun w1 hx1=>?_
    go_wp2
    go_roundw
    case rel=>exact⟨0+1,by omega,by go_num,hEW.trans hx1,Lib.hid (PairsOk.next HD.out HO.out hp (fun e h=>by omega))⟩
    case measure=>simp [intOf];omega
   obtain⟨e,b2,o2,hde,hbo,_,c⟩:=HA.out (k - 1) oM
   obtain⟨rfl,rfl⟩:b1=b2∧o1=o2:=by simpa using hbo
   have e00:=he.cell (c 0 _ dC rfl)
   simp only [Nat.add_zero] at e00
   have HE:=Lib.hid hde
   clear c hde hbo
   have hk1:decide (0<k)=true:=by simp;omega
   by_cases hle:d.Key≤e.Key
   ·
    have hle':decide (d.Key≤e.Key)=true:=by simpa using hle
    have x0:=d0;have x1:=d1
    have hEW:Ext w wr:=he
    obtain⟨W,hW⟩:∃ W,W=wr:=⟨_,rfl⟩
    rw [← hW] at x0 x1 hEW
    go_wp2
    rw [← hW]
    have e0:W.cell? ⟨b1,o1+(k - 1) * 2,none⟩=some (.int .i64 e.Key):=by rw [hW];exact e00
    clear hW
    refine rx0 rqGd1 fun w1 hx1=>?_
    go_wp2
    go_ret
    exact⟨congrArg (fun z=>Ending.returned (.bool z)) (pairsOk_false (fun hh=>by have:=(hh k hlt d HD.out).2 e oM HE.out;omega)).symm,hEW.trans hx1⟩
   have hle':decide (d.Key≤e.Key)=false:=by simpa using hle
   have x0:=d0;have x1:=d1
   have hEW:Ext w wr:=he
   obtain⟨W,hW⟩:∃ W,W=wr:=⟨_,rfl⟩
   rw [← hW] at x0 x1 hEW
   go_wp2
   rw [← hW]
   have e0:W.cell? ⟨b1,o1+(k - 1) * 2,none⟩=some (.int .i64 e.Key):=by rw [hW];exact e00
   clear hW
   refine rx0 rqGd1 fun w1 hx1=>?_
   go_wp2
   go_roundw
   case rel=>exact⟨k+1,by omega,by go_num,hEW.trans hx1,Lib.hid (PairsOk.next HD.out HO.out hp (fun e' _ hl=>by rw [HE.out] at hl;obtain rfl:=Option.some.inj hl;omega))⟩
   case measure=>simp [intOf];omega
  obtain rfl:k=l0_0.length:=by omega
  go_wp2
  go_ret
  exact⟨congrArg (fun z=>Ending.returned (.bool z)) (pairsOk_true HO.out).symm,he⟩
end Go.Proofs.YtkpmbocbbgocbaaGreat
namespace Go.G8
def jobOk (j:DJob):Bool:=idOk j.Id && (timeOk j.Due && (inb j.Key 0 9 && (inb j.Value 0 999 && inb j.Fired 0 2000)))
def leaseZ (l:DLease):Bool:=decide (l.Holder=0) && (decide (l.Epoch=0) && decide (l.Until=0))
def leaseOk (l:DLease):Bool:=leaseZ l || (schedOk l.Holder && (inb l.Epoch 1 1000 && inb l.Until 1 1001000))
end Go.G8
namespace Go.Proofs.YtkpmbocbbgocbaaGreat
open Go.RowKit Go.G8
theorem l16Who_cP (w:World) (c0_0:Int) :
  Calls Tryz.prog 175 #[.int .i64 c0_0] w (fun e w'=>e=.returned (.bool (schedOk c0_0))∧w=w'):=by
 have rsize_setRow:=@size_setRow
 have rcell_setRow_lt:=@cell_setRow_lt
 have rcell_setRow_gt:=@cell_setRow_gt
 have rfrozen_setRow_lt:=@frozen_setRow_lt
 have rfrozen_setRow_gt:=@frozen_setRow_gt
 go_enter Tryz.func175,Tryz.ntmps175
 go_wp2
 all_goals
  go_ret
  refine⟨by first|rfl|(simp [schedOk, *];done)|(simp [schedOk, *];omega)|(simp_all [schedOk,bq,bn];done)|(simp_all [schedOk,bq,bn];omega),by rfl⟩
theorem sJobOk_c (w:World) (c0_0:Int) (c0_1:Int) (c0_2:Int) (c0_3:Int) (c0_4:Int) :
  Calls Tryz.prog 417 #[.agg #[.int .i64 c0_0,.int .i64 c0_1,.int .i64 c0_2,.int .i64 c0_3,.int .i64 c0_4]] w (RetV w (.bool (jobOk (⟨c0_0,c0_1,c0_2,c0_3,c0_4⟩:DJob)))):=by
 have rsize_setRow:=@size_setRow
 have rcell_setRow_lt:=@cell_setRow_lt
 have rcell_setRow_gt:=@cell_setRow_gt
 have rfrozen_setRow_lt:=@frozen_setRow_lt
 have rfrozen_setRow_gt:=@frozen_setRow_gt
 go_enter Tryz.func417,Tryz.ntmps417
 go_wp2_with (first|(go_at_call 303;refine (l1In_c _ _ _ _  ).mono ?_;rintro e wa ⟨rfl,rfl⟩))
 all_goals
  go_ret
  refine⟨by first|rfl|(simp [jobOk,idOk,timeOk, *];done)|(simp [jobOk,idOk,timeOk, *];omega)|(simp_all [jobOk,idOk,timeOk,bq,bn];done)|(simp_all [jobOk,idOk,timeOk,bq,bn];omega),?_⟩
  exact xT
theorem sLeaseOk_c (w:World) (c0_0:Int) (c0_1:Int) (c0_2:Int) :
  Calls Tryz.prog 386 #[.agg #[.int .i64 c0_0,.int .i64 c0_1,.int .i64 c0_2]] w (RetV w (.bool (leaseOk (⟨c0_0,c0_1,c0_2⟩:DLease)))):=by
 have rsize_setRow:=@size_setRow
 have rcell_setRow_lt:=@cell_setRow_lt
 have rcell_setRow_gt:=@cell_setRow_gt
 have rfrozen_setRow_lt:=@frozen_setRow_lt
 have rfrozen_setRow_gt:=@frozen_setRow_gt
 go_enter Tryz.func386,Tryz.ntmps386
 go_wp2_with (first|(go_at_call 175;refine (l16Who_cP _ _  ).mono ?_;rintro e wa ⟨rfl,rfl⟩)|(go_at_call 303;refine (l1In_c _ _ _ _  ).mono ?_;rintro e wb ⟨rfl,rfl⟩))
 all_goals
  go_ret
  refine⟨by first|rfl|(simp [leaseOk,leaseZ, *];done)|(simp [leaseOk,leaseZ, *];omega)|(simp_all [leaseOk,leaseZ,bq,bn];done)|(simp_all [leaseOk,leaseZ,bq,bn];omega),?_⟩
  exact xT
end Go.Proofs.YtkpmbocbbgocbaaGreat
namespace Go.G8
open Go.RowKit
def JobAt (l:List DJob) (i:Nat):Prop:=∀ d,l[i]?=some d→jobOk d=true∧(∀ e,0<i→l[i - 1]?=some e→e.Id<d.Id)∧(0<d.Fired→∀ k e,k<i→l[k]?=some e→e.Fired ≠ d.Fired)
def JobsOk (l:List DJob):Prop:=l.length≤8∧∀ i,i<l.length→JobAt l i
open Classical in
noncomputable def jobsOk (l:List DJob):Bool:=decide (JobsOk l)
theorem jobsOk_true {l:List DJob} (h:JobsOk l):jobsOk l=true:=by simp [jobsOk,h]
theorem jobsOk_false {l:List DJob} (h:¬ JobsOk l):jobsOk l=false:=by simp [jobsOk,h]
theorem JobsOk.next {l:List DJob} {k:Nat} {d:DJob} (hd:l[k]?=some d) (h:∀ i,i<k→JobAt l i) (h1:jobOk d=true) (h2:∀ e,0<k→l[k - 1]?=some e→e.Id<d.Id)
  (h3:0<d.Fired→∀ i e,i<k→l[i]?=some e→e.Fired ≠ d.Fired):∀ i,i<k+1→JobAt l i:=by
 intro i hi
 by_cases hik:i=k
 ·
  subst hik
  intro d' hd'
  rw [hd] at hd'
  obtain rfl:=Option.some.inj hd'
  exact⟨h1,h2,h3⟩
 exact h i oM
end Go.G8
namespace Go.Proofs.YtkpmbocbbgocbaaGreat
open Go.RowKit Go.G8
theorem rqGd2 {p:Prop} (h:p:=by intro KQ hKQ;(repeat (first|go_big_quiet_skip|(go_big_quiet_want;first|(refine quiet_load _ _ _ ?_ rfl rfl (fun wq hq=>?_) ?_;rotate_left;(focus ((try have y0:=hq.cell d0);(try have y1:=hq.cell d1);(try have y2:=hq.cell d2);(try have y3:=hq.cell d3);(try have y4:=hq.cell d4);(try have y5:=hq.cell e0);go_simp;first|done|rfl));(try simp only [redA,Act.put]);go_big_quiet_on)|(go_big_quiet_op;first|go_big_quiet_on|(refine⟨_,fun _ _=>rfl,?_⟩;go_big_quiet_on)|(apply Exists.intro;refine⟨fun wq hq=>?_,?_⟩;(focus (exact call_ext hq (by have c:=sJobOk_c wq d.Id d.Due d.Key d.Value d.Fired;rw [show jobOk (⟨d.Id,d.Due,d.Key,d.Value,d.Fired⟩:DJob)=false from hp] at c;exact c)));go_big_quiet_on)))));exact wpQuiet_nil hKQ):p:=h
theorem rqGd3 {p:Prop} (h:p:=by intro KQ hKQ;(repeat (first|go_big_quiet_skip|(go_big_quiet_want;first|(refine quiet_load _ _ _ ?_ rfl rfl (fun wq hq=>?_) ?_;rotate_left;(focus ((try have y0:=hq.cell d0);(try have y1:=hq.cell d1);(try have y2:=hq.cell d2);(try have y3:=hq.cell d3);(try have y4:=hq.cell d4);(try have y5:=hq.cell e0);go_simp;first|done|rfl));(try simp only [redA,Act.put]);go_big_quiet_on)|(go_big_quiet_op;first|go_big_quiet_on|(refine⟨_,fun _ _=>rfl,?_⟩;go_big_quiet_on)|(apply Exists.intro;refine⟨fun wq hq=>?_,?_⟩;(focus (exact call_ext hq (by have c:=sJobOk_c wq d.Id d.Due d.Key d.Value d.Fired;rw [show jobOk (⟨d.Id,d.Due,d.Key,d.Value,d.Fired⟩:DJob)=true from hp] at c;exact c)));go_big_quiet_on)))));exact wpQuiet_nil hKQ):p:=h
theorem sJobsOk_c (w:World) (s0_0:Value) (l0_0:List DJob) (h0_0:Ints 5 w s0_0 (flJob l0_0)):Calls Tryz.prog 385 #[s0_0] w (RetV w (.bool (jobsOk l0_0))):=by
 obtain⟨a,cap,rfl,hcap,hm,ha⟩:=h0_0.recs (f:=DJob.ints) (fun _=>rfl) dC
 have HA:=Lib.hid ha
 clear ha
 unfold maxLen at hm
 by_cases h8:l0_0.length≤8
 rotate_left
 ·
  go_enter Tryz.func385,Tryz.ntmps385
  go_wp2
  go_ret
  exact⟨congrArg (fun z=>Ending.returned (.bool z)) (jobsOk_false (fun hh=>h8 hh.1)).symm,Ext.refl _⟩
 go_enter Tryz.func385,Tryz.ntmps385
 go_wp2
 go_loopw [3] (fun i wr=>∃ k:Nat,k≤l0_0.length∧i=.int .i64 k∧Ext w wr∧Hid (∀ i,i<k→JobAt l0_0 i)) (fun i _=>l0_0.length - (intOf i).toNat)
 case atStart=>exact⟨0,Nat.zero_le _,rfl,Ext.refl _,Lib.hid (fun i hi=>by omega)⟩
 case round =>
  obtain⟨k,hk,rfl,he,HO⟩:=hrel
  by_cases hlt:k<l0_0.length
  ·
   obtain⟨d,b1,o1,hd,rfl,hb1,c⟩:=HA.out k hlt
   have d0:=he.cell (c 0 _ dC rfl)
   have d1:=he.cell (c 1 _ dC rfl)
   have d2:=he.cell (c 2 _ dC rfl)
   have d3:=he.cell (c 3 _ dC rfl)
   have d4:=he.cell (c 4 _ dC rfl)
   simp only [Nat.add_zero] at d0
   have HD:=Lib.hid hd
   clear c hd
   cases hp:jobOk d
   ·
    go_wp2
    refine rx0 rqGd2 fun w1 hx1=>?_
    go_wp2
    go_ret
    exact⟨congrArg (fun z=>Ending.returned (.bool z)) (jobsOk_false (fun hh=>by have:=(hh.2 k hlt d HD.out).1;rw [hp] at this;cases this)).symm,he.trans hx1⟩
   by_cases hk0:k=0
   ·
    have hk1:decide (0<k)=false:=by simp;omega
    have HK:=Lib.hid hk0
    clear hk0
    go_wp2
    refine rx0 rqGd3 fun w1 hx1=>?_
    go_wp2
    go_loopw [4] (fun i wr'=>∃ m:Nat,m≤k∧i=.int .i64 m∧Ext wr wr'∧Hid (0<d.Fired→∀ i e,i<m→l0_0[i]?=some e→e.Fired ≠ d.Fired)) (fun i _=>k - (intOf i).toNat)
    case atStart=>exact⟨0,by omega,rfl,hx1,Lib.hid (fun _ i e h=>by omega)⟩
    case round =>
     obtain⟨m,hm',rfl,he',HM⟩:=hrel
     by_cases hmk:m<k
     ·
      obtain⟨g,b2,o2,hdg,hbo,_,c⟩:=HA.out m oM
      obtain⟨rfl,rfl⟩:b1=b2∧o1=o2:=by simpa using hbo
      have g4:=(he.trans he').cell (c 4 _ dC rfl)
      have f4:=he'.cell d4
      have HG:=Lib.hid hdg
      clear c hdg hbo
      by_cases hf:0<d.Fired
      ·
       have hf':decide (0<d.Fired)=true:=by simpa using hf
       by_cases heq:g.Fired=d.Fired
       ·
        have hb:(g.Fired == d.Fired)=true:=by simpa using heq
        have HEQ:=Lib.hid heq
        clear heq
        go_wp2
        go_quiet (fail)
        go_wp2
        go_ret
        exact⟨congrArg (fun z=>Ending.returned (.bool z)) (jobsOk_false (fun hh=>(hh.2 k hlt d HD.out).2.2 hf m g hmk HG.out HEQ.out)).symm,(he.trans he').drewN _⟩
       have hb:(g.Fired == d.Fired)=false:=by simpa using heq
       go_wp2
       go_quiet (fail)
       go_wp2
       go_roundw
       case rel =>
        refine⟨m+1,by omega,by go_num,he'.drewN _,Lib.hid (fun _ i e' hi hl=>?_)⟩
        by_cases him:i=m
        ·
         subst him
         rw [HG.out] at hl
         obtain rfl:=Option.some.inj hl
         exact heq
        exact HM.out hf i e' oM hl
       case measure=>simp [intOf];omega
      have hf':decide (0<d.Fired)=false:=by simpa using hf
      go_wp2
      go_quiet (fail)
      go_wp2
      go_roundw
      case rel=>exact⟨m+1,by omega,by go_num,he'.drewN _,Lib.hid (fun h=>absurd h oM)⟩
      case measure=>simp [intOf];omega
     obtain rfl:m=k:=by omega
     go_wp2
     go_roundw
     case rel=>exact⟨m+1,by omega,by go_num,he.trans he',Lib.hid (JobsOk.next HD.out HO.out hp (fun e h=>by have:=HK.out;omega) HM.out)⟩
     case measure=>simp [intOf];omega
   obtain⟨e,b2,o2,hde,hbo,_,c⟩:=HA.out (k - 1) oM
   obtain⟨rfl,rfl⟩:b1=b2∧o1=o2:=by simpa using hbo
   have e0:=he.cell (c 0 _ dC rfl)
   simp only [Nat.add_zero] at e0
   have HE:=Lib.hid hde
   clear c hde hbo
   have hk1:decide (0<k)=true:=by simp;omega
   by_cases hle:d.Id≤e.Id
   ·
    have hle':decide (d.Id≤e.Id)=true:=by simpa using hle
    go_wp2
    refine rx0 rqGd3 fun w1 hx1=>?_
    go_wp2
    go_ret
    exact⟨congrArg (fun z=>Ending.returned (.bool z)) (jobsOk_false (fun hh=>by have:=(hh.2 k hlt d HD.out).2.1 e oM HE.out;omega)).symm,he.trans hx1⟩
   have hle':decide (d.Id≤e.Id)=false:=by simpa using hle
   go_wp2
   refine rx0 rqGd3 fun w1 hx1=>?_
   go_wp2
   go_loopw [4] (fun i wr'=>∃ m:Nat,m≤k∧i=.int .i64 m∧Ext wr wr'∧Hid (0<d.Fired→∀ i e,i<m→l0_0[i]?=some e→e.Fired ≠ d.Fired)) (fun i _=>k - (intOf i).toNat)
   case atStart=>exact⟨0,by omega,rfl,hx1,Lib.hid (fun _ i e h=>by omega)⟩
   case round =>
    obtain⟨m,hm',rfl,he',HM⟩:=hrel
    by_cases hmk:m<k
    ·
     obtain⟨g,b2,o2,hdg,hbo,_,c⟩:=HA.out m oM
     obtain⟨rfl,rfl⟩:b1=b2∧o1=o2:=by simpa using hbo
     have g4:=(he.trans he').cell (c 4 _ dC rfl)
     have f4:=he'.cell d4
     have HG:=Lib.hid hdg
     clear c hdg hbo
     by_cases hf:0<d.Fired
     ·
      have hf':decide (0<d.Fired)=true:=by simpa using hf
      by_cases heq:g.Fired=d.Fired
      ·
       have hb:(g.Fired == d.Fired)=true:=by simpa using heq
       have HEQ:=Lib.hid heq
       clear heq
       go_wp2
       go_quiet (fail)
       go_wp2
       go_ret
       exact⟨congrArg (fun z=>Ending.returned (.bool z)) (jobsOk_false (fun hh=>(hh.2 k hlt d HD.out).2.2 hf m g hmk HG.out HEQ.out)).symm,(he.trans he').drewN _⟩
      have hb:(g.Fired == d.Fired)=false:=by simpa using heq
      go_wp2
      go_quiet (fail)
      go_wp2
      go_roundw
      case rel =>
       refine⟨m+1,by omega,by go_num,he'.drewN _,Lib.hid (fun _ i e' hi hl=>?_)⟩
       by_cases him:i=m
       ·
        subst him
        rw [HG.out] at hl
        obtain rfl:=Option.some.inj hl
        exact heq
       exact HM.out hf i e' oM hl
      case measure=>simp [intOf];omega
     have hf':decide (0<d.Fired)=false:=by simpa using hf
     go_wp2
     go_quiet (fail)
     go_wp2
     go_roundw
     case rel=>exact⟨m+1,by omega,by go_num,he'.drewN _,Lib.hid (fun h=>absurd h oM)⟩
     case measure=>simp [intOf];omega
    obtain rfl:m=k:=by omega
    go_wp2
    go_roundw
    case rel=>exact⟨m+1,by omega,by go_num,he.trans he',Lib.hid (JobsOk.next HD.out HO.out hp (fun e' _ hl=>by rw [HE.out] at hl;obtain rfl:=Option.some.inj hl;omega) HM.out)⟩
    case measure=>simp [intOf];omega
  obtain rfl:k=l0_0.length:=by omega
  go_wp2
  go_ret
  exact⟨congrArg (fun z=>Ending.returned (.bool z)) (jobsOk_true ⟨by omega,HO.out⟩).symm,he⟩
end Go.Proofs.YtkpmbocbbgocbaaGreat
namespace Go.G8
noncomputable def stateOk (s:DState):Bool:=inb s.Index 0 2000 && (timeOk s.Time && (pairsOk s.Pairs && (jobsOk s.Jobs && (leaseOk s.Lease && s.Jobs.all (fun j=>decide (j.Fired≤s.Index))))))
end Go.G8
namespace Go.Proofs.YtkpmbocbbgocbaaGreat
open Go.RowKit Go.G8
theorem all_stepJ {α:Type} {p:α→Bool} {l:List α} {k:Nat} {d:α} (h:l[k]?=some d) (h1:(l.take k).all p=true) (h2:p d=true):(l.take (k+1)).all p=true:=by
 rw [List.take_add_one,h,List.all_append,h1];simp [h2]
theorem all_noJ {α:Type} {p:α→Bool} {l:List α} {k:Nat} {d:α} (h:l[k]?=some d) (h2:p d=false):l.all p=false:=by
 rw [Bool.eq_false_iff];intro hh
 rw [List.all_eq_true] at hh
 have:=hh d (List.mem_of_getElem? h)
 rw [h2] at this;cases this
theorem l16Time_cP (w:World) (c0_0:Int) :
  Calls Tryz.prog 383 #[.int .i64 c0_0] w (fun e w'=>e=.returned (.bool (timeOk c0_0))∧w=w'):=by
 have rsize_setRow:=@size_setRow
 have rcell_setRow_lt:=@cell_setRow_lt
 have rcell_setRow_gt:=@cell_setRow_gt
 have rfrozen_setRow_lt:=@frozen_setRow_lt
 have rfrozen_setRow_gt:=@frozen_setRow_gt
 go_enter Tryz.func383,Tryz.ntmps383
 go_wp2_with (first|(go_at_call 303;refine (l1In_c _ _ _ _  ).mono ?_;rintro e wa ⟨rfl,rfl⟩))
 all_goals
  go_ret
  refine⟨by first|rfl|(simp [timeOk, *];done)|(simp [timeOk, *];omega)|(simp_all [timeOk,bq,bn];done)|(simp_all [timeOk,bq,bn];omega),by rfl⟩
theorem sStateOk_c (w:World) (c0_0:Int) (c0_1:Int) (s0_2:Value) (l0_2:List DPair) (s0_3:Value) (l0_3:List DJob) (c0_4:Int) (c0_5:Int) (c0_6:Int) (h0_2:Ints 2 w s0_2 (flPair l0_2)) (h0_3:Ints 5 w s0_3 (flJob l0_3)) :
  Calls Tryz.prog 316 #[.agg #[.int .i64 c0_0,.int .i64 c0_1,s0_2,s0_3,.int .i64 c0_4,.int .i64 c0_5,.int .i64 c0_6]] w (RetV w (.bool (stateOk (⟨c0_0,c0_1,l0_2,l0_3,⟨c0_4,c0_5,c0_6⟩⟩:DState)))):=by
 obtain⟨a0_2,n0_2,k0_2,rfl⟩:=h0_2.shape
 obtain⟨a3,cap3,rfl,hcap,hm,ha⟩:=h0_3.recs (f:=DJob.ints) (fun _=>rfl) dC
 have HA:=Lib.hid ha
 clear ha
 unfold maxLen at hm
 have hst:stateOk (⟨c0_0,c0_1,l0_2,l0_3,⟨c0_4,c0_5,c0_6⟩⟩:DState)=(inb c0_0 0 2000 && (timeOk c0_1 && (pairsOk l0_2 && (jobsOk l0_3 && (leaseOk (⟨c0_4,c0_5,c0_6⟩:DLease) && l0_3.all (fun j=>decide (j.Fired≤c0_0))))))):=rfl
 have HST:=Lib.hid hst
 clear hst
 go_enter Tryz.func316,Tryz.ntmps316
 go_wp2_with fail
 refine (l1In_c _ _ _ _).mono ?_
 rintro e w9 ⟨rfl,rfl⟩
 cases g1:inb c0_0 0 2000
 ·
  go_wp2_with fail
  go_ret
  exact⟨by rw [HST.out,g1];rfl,by exact extT⟩
 go_wp2_with fail
 refine (l16Time_cP _ _).mono ?_
 rintro e w9 ⟨rfl,rfl⟩
 cases g2:timeOk c0_1
 ·
  go_wp2_with fail
  go_ret
  exact⟨by rw [HST.out,g1,g2];rfl,by exact extT⟩
 go_wp2_with fail
 refine (sPairsOk_c _ _ _ (h0_2.ext extT)).mono ?_
 rintro e w3 ⟨rfl,hx3⟩
 have K3:Blk w3 w.heap.size 86 #[.int .i64 c0_0,.int .i64 c0_1,.slice a0_2 n0_2 k0_2,.slice a3 l0_3.length cap3,.int .i64 c0_4,.int .i64 c0_5,.int .i64 c0_6]:=Blk.ext (by exact blkT) hx3
 obtain⟨C3,F3,L3⟩:=K3.cfl
 cases g3:pairsOk l0_2
 ·
  go_wp2_with fail
  go_ret
  exact⟨by rw [HST.out,g1,g2,g3];rfl,by exact extT⟩
 go_wp2_with fail
 refine (sJobsOk_c _ _ _ (h0_3.ext extT)).mono ?_
 rintro e w4 ⟨rfl,hx4⟩
 have K4:Blk w4 w.heap.size 86 #[.int .i64 c0_0,.int .i64 c0_1,.slice a0_2 n0_2 k0_2,.slice a3 l0_3.length cap3,.int .i64 c0_4,.int .i64 c0_5,.int .i64 c0_6]:=Blk.ext (by exact blkT) hx4
 clear C3 F3 L3
 obtain⟨C4,F4,L4⟩:=K4.cfl
 cases g4:jobsOk l0_3
 ·
  go_wp2_with fail
  go_ret
  exact⟨by rw [HST.out,g1,g2,g3,g4];rfl,by exact extT⟩
 go_wp2_with fail
 refine (sLeaseOk_c _ _ _ _).mono ?_
 rintro e w5 ⟨rfl,hx5⟩
 have K5:Blk w5 w.heap.size 86 #[.int .i64 c0_0,.int .i64 c0_1,.slice a0_2 n0_2 k0_2,.slice a3 l0_3.length cap3,.int .i64 c0_4,.int .i64 c0_5,.int .i64 c0_6]:=Blk.ext (by exact blkT) hx5
 clear C4 F4 L4
 obtain⟨C5,F5,L5⟩:=K5.cfl
 cases g5:leaseOk (⟨c0_4,c0_5,c0_6⟩:DLease)
 ·
  go_wp2_with fail
  go_ret
  exact⟨by rw [HST.out,g1,g2,g3,g4,g5];rfl,by exact extT⟩
 go_wp2_with fail
 have hst2:stateOk (⟨c0_0,c0_1,l0_2,l0_3,⟨c0_4,c0_5,c0_6⟩⟩:DState)=l0_3.all (fun j=>decide (j.Fired≤c0_0)):=by rw [HST.out,g1,g2,g3,g4,g5];rfl
 have HS2:=Lib.hid hst2
 have I0:w5.cell? ⟨w.heap.size,0,none⟩=some (.int .i64 c0_0):=by rw [K5.cell];rfl
 have I3:w5.cell? ⟨w.heap.size,3,none⟩=some (.slice a3 l0_3.length cap3):=by rw [K5.cell];rfl
 have E0:Ext w w5:=by exact extT
 clear g1 g2 g3 g4 g5 C5 F5 L5 hx3 hx4 hx5 hst2 HST K3 K4 K5
 go_loopw [3] (fun i wr=>∃ k:Nat,k≤l0_3.length∧i=.int .i64 k∧Ext w5 wr∧Hid ((l0_3.take k).all (fun j=>decide (j.Fired≤c0_0))=true)) (fun i _=>l0_3.length - (intOf i).toNat)
 case atStart=>exact⟨0,Nat.zero_le _,rfl,Ext.refl _,Lib.hid (by simp)⟩
 case round =>
  obtain⟨k,hk,rfl,he,hp⟩:=hrel
  have J0:=he.cell I0;have J3:=he.cell I3
  have hbl:w.heap.size<wr.heap.size:=World.block_lt_of_cell? _ _ J0
  by_cases hlt:k<l0_3.length
  ·
   obtain⟨d,b1,o1,hd,rfl,hb1,c⟩:=HA.out k hlt
   have d0:=(E0.trans he).cell (c 0 _ dC rfl)
   have d1:=(E0.trans he).cell (c 1 _ dC rfl)
   have d2:=(E0.trans he).cell (c 2 _ dC rfl)
   have d3:=(E0.trans he).cell (c 3 _ dC rfl)
   have d4:=(E0.trans he).cell (c 4 _ dC rfl)
   simp only [Nat.add_zero] at d0
   have HD:=Lib.hid hd
   clear c hd
   by_cases hf:c0_0<d.Fired
   ·
    have hf':decide (c0_0<d.Fired)=true:=by simpa using hf
    have HF:=Lib.hid hf
    clear hf
    go_wp2;go_quiet (fail);go_wp2
    go_ret
    exact⟨congrArg (fun z=>Ending.returned (.bool z)) (HS2.out.trans (all_noJ HD.out (by have:=HF.out;simp;omega))).symm,by exact extT⟩
   have hf':decide (c0_0<d.Fired)=false:=by simpa using hf
   have HF:=Lib.hid hf
   clear hf
   go_wp2;go_quiet (fail);go_wp2
   go_roundw
   case rel=>exact⟨k+1,by omega,by go_num,by exact extT,Lib.hid (all_stepJ HD.out hp.out (by have:=HF.out;simp;omega))⟩
   case measure=>simp [intOf];omega
  obtain rfl:k=l0_3.length:=by omega
  go_wp2
  go_ret
  have hp':=hp.out
  rw [List.take_length] at hp'
  exact⟨congrArg (fun z=>Ending.returned (.bool z)) (HS2.out.trans hp').symm,by exact extT⟩
end Go.Proofs.YtkpmbocbbgocbaaGreat
