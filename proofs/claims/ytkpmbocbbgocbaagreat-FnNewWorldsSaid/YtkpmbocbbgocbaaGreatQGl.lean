/- HelpH Q9 S5 KS P7 Q10. -/
import Derived.Test.YtkpmbocbbgocbaaGreatQGi
import Derived.Test.YtkpmbocbbgocbaaGreatQGv
set_option linter.unusedSimpArgs false
set_option linter.unusedVariables false
set_option maxHeartbeats 8000000
set_option maxRecDepth 100000
namespace Go.Proofs.YtkpmbocbbgocbaaGreat
open Go.RowKit Go.G8
theorem iH(w:World):Calls Tryz.prog 78 #[] w (Ret w fun v w'=>∃t0 t1:Value,∃ss0 ss1:List Value,v=.agg #[t0,t1,.int .i64 0,.int .i64 0,.slice none 0 0,.slice none 0 0,.int .i64 0,.int .i64 0,.int .i64 0,.int .i64 0,.int .i64 0,.int .i64 0]/\Bi w.heap.size 62 2 0 w' t0 (Ac (Gb 8).Kept) ss0/\Bi w.heap.size 312 2 1 w' t1 (Ah (Gb 8).Wait) ss1/\(∀k,k ∈ Be (t0::ss0)->k ∈ Be (t1::ss1)->False)):=by
 go_enter Tryz.func78,Tryz.ntmps78
 go_wp2_with fail
 refine(gQ _).mono ?_
 rintro e w1⟨_,rfl,hx1,t0,t1,ss0,ss1,rfl,g0,g1,hd⟩
 obtain⟨a0,n0,k0,rfl⟩:=g0.nest.shape
 obtain⟨a1,n1,k1,rfl⟩:=g1.nest.shape
 obtain⟨hc1,hf1⟩:=hx1.cells
 have hz1:=hx1.size
 simp only[World.size_alloc] at hc1 hf1 hz1 g0 g1
 have hy:w.heap.size<w1.heap.size:=by omega
 go_wp2
 refine bodyPost_ret (by simp[results,Tryz.results78,go_sem, *];try rfl) rfl ?_
 clear hc1 hf1
 refine⟨_,rfl,xT,_,_,ss0,ss1,rfl,(Bi.keep g0 Hx).mono oM,(Bi.keep g1 Hx).mono oM,hd⟩
theorem kP(w:World):Calls Tryz.prog 72 #[] w (Ret w fun v w'=>∃t0 t1:Value,∃ss0 ss1:List Value,v=.agg #[t0,t1,.int .i64 0,.int .i64 0,.slice none 0 0,.slice none 0 0,.int .i64 0,.int .i64 0,.int .i64 0,.int .i64 0,.int .i64 0,.int .i64 0]/\Bi w.heap.size 62 2 0 w' t0 (Ac (Gb 8).Kept) ss0/\Bi w.heap.size 312 2 1 w' t1 (Ah (Gb 8).Wait) ss1/\(∀k,k ∈ Be (t0::ss0)->k ∈ Be (t1::ss1)->False)):=by
 go_enter Tryz.func72,Tryz.ntmps72
 go_wp2_with fail
 refine(jT _).mono ?_
 rintro e w1⟨_,rfl,hx1,t0,t1,ss0,ss1,rfl,g0,g1,hd⟩
 obtain⟨a0,n0,k0,rfl⟩:=g0.nest.shape
 obtain⟨a1,n1,k1,rfl⟩:=g1.nest.shape
 obtain⟨hc1,hf1⟩:=hx1.cells
 have hz1:=hx1.size
 simp only[World.size_alloc] at hc1 hf1 hz1 g0 g1
 have hy:w.heap.size<w1.heap.size:=by omega
 go_wp2
 refine bodyPost_ret (by simp[results,Tryz.results72,go_sem, *];try rfl) rfl ?_
 clear hc1 hf1
 refine⟨_,rfl,xT,_,_,ss0,ss1,rfl,(Bi.keep g0 Hx).mono oM,(Bi.keep g1 Hx).mono oM,hd⟩
def Ix(w:World)(v:Value)(s:It):Prop:=∃t0 t1 t4 t5:Value,v=.agg #[t0,t1,.int .i64 s.State.Index,.int .i64 s.State.Time,t4,t5,.int .i64 s.State.Lease.Holder,.int .i64 s.State.Lease.Epoch,.int .i64 s.State.Lease.Until,.int .i64 s.Num,.int .i64 s.Last,.int .i64 s.Busy]/\Ck 0 w t0 (Ac s.Disk.Kept)/\Ck 1 w t1 (Ah s.Disk.Wait)/\Aj 2 w t4 (Dp s.State.Pairs)/\Aj 5 w t5 (Fj s.State.Jobs)
def Dy(B:Nat)(w:World)(v:Value)(s:It)(F:List Nat):Prop:=∃t0 t1 t4 t5:Value,∃ss0 ss1:List Value,v=.agg #[t0,t1,.int .i64 s.State.Index,.int .i64 s.State.Time,t4,t5,.int .i64 s.State.Lease.Holder,.int .i64 s.State.Lease.Epoch,.int .i64 s.State.Lease.Until,.int .i64 s.Num,.int .i64 s.Last,.int .i64 s.Busy]/\Bi B 62 2 0 w t0 (Ac s.Disk.Kept) ss0/\Bi B 312 2 1 w t1 (Ah s.Disk.Wait) ss1/\Af B 362 2 w t4 (Dp s.State.Pairs)/\Af B 366 5 w t5 (Fj s.State.Jobs)/\(∀k,k ∈ Be (t0::ss0)->k ∈ Be (t1::ss1)->False)/\F=(Be (t0::ss0)++Be (t1::ss1))++(Be [t4]++Be [t5])
def Vo(s:It):Nat:=tot 0 (Ac s.Disk.Kept)+tot 1 (Ah s.Disk.Wait)+s.State.Pairs.length*2+s.State.Jobs.length*5
def Yv(B:Nat)(w:World)(v:Value)(s:It)(F:List Nat)(q:Int):Prop:=∃t0 t1 t4 t5:Value,∃ss0 ss1:List Value,v=.agg #[t0,t1,.int .i64 s.State.Index,.int .i64 s.State.Time,t4,t5,.int .i64 s.State.Lease.Holder,.int .i64 s.State.Lease.Epoch,.int .i64 s.State.Lease.Until,.int .i64 s.Num,.int .i64 s.Last,.int .i64 s.Busy]/\Bi B 62 2 0 w t0 (Zl 0 q (Ac s.Disk.Kept)) ss0/\Bi B 312 2 1 w t1 (Zl 1 (q+(tot 0 (Ac s.Disk.Kept):Nat)) (Ah s.Disk.Wait)) ss1/\Af B 362 2 w t4 (run (q+(tot 0 (Ac s.Disk.Kept):Nat)+(tot 1 (Ah s.Disk.Wait):Nat)) (s.State.Pairs.length*2))/\Af B 366 5 w t5 (run (q+(tot 0 (Ac s.Disk.Kept):Nat)+(tot 1 (Ah s.Disk.Wait):Nat)+(s.State.Pairs.length*2:Nat)) (s.State.Jobs.length*5))
section
variable {B B':Nat} {w w':World} {v:Value} {s s':It} {F:List Nat} {q:Int}
theorem Ix.shape(h:Ix w v s):∃a0 n0 k0 a1 n1 k1 a4 n4 k4 a5 n5 k5,v=.agg #[.slice a0 n0 k0,.slice a1 n1 k1,.int .i64 s.State.Index,.int .i64 s.State.Time,.slice a4 n4 k4,.slice a5 n5 k5,.int .i64 s.State.Lease.Holder,.int .i64 s.State.Lease.Epoch,.int .i64 s.State.Lease.Until,.int .i64 s.Num,.int .i64 s.Last,.int .i64 s.Busy]:=by
 obtain⟨t0,t1,t4,t5,rfl,h0,h1,h4,h5⟩:=h
 obtain⟨a0,n0,k0,rfl⟩:=h0.shape
 obtain⟨a1,n1,k1,rfl⟩:=h1.shape
 obtain⟨a4,n4,k4,rfl⟩:=h4.shape
 obtain⟨a5,n5,k5,rfl⟩:=h5.shape
 exact⟨a0,n0,k0,a1,n1,k1,a4,n4,k4,a5,n5,k5,rfl⟩
theorem Ix.ext(h:Ix w v s)(x:Ext w w'):Ix w' v s:=let ⟨t0,t1,t4,t5,e,h0,h1,h4,h5⟩:=h;⟨t0,t1,t4,t5,e,h0.ext x,h1.ext x,h4.ext x,h5.ext x⟩
theorem Dy.rd(h:Dy B w v s F):Ix w v s:=let ⟨t0,t1,t4,t5,_,_,e,h0,h1,h4,h5,_,_⟩:=h;⟨t0,t1,t4,t5,e,h0.nest,h1.nest,h4.ints,h5.ints⟩
theorem Dy.ext(h:Dy B w v s F)(x:Ext w w'):Dy B w' v s F:=let ⟨t0,t1,t4,t5,s0,s1,e,h0,h1,h4,h5,hd,hF⟩:=h;⟨t0,t1,t4,t5,s0,s1,e,h0.ext x,h1.ext x,Own.ext h4 x,Own.ext h5 x,hd,hF⟩
theorem Dy.keep(h:Dy B w v s F)(x:Chg B w w'):Dy B w' v s F:=let ⟨t0,t1,t4,t5,s0,s1,e,h0,h1,h4,h5,hd,hF⟩:=h;⟨t0,t1,t4,t5,s0,s1,e,h0.keep x,h1.keep x,h4.keep x,h5.keep x,hd,hF⟩
theorem Dy.mono(h:Dy B w v s F)(x:B'<=B):Dy B' w v s F:=let ⟨t0,t1,t4,t5,s0,s1,e,h0,h1,h4,h5,hd,hF⟩:=h;⟨t0,t1,t4,t5,s0,s1,e,h0.mono x,h1.mono x,h4.mono x,h5.mono x,hd,hF⟩
theorem Dy.cast(h:Dy B w v s F)(e:s=s'):Dy B w v s' F:=e ▸ h
theorem Dy.upd(h:Dy B w v s F){fs:List Nat}(x:Upd w w' fs)(hn:∀k,k ∈ F->k ∈ fs->False):Dy B w' v s F:=by
 obtain⟨t0,t1,t4,t5,s0,s1,e,h0,h1,h4,h5,hd,rfl⟩:=h
 exact⟨t0,t1,t4,t5,s0,s1,e,h0.upd x (fun k h=>hn k (List.mem_append_left _ (List.mem_append_left _ h))),h1.upd x (fun k h=>hn k (List.mem_append_left _ (List.mem_append_right _ h))),Af.upd' h4 x (fun k h=>hn k (List.mem_append_right _ (List.mem_append_left _ h))),Af.upd' h5 x (fun k h=>hn k (List.mem_append_right _ (List.mem_append_right _ h))),hd,rfl⟩
theorem Dy.low(h:Dy B w v s F):∀k,k ∈ F->B<=k/\k<w.heap.size:=by
 obtain⟨t0,t1,t4,t5,s0,s1,e,h0,h1,h4,h5,hd,rfl⟩:=h
 intro k hk
 rcases List.mem_append.1 hk with h|h
 .
  rcases List.mem_append.1 h with h|h
  .
   exact h0.foot k h
  exact h1.foot k h
 rcases List.mem_append.1 h with h|h
 .
  exact h4.foot k h
 exact h5.foot k h
theorem Yv.ext(h:Yv B w v s F q)(x:Ext w w'):Yv B w' v s F q:=let ⟨t0,t1,t4,t5,s0,s1,e,h0,h1,h4,h5⟩:=h;⟨t0,t1,t4,t5,s0,s1,e,h0.ext x,h1.ext x,Own.ext h4 x,Own.ext h5 x⟩
end
noncomputable def Kt(s:It):Bool:=Mk s.Disk&&(Gg s.State&&(inb s.Num 0 1000000000&&(inb s.Last 0 s.State.Index&&((decide (s.Num=0) == decide (s.Last=0))&&(decide (s.Busy=0)||(decide (s.Num<1000000000)&&(decide (s.Last<s.Busy)&&decide (s.Busy<=s.State.Index))))))))
theorem Uv{s:Fl}(h:Gg s=true):0<=s.Index/\s.Index<=2000:=by
 simp only[Gg,Bool.and_eq_true] at h
 exact Dz.1 h.1
theorem kQ(w:World)(Dl:Value)(Ad:List (List Int))(Fe:Value)(Am:List Eb)(Cw:Int)(Ei:Int)(sD:Value)(lZ:List Ft)(Xz:Value)(Wc:List Hl)(Bs:Int)(Ya:Int)(Co:Int)(Cj:Int)(Bg:Int)(Ud:Int)(Dk:Ck 0 w Dl (Ac Ad))(Ev:Ck 1 w Fe (Ah Am))(vR:Aj 2 w sD (Dp lZ))(lY:Aj 5 w Xz (Fj Wc)):Calls Tryz.prog 210 #[.agg #[Dl,Fe,.int .i64 Cw,.int .i64 Ei,sD,Xz,.int .i64 Bs,.int .i64 Ya,.int .i64 Co,.int .i64 Cj,.int .i64 Bg,.int .i64 Ud]] w (Cp w (.bool (Kt (⟨⟨Ad,Am⟩,⟨Cw,Ei,lZ,Wc,⟨Bs,Ya,Co⟩⟩,Cj,Bg,Ud⟩:It)))):=by
 obtain⟨xB,xC,uF,rfl⟩:=Dk.shape
 obtain⟨xE,xF,uG,rfl⟩:=Ev.shape
 obtain⟨xG,xH,xI,rfl⟩:=vR.shape
 obtain⟨xJ,xK,xM,rfl⟩:=lY.shape
 by_cases hl:0<=Bg/\Bg<=2000
 obtain⟨hl1,hl2⟩:=hl
 rotate_left
 have hno:Gg (⟨Cw,Ei,lZ,Wc,⟨Bs,Ya,Co⟩⟩:Fl)=true->inb Bg 0 Cw=false:=fun h=>by
  have:=Uv h
  simp only[] at this
  by_cases h1:inb Bg 0 Cw=true
  .
   have h2:=Dz.1 h1
   exact(hl ⟨by omega,by omega⟩).elim
  simpa using h1
 clear hl
 all_goals
   have rr:=Lc
   go_enter Tryz.func210,Tryz.ntmps210
   go_wp2_with (first|(go_at_call 315;refine(kF _ _ _ _ _ (by first|(with_reducible exact Ck.ext (by assumption) xT)|(with_reducible exact Ck.ext (Hw.nest (by assumption)) xT)) (by first|(with_reducible exact Ck.ext (by assumption) xT)|(with_reducible exact Ck.ext (Hw.nest (by assumption)) xT)) ).mono ?_;rintro e wa ⟨rfl,hxa⟩;have hza:=hxa.size;(repeat (first|simp only[World.size_alloc] at hza|simp only[World.size_setCell] at hza|simp only[Hh] at hza));(try have hya_b_0:wb.heap.size<wa.heap.size:=oM);(try have hya_b_1:wb.heap.size+1<wa.heap.size:=oM);(try have hya_b_2:wb.heap.size+1+1<wa.heap.size:=oM);(try have hya_c_0:wc.heap.size<wa.heap.size:=oM);(try have hya_c_1:wc.heap.size+1<wa.heap.size:=oM);(try have hya_c_2:wc.heap.size+1+1<wa.heap.size:=oM);have Ka0:Blk wa (w.heap.size) 88 _:=Blk.ext (by exact Bv) hxa;(try simp only[Gp] at Ka0);have CKa0:=Ka0.cell;have FKa0:=Ka0.frozen;have hya__0:w.heap.size<wa.heap.size:=oM;(try(have Ka_b0:Blk wa (wb.heap.size) _ _:=Blk.ext (by exact Bv) hxa;(try simp only[Gp] at Ka_b0);have CKa_b0:=Ka_b0.cell;have FKa_b0:=Ka_b0.frozen));(try(have Ka_b1:Blk wa (wb.heap.size+1) _ _:=Blk.ext (by exact Bv) hxa;(try simp only[Gp] at Ka_b1);have CKa_b1:=Ka_b1.cell;have FKa_b1:=Ka_b1.frozen));(try(have Ka_b2:Blk wa (wb.heap.size+1+1) _ _:=Blk.ext (by exact Bv) hxa;(try simp only[Gp] at Ka_b2);have CKa_b2:=Ka_b2.cell;have FKa_b2:=Ka_b2.frozen));(try(have Ka_c0:Blk wa (wc.heap.size) _ _:=Blk.ext (by exact Bv) hxa;(try simp only[Gp] at Ka_c0);have CKa_c0:=Ka_c0.cell;have FKa_c0:=Ka_c0.frozen));(try(have Ka_c1:Blk wa (wc.heap.size+1) _ _:=Blk.ext (by exact Bv) hxa;(try simp only[Gp] at Ka_c1);have CKa_c1:=Ka_c1.cell;have FKa_c1:=Ka_c1.frozen));(try(have Ka_c2:Blk wa (wc.heap.size+1+1) _ _:=Blk.ext (by exact Bv) hxa;(try simp only[Gp] at Ka_c2);have CKa_c2:=Ka_c2.cell;have FKa_c2:=Ka_c2.frozen)))|(go_at_call 316;refine(Vi _ _ _ _ _ _ _ _ _ _ (by first|(with_reducible exact Aj.ext (by assumption) xT)|(with_reducible exact Aj.ext (Af.ints (by assumption)) xT)|with_reducible exact Yc _ _) (by first|(with_reducible exact Aj.ext (by assumption) xT)|(with_reducible exact Aj.ext (Af.ints (by assumption)) xT)|with_reducible exact Zc _ _) ).mono ?_;rintro e wb ⟨rfl,hxb⟩;have hzb:=hxb.size;(repeat (first|simp only[World.size_alloc] at hzb|simp only[World.size_setCell] at hzb|simp only[Hh] at hzb));(try have hyb_a_0:wa.heap.size<wb.heap.size:=oM);(try have hyb_a_1:wa.heap.size+1<wb.heap.size:=oM);(try have hyb_a_2:wa.heap.size+1+1<wb.heap.size:=oM);(try have hyb_c_0:wc.heap.size<wb.heap.size:=oM);(try have hyb_c_1:wc.heap.size+1<wb.heap.size:=oM);(try have hyb_c_2:wc.heap.size+1+1<wb.heap.size:=oM);have Kb0:Blk wb (w.heap.size) 88 _:=Blk.ext (by exact Bv) hxb;(try simp only[Gp] at Kb0);have CKb0:=Kb0.cell;have FKb0:=Kb0.frozen;have hyb__0:w.heap.size<wb.heap.size:=oM;(try(have Kb_a0:Blk wb (wa.heap.size) _ _:=Blk.ext (by exact Bv) hxb;(try simp only[Gp] at Kb_a0);have CKb_a0:=Kb_a0.cell;have FKb_a0:=Kb_a0.frozen));(try(have Kb_a1:Blk wb (wa.heap.size+1) _ _:=Blk.ext (by exact Bv) hxb;(try simp only[Gp] at Kb_a1);have CKb_a1:=Kb_a1.cell;have FKb_a1:=Kb_a1.frozen));(try(have Kb_a2:Blk wb (wa.heap.size+1+1) _ _:=Blk.ext (by exact Bv) hxb;(try simp only[Gp] at Kb_a2);have CKb_a2:=Kb_a2.cell;have FKb_a2:=Kb_a2.frozen));(try(have Kb_c0:Blk wb (wc.heap.size) _ _:=Blk.ext (by exact Bv) hxb;(try simp only[Gp] at Kb_c0);have CKb_c0:=Kb_c0.cell;have FKb_c0:=Kb_c0.frozen));(try(have Kb_c1:Blk wb (wc.heap.size+1) _ _:=Blk.ext (by exact Bv) hxb;(try simp only[Gp] at Kb_c1);have CKb_c1:=Kb_c1.cell;have FKb_c1:=Kb_c1.frozen));(try(have Kb_c2:Blk wb (wc.heap.size+1+1) _ _:=Blk.ext (by exact Bv) hxb;(try simp only[Gp] at Kb_c2);have CKb_c2:=Kb_c2.cell;have FKb_c2:=Kb_c2.frozen)))|(go_at_call 303;refine(Dv _ _ _ _  ).mono ?_;rintro e wc ⟨rfl,rfl⟩))
   all_goals
    go_ret
    refine⟨by first|rfl|(simp[Kt,inb,Int.add_one_le_iff, *];done)|(simp[Kt,inb,Int.add_one_le_iff, *];omega)|(simp_all [Kt,inb,Int.add_one_le_iff,bq,bn];done)|(simp_all [Kt,inb,Int.add_one_le_iff,bq,bn];omega),?_⟩
    exact xT
theorem nQ(w:World)(Dl:Value)(Ad:List (List Int))(Fe:Value)(Am:List Eb)(Cw:Int)(Ei:Int)(sD:Value)(lZ:List Ft)(Xz:Value)(Wc:List Hl)(Bs:Int)(Ya:Int)(Co:Int)(Cj:Int)(Bg:Int)(Ud:Int)(Dk:Ck 0 w Dl (Ac Ad))(Ev:Ck 1 w Fe (Ah Am))(vR:Aj 2 w sD (Dp lZ))(lY:Aj 5 w Xz (Fj Wc)):Calls Tryz.prog 185 #[.agg #[Dl,Fe,.int .i64 Cw,.int .i64 Ei,sD,Xz,.int .i64 Bs,.int .i64 Ya,.int .i64 Co,.int .i64 Cj,.int .i64 Bg,.int .i64 Ud]] w (Cp w (.bool (Kt (⟨⟨Ad,Am⟩,⟨Cw,Ei,lZ,Wc,⟨Bs,Ya,Co⟩⟩,Cj,Bg,Ud⟩:It)))):=by
 obtain⟨xB,xC,uF,rfl⟩:=Dk.shape
 obtain⟨xE,xF,uG,rfl⟩:=Ev.shape
 obtain⟨xG,xH,xI,rfl⟩:=vR.shape
 obtain⟨xJ,xK,xM,rfl⟩:=lY.shape
 by_cases hl:0<=Bg/\Bg<=2000
 obtain⟨hl1,hl2⟩:=hl
 rotate_left
 have hno:Gg (⟨Cw,Ei,lZ,Wc,⟨Bs,Ya,Co⟩⟩:Fl)=true->inb Bg 0 Cw=false:=fun h=>by
  have:=Uv h
  simp only[] at this
  by_cases h1:inb Bg 0 Cw=true
  .
   have h2:=Dz.1 h1
   exact(hl ⟨by omega,by omega⟩).elim
  simpa using h1
 clear hl
 all_goals
   have rr:=Lc
   go_enter Tryz.func185,Tryz.ntmps185
   go_wp2_with (first|(go_at_call 291;refine(nG _ _ _ _ _ (by first|(with_reducible exact Ck.ext (by assumption) xT)|(with_reducible exact Ck.ext (Hw.nest (by assumption)) xT)) (by first|(with_reducible exact Ck.ext (by assumption) xT)|(with_reducible exact Ck.ext (Hw.nest (by assumption)) xT)) ).mono ?_;rintro e wa ⟨rfl,hxa⟩;have hza:=hxa.size;(repeat (first|simp only[World.size_alloc] at hza|simp only[World.size_setCell] at hza|simp only[Hh] at hza));(try have hya_b_0:wb.heap.size<wa.heap.size:=oM);(try have hya_b_1:wb.heap.size+1<wa.heap.size:=oM);(try have hya_b_2:wb.heap.size+1+1<wa.heap.size:=oM);(try have hya_c_0:wc.heap.size<wa.heap.size:=oM);(try have hya_c_1:wc.heap.size+1<wa.heap.size:=oM);(try have hya_c_2:wc.heap.size+1+1<wa.heap.size:=oM);have Ka0:Blk wa (w.heap.size) 88 _:=Blk.ext (by exact Bv) hxa;(try simp only[Gp] at Ka0);have CKa0:=Ka0.cell;have FKa0:=Ka0.frozen;have hya__0:w.heap.size<wa.heap.size:=oM;(try(have Ka_b0:Blk wa (wb.heap.size) _ _:=Blk.ext (by exact Bv) hxa;(try simp only[Gp] at Ka_b0);have CKa_b0:=Ka_b0.cell;have FKa_b0:=Ka_b0.frozen));(try(have Ka_b1:Blk wa (wb.heap.size+1) _ _:=Blk.ext (by exact Bv) hxa;(try simp only[Gp] at Ka_b1);have CKa_b1:=Ka_b1.cell;have FKa_b1:=Ka_b1.frozen));(try(have Ka_b2:Blk wa (wb.heap.size+1+1) _ _:=Blk.ext (by exact Bv) hxa;(try simp only[Gp] at Ka_b2);have CKa_b2:=Ka_b2.cell;have FKa_b2:=Ka_b2.frozen));(try(have Ka_c0:Blk wa (wc.heap.size) _ _:=Blk.ext (by exact Bv) hxa;(try simp only[Gp] at Ka_c0);have CKa_c0:=Ka_c0.cell;have FKa_c0:=Ka_c0.frozen));(try(have Ka_c1:Blk wa (wc.heap.size+1) _ _:=Blk.ext (by exact Bv) hxa;(try simp only[Gp] at Ka_c1);have CKa_c1:=Ka_c1.cell;have FKa_c1:=Ka_c1.frozen));(try(have Ka_c2:Blk wa (wc.heap.size+1+1) _ _:=Blk.ext (by exact Bv) hxa;(try simp only[Gp] at Ka_c2);have CKa_c2:=Ka_c2.cell;have FKa_c2:=Ka_c2.frozen)))|(go_at_call 242;refine(Xf _ _ _ _ _ _ _ _ _ _ (by first|(with_reducible exact Aj.ext (by assumption) xT)|(with_reducible exact Aj.ext (Af.ints (by assumption)) xT)|with_reducible exact Yc _ _) (by first|(with_reducible exact Aj.ext (by assumption) xT)|(with_reducible exact Aj.ext (Af.ints (by assumption)) xT)|with_reducible exact Zc _ _) ).mono ?_;rintro e wb ⟨rfl,hxb⟩;have hzb:=hxb.size;(repeat (first|simp only[World.size_alloc] at hzb|simp only[World.size_setCell] at hzb|simp only[Hh] at hzb));(try have hyb_a_0:wa.heap.size<wb.heap.size:=oM);(try have hyb_a_1:wa.heap.size+1<wb.heap.size:=oM);(try have hyb_a_2:wa.heap.size+1+1<wb.heap.size:=oM);(try have hyb_c_0:wc.heap.size<wb.heap.size:=oM);(try have hyb_c_1:wc.heap.size+1<wb.heap.size:=oM);(try have hyb_c_2:wc.heap.size+1+1<wb.heap.size:=oM);have Kb0:Blk wb (w.heap.size) 88 _:=Blk.ext (by exact Bv) hxb;(try simp only[Gp] at Kb0);have CKb0:=Kb0.cell;have FKb0:=Kb0.frozen;have hyb__0:w.heap.size<wb.heap.size:=oM;(try(have Kb_a0:Blk wb (wa.heap.size) _ _:=Blk.ext (by exact Bv) hxb;(try simp only[Gp] at Kb_a0);have CKb_a0:=Kb_a0.cell;have FKb_a0:=Kb_a0.frozen));(try(have Kb_a1:Blk wb (wa.heap.size+1) _ _:=Blk.ext (by exact Bv) hxb;(try simp only[Gp] at Kb_a1);have CKb_a1:=Kb_a1.cell;have FKb_a1:=Kb_a1.frozen));(try(have Kb_a2:Blk wb (wa.heap.size+1+1) _ _:=Blk.ext (by exact Bv) hxb;(try simp only[Gp] at Kb_a2);have CKb_a2:=Kb_a2.cell;have FKb_a2:=Kb_a2.frozen));(try(have Kb_c0:Blk wb (wc.heap.size) _ _:=Blk.ext (by exact Bv) hxb;(try simp only[Gp] at Kb_c0);have CKb_c0:=Kb_c0.cell;have FKb_c0:=Kb_c0.frozen));(try(have Kb_c1:Blk wb (wc.heap.size+1) _ _:=Blk.ext (by exact Bv) hxb;(try simp only[Gp] at Kb_c1);have CKb_c1:=Kb_c1.cell;have FKb_c1:=Kb_c1.frozen));(try(have Kb_c2:Blk wb (wc.heap.size+1+1) _ _:=Blk.ext (by exact Bv) hxb;(try simp only[Gp] at Kb_c2);have CKb_c2:=Kb_c2.cell;have FKb_c2:=Kb_c2.frozen)))|(go_at_call 176;refine(Cf _ _ _ _  ).mono ?_;rintro e wc ⟨rfl,rfl⟩))
   all_goals
    go_ret
    refine⟨by first|rfl|(simp[Kt,inb, *];done)|(simp[Kt,inb, *];omega)|(simp_all [Kt,inb,bq,bn];done)|(simp_all [Kt,inb,bq,bn];omega),?_⟩
    exact xT
section
variable {B:Nat} {w:World}
theorem Dy.nil(B:Nat)(w:World):Dy B w (.agg #[.slice none 0 0,.slice none 0 0,.int .i64 0,.int .i64 0,.slice none 0 0,.slice none 0 0,.int .i64 0,.int .i64 0,.int .i64 0,.int .i64 0,.int .i64 0,.int .i64 0]) ⟨⟨[],[]⟩,⟨0,0,[],[],⟨0,0,0⟩⟩,0,0,0⟩ [] :=
 ⟨_,_,_,_,[],[],rfl,Bi.nil _ _ _ _ _,Bi.nil _ _ _ _ _,Af.nil _ _ _ _,Af.nil _ _ _ _,by simp[Be,Value.ownBlock],by simp[Be,Value.ownBlock]⟩
theorem Ee.store{a b:Value}{d:Ez}(h:Ee B w (.agg #[a,b]) d):∃F,Dy B w (.agg #[a,b,.int .i64 0,.int .i64 0,.slice none 0 0,.slice none 0 0,.int .i64 0,.int .i64 0,.int .i64 0,.int .i64 0,.int .i64 0,.int .i64 0]) ⟨d,⟨0,0,[],[],⟨0,0,0⟩⟩,0,0,0⟩ F:=by
 obtain⟨t0,t1,ss0,ss1,e,h0,h1,hd⟩:=h
 injection e with e;injection e with e;injection e with e1 e;injection e with e2 _
 subst e1;subst e2
 exact⟨_,_,_,_,_,ss0,ss1,rfl,h0,h1,Af.nil _ _ _ _,Af.nil _ _ _ _,hd,rfl⟩
end
theorem kR{w:World}{v:Value}{s:It}(h:Ix w v s):Calls Tryz.prog 210 #[v] w (Cp w (.bool (Kt s))):=by
 obtain⟨t0,t1,t4,t5,rfl,h0,h1,h4,h5⟩:=h
 exact kQ w t0 s.Disk.Kept t1 s.Disk.Wait s.State.Index s.State.Time t4 s.State.Pairs t5 s.State.Jobs s.State.Lease.Holder s.State.Lease.Epoch s.State.Lease.Until s.Num s.Last s.Busy h0 h1 h4 h5
theorem nR{w:World}{v:Value}{s:It}(h:Ix w v s):Calls Tryz.prog 185 #[v] w (Cp w (.bool (Kt s))):=by
 obtain⟨t0,t1,t4,t5,rfl,h0,h1,h4,h5⟩:=h
 exact nQ w t0 s.Disk.Kept t1 s.Disk.Wait s.State.Index s.State.Time t4 s.State.Pairs t5 s.State.Jobs s.State.Lease.Holder s.State.Lease.Epoch s.State.Lease.Until s.Num s.Last s.Busy h0 h1 h4 h5
end Go.Proofs.YtkpmbocbbgocbaaGreat
