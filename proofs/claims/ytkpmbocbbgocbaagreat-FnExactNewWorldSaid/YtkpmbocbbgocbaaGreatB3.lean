/- KL KY. -/
import Derived.Test.YtkpmbocbbgocbaaGreatGa
import Derived.Test.YtkpmbocbbgocbaaGreatB2
set_option linter.unusedSimpArgs false
set_option linter.unusedVariables false
set_option maxHeartbeats 8000000
set_option maxRecDepth 100000
namespace Go.Proofs.YtkpmbocbbgocbaaGreat
open Go.RowKit Go.G8
def RdLog (w:World) (v:Value) (d:DLogNode):Prop:=∃ p0:List Value,∃ p1:List Value,∃ p2:List Value,∃ p4:List Value,∃ t5:Value,∃ t7:Value,v=.agg (p0 ++ (p1 ++ (p2 ++ ([Value.bool d.More] ++ (p4 ++ ([t5] ++ ([Value.int .i64 d.Durable] ++ ([t7] ++ [])))))))).toArray∧p0.length=4∧p1.length=4∧p2.length=4∧p4.length=3∧RdTwo w (.agg p0.toArray) d.Two∧RdHead w (.agg p1.toArray) d.Head∧RdHead w (.agg p2.toArray) d.Next∧RdBook w (.agg p4.toArray) d.Book∧RdMarkS w t5 d.Seen∧RdAckS w t7 d.Owe
def OwLog (B:Nat) (w:World) (v:Value) (d:DLogNode) (F:List Nat):Prop:=∃ p0:List Value,∃ p1:List Value,∃ p2:List Value,∃ p4:List Value,∃ t5:Value,∃ t7:Value,∃ F0:List Nat,∃ F1:List Nat,∃ F2:List Nat,∃ F4:List Nat,∃ F5:List Nat,∃ F7:List Nat,v=.agg (p0 ++ (p1 ++ (p2 ++ ([Value.bool d.More] ++ (p4 ++ ([t5] ++ ([Value.int .i64 d.Durable] ++ ([t7] ++ [])))))))).toArray∧p0.length=4∧p1.length=4∧p2.length=4∧p4.length=3∧OwTwo B w (.agg p0.toArray) d.Two F0∧OwHead B w (.agg p1.toArray) d.Head F1∧OwHead B w (.agg p2.toArray) d.Next F2∧OwBook B w (.agg p4.toArray) d.Book F4∧OwMarkS B w t5 d.Seen F5∧OwAckS B w t7 d.Owe F7∧[F0,F1,F2,F4,F5,F7].Pairwise (fun a b=>∀ k,k ∈ a→k ∈ b→False)∧F=F0 ++ F1 ++ F2 ++ F4 ++ F5 ++ F7
section
variable {B B':Nat} {w w':World} {v:Value} {d:DLogNode} {F:List Nat}
theorem RdLog.ext (h:RdLog w v d) (x:Ext w w'):RdLog w' v d:=by
 obtain⟨p0,p1,p2,p4,t5,t7,e,l0,l1,l2,l4,g0,g1,g2,g4,g5,g7⟩:=h
 exact⟨p0,p1,p2,p4,t5,t7,e,l0,l1,l2,l4,g0.ext x,g1.ext x,g2.ext x,g4.ext x,g5.ext x,g7.ext x⟩
theorem OwLog.rd (h:OwLog B w v d F):RdLog w v d:=by
 obtain⟨p0,p1,p2,p4,t5,t7,F0,F1,F2,F4,F5,F7,e,l0,l1,l2,l4,g0,g1,g2,g4,g5,g7,hdj,hF⟩:=h
 exact⟨p0,p1,p2,p4,t5,t7,e,l0,l1,l2,l4,g0.rd,g1.rd,g2.rd,g4.rd,g5.rd,g7.rd⟩
theorem OwLog.keep (h:OwLog B w v d F) (x:Chg B w w'):OwLog B w' v d F:=by
 obtain⟨p0,p1,p2,p4,t5,t7,F0,F1,F2,F4,F5,F7,e,l0,l1,l2,l4,g0,g1,g2,g4,g5,g7,hdj,hF⟩:=h
 exact⟨p0,p1,p2,p4,t5,t7,F0,F1,F2,F4,F5,F7,e,l0,l1,l2,l4,g0.keep x,g1.keep x,g2.keep x,g4.keep x,g5.keep x,g7.keep x,hdj,hF⟩
theorem OwLog.mono (h:OwLog B w v d F) (x:B'≤B):OwLog B' w v d F:=by
 obtain⟨p0,p1,p2,p4,t5,t7,F0,F1,F2,F4,F5,F7,e,l0,l1,l2,l4,g0,g1,g2,g4,g5,g7,hdj,hF⟩:=h
 exact⟨p0,p1,p2,p4,t5,t7,F0,F1,F2,F4,F5,F7,e,l0,l1,l2,l4,g0.mono x,g1.mono x,g2.mono x,g4.mono x,g5.mono x,g7.mono x,hdj,hF⟩
theorem OwLog.low (h:OwLog B w v d F):∀ k,k ∈ F→B≤k∧k<w.heap.size:=by
 obtain⟨p0,p1,p2,p4,t5,t7,F0,F1,F2,F4,F5,F7,e,l0,l1,l2,l4,g0,g1,g2,g4,g5,g7,hdj,rfl⟩:=h
 intro k hk
 simp only [List.mem_append] at hk
 rcases hk with ((((hk|hk)|hk)|hk)|hk)|hk
 ·
  exact g0.low k hk
 ·
  exact g1.low k hk
 ·
  exact g2.low k hk
 ·
  exact g4.low k hk
 ·
  exact g5.low k hk
 exact g7.low k hk
theorem RdLog.cells (h:RdLog w v d):∃ L:List Value,v=.agg L.toArray∧L.length=19∧∀ x,x ∈ L→x.oneCell'=true:=by
 obtain⟨p0,p1,p2,p4,t5,t7,rfl,l0,l1,l2,l4,g0,g1,g2,g4,g5,g7⟩:=h
 refine⟨_,rfl,by simp [l0,l1,l2,l4],?_⟩
 intro x hx
 simp only [List.mem_append,List.mem_cons,List.not_mem_nil,or_false] at hx
 rcases hx with hx|hx|hx|rfl|hx|rfl|rfl|rfl
 ·
  obtain⟨L,e,-,h1⟩:=g0.cells;rw [agg_inj e] at hx;exact h1 x hx
 ·
  obtain⟨L,e,-,h1⟩:=g1.cells;rw [agg_inj e] at hx;exact h1 x hx
 ·
  obtain⟨L,e,-,h1⟩:=g2.cells;rw [agg_inj e] at hx;exact h1 x hx
 ·
  rfl
 ·
  obtain⟨L,e,-,h1⟩:=g4.cells;rw [agg_inj e] at hx;exact h1 x hx
 ·
  obtain⟨a,n,k,rfl⟩:=g5.shape;rfl
 ·
  rfl
 obtain⟨a,n,k,rfl⟩:=g7.shape;rfl
theorem eq_Log {u:Value} (h:RdLog w v d) (k:RdLog w u d):Calls Tryz.prog 52 #[v,u] w (RetV w (.bool true)):=by
 obtain⟨p0,p1,p2,p4,t5,t7,rfl,l0,l1,l2,l4,g0,g1,g2,g4,g5,g7⟩:=h
 obtain⟨r0,r1,r2,r4,s5,s7,rfl,m0,m1,m2,m4,f0,f1,f2,f4,f5,f7⟩:=k
 obtain⟨L,hL⟩:∃ L:List Value,L=(p0 ++ (p1 ++ (p2 ++ ([Value.bool d.More] ++ (p4 ++ ([t5] ++ ([Value.int .i64 d.Durable] ++ ([t7] ++ [])))))))):=⟨_,rfl⟩
 obtain⟨M,hM⟩:∃ L:List Value,L=(r0 ++ (r1 ++ (r2 ++ ([Value.bool d.More] ++ (r4 ++ ([s5] ++ ([Value.int .i64 d.Durable] ++ ([s7] ++ [])))))))):=⟨_,rfl⟩
 rw [← hL,← hM]
 obtain⟨W0,hW0⟩:∃ W0,W0=(w.alloc (.cells L.toArray 81)).alloc (.cells M.toArray 81):=⟨_,rfl⟩
 have E0:Ext w W0:=by rw [hW0];exact ((Ext.refl _).alloc _).alloc _
 have r:W0.rangeAt w.heap.size 0 L:=by rw [hW0];exact Bk.ra (Bk.alloc (Bk.new _ _ _) _)
 rw [hL] at r;clear hL
 obtain⟨R0,r⟩:=range_app (m:=4) r l0 rfl
 obtain⟨R1,r⟩:=range_app (m:=8) r l1 rfl
 obtain⟨R2,r⟩:=range_app (m:=12) r l2 rfl
 obtain⟨R3,r⟩:=range_app (m:=13) r rfl rfl
 have R3:=range_one R3
 obtain⟨R4,r⟩:=range_app (m:=16) r l4 rfl
 obtain⟨R5,r⟩:=range_app (m:=17) r rfl rfl
 have R5:=range_one R5
 obtain⟨R6,r⟩:=range_app (m:=18) r rfl rfl
 have R6:=range_one R6
 obtain⟨R7,r⟩:=range_app (m:=19) r rfl rfl
 have R7:=range_one R7
 clear r
 have r:W0.rangeAt (w.heap.size+1) 0 M:=by rw [hW0];exact Bk.ra (Blk.new2 _ _ _ _)
 rw [hM] at r;clear hM
 obtain⟨S0,r⟩:=range_app (m:=4) r m0 rfl
 obtain⟨S1,r⟩:=range_app (m:=8) r m1 rfl
 obtain⟨S2,r⟩:=range_app (m:=12) r m2 rfl
 obtain⟨S3,r⟩:=range_app (m:=13) r rfl rfl
 have S3:=range_one S3
 obtain⟨S4,r⟩:=range_app (m:=16) r m4 rfl
 obtain⟨S5,r⟩:=range_app (m:=17) r rfl rfl
 have S5:=range_one S5
 obtain⟨S6,r⟩:=range_app (m:=18) r rfl rfl
 have S6:=range_one S6
 obtain⟨S7,r⟩:=range_app (m:=19) r rfl rfl
 have S7:=range_one S7
 clear r
 go_enter Tryz.func52,Tryz.ntmps52
 go_upto_region 1 with (fail)
 rw [← hW0]
 clear hW0
 have X0:Ext W0 W0:=Ext.refl _
 go_wp2_with (first|(refine wpList_load_mid rfl 72 _ rfl (w.heap.size) 0 (by rfl) p0 _ (rangeAt_ext R0 extT) Tryz.underlying72 rfl (by rw [l0];kernel_rfl) ?_)|(refine wpList_load_mid rfl 72 _ rfl (w.heap.size+1) 0 (by rfl) r0 _ (rangeAt_ext S0 extT) Tryz.underlying72 rfl (by rw [m0];kernel_rfl) ?_))
 refine (eq_Two (g0.ext (E0.trans X0)) (f0.ext (E0.trans X0))).mono ?_
 rintro e w1 ⟨rfl,x1⟩
 have X1:=X0.trans x1
 go_wp2_with (first|(refine wpList_load_mid rfl 75 _ rfl (w.heap.size) 4 (by rfl) p1 _ (rangeAt_ext R1 extT) Tryz.underlying75 rfl (by rw [l1];kernel_rfl) ?_)|(refine wpList_load_mid rfl 75 _ rfl (w.heap.size+1) 4 (by rfl) r1 _ (rangeAt_ext S1 extT) Tryz.underlying75 rfl (by rw [m1];kernel_rfl) ?_))
 refine (eq_Head (g1.ext (E0.trans X1)) (f1.ext (E0.trans X1))).mono ?_
 rintro e w2 ⟨rfl,x2⟩
 have X2:=X1.trans x2
 go_wp2_with (first|(refine wpList_load_mid rfl 75 _ rfl (w.heap.size) 8 (by rfl) p2 _ (rangeAt_ext R2 extT) Tryz.underlying75 rfl (by rw [l2];kernel_rfl) ?_)|(refine wpList_load_mid rfl 75 _ rfl (w.heap.size+1) 8 (by rfl) r2 _ (rangeAt_ext S2 extT) Tryz.underlying75 rfl (by rw [m2];kernel_rfl) ?_))
 refine (eq_Head (g2.ext (E0.trans X2)) (f2.ext (E0.trans X2))).mono ?_
 rintro e w3 ⟨rfl,x3⟩
 have X3:=X2.trans x3
 have ca3:=X3.cell R3;have cb3:=X3.cell S3
 go_wp2_with (first|(refine wpList_load_mid rfl 78 _ rfl (w.heap.size) 13 (by rfl) p4 _ (rangeAt_ext R4 extT) Tryz.underlying78 rfl (by rw [l4];kernel_rfl) ?_)|(refine wpList_load_mid rfl 78 _ rfl (w.heap.size+1) 13 (by rfl) r4 _ (rangeAt_ext S4 extT) Tryz.underlying78 rfl (by rw [m4];kernel_rfl) ?_))
 refine (eq_Book (g4.ext (E0.trans X3)) (f4.ext (E0.trans X3))).mono ?_
 rintro e w4 ⟨rfl,x4⟩
 have X4:=X3.trans x4
 clear ca3 cb3
 have ca5:=X4.cell R5;have cb5:=X4.cell S5
 go_wp2_with fail
 refine (eq_MarkS (g5.ext (E0.trans X4)) (f5.ext (E0.trans X4))).mono ?_
 rintro e w5 ⟨rfl,x5⟩
 have X5:=X4.trans x5
 clear ca5 cb5
 have ca6:=X5.cell R6;have cb6:=X5.cell S6
 have ca7:=X5.cell R7;have cb7:=X5.cell S7
 go_wp2_with fail
 refine (eq_AckS (g7.ext (E0.trans X5)) (f7.ext (E0.trans X5))).mono ?_
 rintro e w6 ⟨rfl,x6⟩
 have X6:=X5.trans x6
 clear ca6 cb6 ca7 cb7
 go_wp2_with fail
 go_ret
 exact⟨rfl,E0.trans X6⟩
end
def RdWorld (w:World) (v:Value) (d:DWorld):Prop:=∃ p0:List Value,∃ p1:List Value,∃ p2:List Value,∃ p3:List Value,∃ p4:List Value,∃ p5:List Value,∃ p6:List Value,∃ t7:Value,∃ t8:Value,v=.agg (p0 ++ (p1 ++ (p2 ++ (p3 ++ (p4 ++ (p5 ++ (p6 ++ ([t7] ++ ([t8] ++ []))))))))).toArray∧p0.length=19∧p1.length=12∧p2.length=15∧p3.length=15∧p4.length=4∧p5.length=4∧p6.length=2∧RdLog w (.agg p0.toArray) d.Log∧RdStore w (.agg p1.toArray) d.Store∧RdSched w (.agg p2.toArray) d.Left∧RdSched w (.agg p3.toArray) d.Right∧RdClient w (.agg p4.toArray) d.Ann∧RdClient w (.agg p5.toArray) d.Bob∧RdNet w (.agg p6.toArray) d.Net∧RdInt64S w t7 d.Clocks∧RdBoolS w t8 d.Up
def OwWorld (B:Nat) (w:World) (v:Value) (d:DWorld) (F:List Nat):Prop:=∃ p0:List Value,∃ p1:List Value,∃ p2:List Value,∃ p3:List Value,∃ p4:List Value,∃ p5:List Value,∃ p6:List Value,∃ t7:Value,∃ t8:Value,∃ F0:List Nat,∃ F1:List Nat,∃ F2:List Nat,∃ F3:List Nat,∃ F4:List Nat,∃ F5:List Nat,∃ F6:List Nat,∃ F7:List Nat,∃ F8:List Nat,v=.agg (p0 ++ (p1 ++ (p2 ++ (p3 ++ (p4 ++ (p5 ++ (p6 ++ ([t7] ++ ([t8] ++ []))))))))).toArray∧p0.length=19∧p1.length=12∧p2.length=15∧p3.length=15∧p4.length=4∧p5.length=4∧p6.length=2∧OwLog B w (.agg p0.toArray) d.Log F0∧OwStore B w (.agg p1.toArray) d.Store F1∧OwSched B w (.agg p2.toArray) d.Left F2∧OwSched B w (.agg p3.toArray) d.Right F3∧OwClient B w (.agg p4.toArray) d.Ann F4∧OwClient B w (.agg p5.toArray) d.Bob F5∧OwNet B w (.agg p6.toArray) d.Net F6∧OwInt64S B w t7 d.Clocks F7∧OwBoolS B w t8 d.Up F8∧[F0,F1,F2,F3,F4,F5,F6,F7,F8].Pairwise (fun a b=>∀ k,k ∈ a→k ∈ b→False)∧F=F0 ++ F1 ++ F2 ++ F3 ++ F4 ++ F5 ++ F6 ++ F7 ++ F8
section
variable {B B':Nat} {w w':World} {v:Value} {d:DWorld} {F:List Nat}
theorem RdWorld.ext (h:RdWorld w v d) (x:Ext w w'):RdWorld w' v d:=by
 obtain⟨p0,p1,p2,p3,p4,p5,p6,t7,t8,e,l0,l1,l2,l3,l4,l5,l6,g0,g1,g2,g3,g4,g5,g6,g7,g8⟩:=h
 exact⟨p0,p1,p2,p3,p4,p5,p6,t7,t8,e,l0,l1,l2,l3,l4,l5,l6,g0.ext x,g1.ext x,g2.ext x,g3.ext x,g4.ext x,g5.ext x,g6.ext x,g7.ext x,g8.ext x⟩
theorem OwWorld.rd (h:OwWorld B w v d F):RdWorld w v d:=by
 obtain⟨p0,p1,p2,p3,p4,p5,p6,t7,t8,F0,F1,F2,F3,F4,F5,F6,F7,F8,e,l0,l1,l2,l3,l4,l5,l6,g0,g1,g2,g3,g4,g5,g6,g7,g8,hdj,hF⟩:=h
 exact⟨p0,p1,p2,p3,p4,p5,p6,t7,t8,e,l0,l1,l2,l3,l4,l5,l6,g0.rd,g1.rd,g2.rd,g3.rd,g4.rd,g5.rd,g6.rd,g7.rd,g8.rd⟩
theorem OwWorld.keep (h:OwWorld B w v d F) (x:Chg B w w'):OwWorld B w' v d F:=by
 obtain⟨p0,p1,p2,p3,p4,p5,p6,t7,t8,F0,F1,F2,F3,F4,F5,F6,F7,F8,e,l0,l1,l2,l3,l4,l5,l6,g0,g1,g2,g3,g4,g5,g6,g7,g8,hdj,hF⟩:=h
 exact⟨p0,p1,p2,p3,p4,p5,p6,t7,t8,F0,F1,F2,F3,F4,F5,F6,F7,F8,e,l0,l1,l2,l3,l4,l5,l6,g0.keep x,g1.keep x,g2.keep x,g3.keep x,g4.keep x,g5.keep x,g6.keep x,g7.keep x,g8.keep x,hdj,hF⟩
theorem OwWorld.mono (h:OwWorld B w v d F) (x:B'≤B):OwWorld B' w v d F:=by
 obtain⟨p0,p1,p2,p3,p4,p5,p6,t7,t8,F0,F1,F2,F3,F4,F5,F6,F7,F8,e,l0,l1,l2,l3,l4,l5,l6,g0,g1,g2,g3,g4,g5,g6,g7,g8,hdj,hF⟩:=h
 exact⟨p0,p1,p2,p3,p4,p5,p6,t7,t8,F0,F1,F2,F3,F4,F5,F6,F7,F8,e,l0,l1,l2,l3,l4,l5,l6,g0.mono x,g1.mono x,g2.mono x,g3.mono x,g4.mono x,g5.mono x,g6.mono x,g7.mono x,g8.mono x,hdj,hF⟩
theorem OwWorld.low (h:OwWorld B w v d F):∀ k,k ∈ F→B≤k∧k<w.heap.size:=by
 obtain⟨p0,p1,p2,p3,p4,p5,p6,t7,t8,F0,F1,F2,F3,F4,F5,F6,F7,F8,e,l0,l1,l2,l3,l4,l5,l6,g0,g1,g2,g3,g4,g5,g6,g7,g8,hdj,rfl⟩:=h
 intro k hk
 simp only [List.mem_append] at hk
 rcases hk with (((((((hk|hk)|hk)|hk)|hk)|hk)|hk)|hk)|hk
 ·
  exact g0.low k hk
 ·
  exact g1.low k hk
 ·
  exact g2.low k hk
 ·
  exact g3.low k hk
 ·
  exact g4.low k hk
 ·
  exact g5.low k hk
 ·
  exact g6.low k hk
 ·
  exact g7.low k hk
 exact g8.low k hk
theorem RdWorld.cells (h:RdWorld w v d):∃ L:List Value,v=.agg L.toArray∧L.length=73∧∀ x,x ∈ L→x.oneCell'=true:=by
 obtain⟨p0,p1,p2,p3,p4,p5,p6,t7,t8,rfl,l0,l1,l2,l3,l4,l5,l6,g0,g1,g2,g3,g4,g5,g6,g7,g8⟩:=h
 refine⟨_,rfl,by simp [l0,l1,l2,l3,l4,l5,l6],?_⟩
 intro x hx
 simp only [List.mem_append,List.mem_cons,List.not_mem_nil,or_false] at hx
 rcases hx with hx|hx|hx|hx|hx|hx|hx|rfl|rfl
 ·
  obtain⟨L,e,-,h1⟩:=g0.cells;rw [agg_inj e] at hx;exact h1 x hx
 ·
  obtain⟨L,e,-,h1⟩:=g1.cells;rw [agg_inj e] at hx;exact h1 x hx
 ·
  obtain⟨L,e,-,h1⟩:=g2.cells;rw [agg_inj e] at hx;exact h1 x hx
 ·
  obtain⟨L,e,-,h1⟩:=g3.cells;rw [agg_inj e] at hx;exact h1 x hx
 ·
  obtain⟨L,e,-,h1⟩:=g4.cells;rw [agg_inj e] at hx;exact h1 x hx
 ·
  obtain⟨L,e,-,h1⟩:=g5.cells;rw [agg_inj e] at hx;exact h1 x hx
 ·
  obtain⟨L,e,-,h1⟩:=g6.cells;rw [agg_inj e] at hx;exact h1 x hx
 ·
  obtain⟨a,n,k,rfl⟩:=g7.shape;rfl
 obtain⟨a,n,k,rfl⟩:=g8.shape;rfl
theorem eq_World {u:Value} (h:RdWorld w v d) (k:RdWorld w u d):Calls Tryz.prog 12 #[v,u] w (RetV w (.bool true)):=by
 obtain⟨p0,p1,p2,p3,p4,p5,p6,t7,t8,rfl,l0,l1,l2,l3,l4,l5,l6,g0,g1,g2,g3,g4,g5,g6,g7,g8⟩:=h
 obtain⟨r0,r1,r2,r3,r4,r5,r6,s7,s8,rfl,m0,m1,m2,m3,m4,m5,m6,f0,f1,f2,f3,f4,f5,f6,f7,f8⟩:=k
 obtain⟨L,hL⟩:∃ L:List Value,L=(p0 ++ (p1 ++ (p2 ++ (p3 ++ (p4 ++ (p5 ++ (p6 ++ ([t7] ++ ([t8] ++ []))))))))):=⟨_,rfl⟩
 obtain⟨M,hM⟩:∃ L:List Value,L=(r0 ++ (r1 ++ (r2 ++ (r3 ++ (r4 ++ (r5 ++ (r6 ++ ([s7] ++ ([s8] ++ []))))))))):=⟨_,rfl⟩
 rw [← hL,← hM]
 obtain⟨W0,hW0⟩:∃ W0,W0=(w.alloc (.cells L.toArray 106)).alloc (.cells M.toArray 106):=⟨_,rfl⟩
 have E0:Ext w W0:=by rw [hW0];exact ((Ext.refl _).alloc _).alloc _
 have r:W0.rangeAt w.heap.size 0 L:=by rw [hW0];exact Bk.ra (Bk.alloc (Bk.new _ _ _) _)
 rw [hL] at r;clear hL
 obtain⟨R0,r⟩:=range_app (m:=19) r l0 rfl
 obtain⟨R1,r⟩:=range_app (m:=31) r l1 rfl
 obtain⟨R2,r⟩:=range_app (m:=46) r l2 rfl
 obtain⟨R3,r⟩:=range_app (m:=61) r l3 rfl
 obtain⟨R4,r⟩:=range_app (m:=65) r l4 rfl
 obtain⟨R5,r⟩:=range_app (m:=69) r l5 rfl
 obtain⟨R6,r⟩:=range_app (m:=71) r l6 rfl
 obtain⟨R7,r⟩:=range_app (m:=72) r rfl rfl
 have R7:=range_one R7
 obtain⟨R8,r⟩:=range_app (m:=73) r rfl rfl
 have R8:=range_one R8
 clear r
 have r:W0.rangeAt (w.heap.size+1) 0 M:=by rw [hW0];exact Bk.ra (Blk.new2 _ _ _ _)
 rw [hM] at r;clear hM
 obtain⟨S0,r⟩:=range_app (m:=19) r m0 rfl
 obtain⟨S1,r⟩:=range_app (m:=31) r m1 rfl
 obtain⟨S2,r⟩:=range_app (m:=46) r m2 rfl
 obtain⟨S3,r⟩:=range_app (m:=61) r m3 rfl
 obtain⟨S4,r⟩:=range_app (m:=65) r m4 rfl
 obtain⟨S5,r⟩:=range_app (m:=69) r m5 rfl
 obtain⟨S6,r⟩:=range_app (m:=71) r m6 rfl
 obtain⟨S7,r⟩:=range_app (m:=72) r rfl rfl
 have S7:=range_one S7
 obtain⟨S8,r⟩:=range_app (m:=73) r rfl rfl
 have S8:=range_one S8
 clear r
 go_enter Tryz.func12,Tryz.ntmps12
 go_upto_region 1 with (fail)
 rw [← hW0]
 clear hW0
 have X0:Ext W0 W0:=Ext.refl _
 go_wp2_with (first|(refine wpList_load_mid rfl 81 _ rfl (w.heap.size) 0 (by rfl) p0 _ (rangeAt_ext R0 extT) Tryz.underlying81 rfl (by rw [l0];kernel_rfl) ?_)|(refine wpList_load_mid rfl 81 _ rfl (w.heap.size+1) 0 (by rfl) r0 _ (rangeAt_ext S0 extT) Tryz.underlying81 rfl (by rw [m0];kernel_rfl) ?_))
 refine (eq_Log (g0.ext (E0.trans X0)) (f0.ext (E0.trans X0))).mono ?_
 rintro e w1 ⟨rfl,x1⟩
 have X1:=X0.trans x1
 go_wp2_with (first|(refine wpList_load_mid rfl 88 _ rfl (w.heap.size) 19 (by rfl) p1 _ (rangeAt_ext R1 extT) Tryz.underlying88 rfl (by rw [l1];kernel_rfl) ?_)|(refine wpList_load_mid rfl 88 _ rfl (w.heap.size+1) 19 (by rfl) r1 _ (rangeAt_ext S1 extT) Tryz.underlying88 rfl (by rw [m1];kernel_rfl) ?_))
 refine (eq_Store (g1.ext (E0.trans X1)) (f1.ext (E0.trans X1))).mono ?_
 rintro e w2 ⟨rfl,x2⟩
 have X2:=X1.trans x2
 go_wp2_with (first|(refine wpList_load_mid rfl 96 _ rfl (w.heap.size) 31 (by rfl) p2 _ (rangeAt_ext R2 extT) Tryz.underlying96 rfl (by rw [l2];kernel_rfl) ?_)|(refine wpList_load_mid rfl 96 _ rfl (w.heap.size+1) 31 (by rfl) r2 _ (rangeAt_ext S2 extT) Tryz.underlying96 rfl (by rw [m2];kernel_rfl) ?_))
 refine (eq_Sched (g2.ext (E0.trans X2)) (f2.ext (E0.trans X2))).mono ?_
 rintro e w3 ⟨rfl,x3⟩
 have X3:=X2.trans x3
 go_wp2_with (first|(refine wpList_load_mid rfl 96 _ rfl (w.heap.size) 46 (by rfl) p3 _ (rangeAt_ext R3 extT) Tryz.underlying96 rfl (by rw [l3];kernel_rfl) ?_)|(refine wpList_load_mid rfl 96 _ rfl (w.heap.size+1) 46 (by rfl) r3 _ (rangeAt_ext S3 extT) Tryz.underlying96 rfl (by rw [m3];kernel_rfl) ?_))
 refine (eq_Sched (g3.ext (E0.trans X3)) (f3.ext (E0.trans X3))).mono ?_
 rintro e w4 ⟨rfl,x4⟩
 have X4:=X3.trans x4
 go_wp2_with (first|(refine wpList_load_mid rfl 100 _ rfl (w.heap.size) 61 (by rfl) p4 _ (rangeAt_ext R4 extT) Tryz.underlying100 rfl (by rw [l4];kernel_rfl) ?_)|(refine wpList_load_mid rfl 100 _ rfl (w.heap.size+1) 61 (by rfl) r4 _ (rangeAt_ext S4 extT) Tryz.underlying100 rfl (by rw [m4];kernel_rfl) ?_))
 refine (eq_Client (g4.ext (E0.trans X4)) (f4.ext (E0.trans X4))).mono ?_
 rintro e w5 ⟨rfl,x5⟩
 have X5:=X4.trans x5
 go_wp2_with (first|(refine wpList_load_mid rfl 100 _ rfl (w.heap.size) 65 (by rfl) p5 _ (rangeAt_ext R5 extT) Tryz.underlying100 rfl (by rw [l5];kernel_rfl) ?_)|(refine wpList_load_mid rfl 100 _ rfl (w.heap.size+1) 65 (by rfl) r5 _ (rangeAt_ext S5 extT) Tryz.underlying100 rfl (by rw [m5];kernel_rfl) ?_))
 refine (eq_Client (g5.ext (E0.trans X5)) (f5.ext (E0.trans X5))).mono ?_
 rintro e w6 ⟨rfl,x6⟩
 have X6:=X5.trans x6
 go_wp2_with (first|(refine wpList_load_mid rfl 104 _ rfl (w.heap.size) 69 (by rfl) p6 _ (rangeAt_ext R6 extT) Tryz.underlying104 rfl (by rw [l6];kernel_rfl) ?_)|(refine wpList_load_mid rfl 104 _ rfl (w.heap.size+1) 69 (by rfl) r6 _ (rangeAt_ext S6 extT) Tryz.underlying104 rfl (by rw [m6];kernel_rfl) ?_))
 refine (eq_Net (g6.ext (E0.trans X6)) (f6.ext (E0.trans X6))).mono ?_
 rintro e w7 ⟨rfl,x7⟩
 have X7:=X6.trans x7
 have ca7:=X7.cell R7;have cb7:=X7.cell S7
 go_wp2_with fail
 refine (eq_Int64S (g7.ext (E0.trans X7)) (f7.ext (E0.trans X7))).mono ?_
 rintro e w8 ⟨rfl,x8⟩
 have X8:=X7.trans x8
 clear ca7 cb7
 have ca8:=X8.cell R8;have cb8:=X8.cell S8
 go_wp2_with fail
 refine (eq_BoolS (g8.ext (E0.trans X8)) (f8.ext (E0.trans X8))).mono ?_
 rintro e w9 ⟨rfl,x9⟩
 have X9:=X8.trans x9
 clear ca8 cb8
 go_wp2_with fail
 go_ret
 exact⟨rfl,E0.trans X9⟩
end
end Go.Proofs.YtkpmbocbbgocbaaGreat
