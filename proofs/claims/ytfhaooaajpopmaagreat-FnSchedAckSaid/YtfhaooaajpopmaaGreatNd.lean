/- Contracts and plain laws: OwR DG. -/
import Derived.Test.YtfhaooaajpopmaaGreatMa
import Derived.Test.YtfhaooaajpopmaaGreatMe
import Derived.Deep.DeepCutAuto
import Derived.Test.YtfhaooaajpopmaaGreatMp
import Derived.Test.YtfhaooaajpopmaaGreatMf
import Derived.Test.YtfhaooaajpopmaaGreatMo
set_option linter.unusedSimpArgs false
set_option linter.unusedVariables false
set_option maxHeartbeats 8000000
set_option maxRecDepth 100000
namespace Go.G8
open Go.RowKit
theorem OwnI.boxQ {B : Nat} {e : TypeId} {n : Nat} {w : World} {v : Value} {xs : List Int} (h : OwnI B e n w v xs) {X : Nat} {t : TypeId} {a : Array Value} (hX : Blk w X t a) (h1 : t ≠ e) (i : Nat) (u : Value) : OwnI B e n (w.setCell ⟨X, i, none⟩ u) v xs :=
 OwnI.upd' h ((Upd.refl w [X]).setCell (by simp) _) (fun k hk hf => by
  obtain ⟨cur, hb⟩ := h.typed hk
  simp at hf; subst hf
  exact h1 (hX.same hb))
theorem OwnI.drewQ {B : Nat} {e : TypeId} {n : Nat} {w : World} {v : Value} {xs : List Int} (h : OwnI B e n w v xs) : OwnI B e n w.drew v xs := Own.ext h (Ext.drew (Ext.refl _))
theorem OwnI.drewNQ {B : Nat} {e : TypeId} {n : Nat} {w : World} {v : Value} {xs : List Int} (h : OwnI B e n w v xs) (k : Nat) : OwnI B e n (w.drewN k) v xs := Own.ext h (Ext.drewN (Ext.refl _) _)
theorem OwnI.allocQ {B : Nat} {e : TypeId} {n : Nat} {w : World} {v : Value} {xs : List Int} (h : OwnI B e n w v xs) (o : Obj) : OwnI B e n (w.alloc o) v xs := Own.ext h ((Ext.refl _).alloc _)
theorem OwnI.rowQ {B : Nat} {e : TypeId} {n : Nat} {w : World} {v : Value} {xs : List Int} (h : OwnI B e n w v xs) {X : Nat} {t : TypeId} {a : Array Value} (hX : Blk w X t a) (h1 : t ≠ e) (cs : Array Value) : OwnI B e n (w.setRow X cs) v xs :=
 OwnI.upd' h (fs := [X]) ⟨rfl, rfl, rfl, by rw [size_setRow]; exact Nat.le_refl _, fun k _ hn => heap_setRow_ne w cs (fun e => hn (by simp [e]))⟩ (fun k hk hf => by
  obtain ⟨cur, hb⟩ := h.typed hk
  simp at hf; subst hf
  exact h1 (hX.same hb))
theorem wp_append_own0 {P : Program} {w : World} {o : Oper} {a : Act} {K : Act → World → Prop} {Q : Exit → Act → World → Prop} (s x : Operand) (t : TypeId)
  (ho : o.op = .call { callee := .builtin .append, args := #[s, x], argTypes := #[t, t] })
  (e : TypeId) (i : TypeInfo) (z : Value) (size bytes : Nat) (ht : P.underlying t = some (.slice e)) (hi : P.info? e = some i) (hz : i.zero = some z)
  (hsize : i.size = size) (hby : i.bytes = bytes) (hzs : z.cells.size = size) (hsz : 0 < size)
  (B : Nat) (v : Value) (cs : List Value) (hs : a.eval s = v) (hown : Own B e size w v cs) (ad : Addr) (m c : Nat) (news : List Value) (hx : a.eval x = .slice (some ad) m c) (hl : news.length = m * size) (hnews : ∀ j u, news[j]? = some u → w.cell? (ad.add j) = some u) (h1 : ∀ u ∈ news, u.oneCell' = true) (hm : 0 < m)
  (n : Nat) (hlen : cs.length + news.length ≤ n * size) (hn : n ≤ maxLen) (hbytes : n * bytes ≤ 140737488355328) (hbase : B ≤ w.heap.size)
  (h : ∀ v' w', Own B e size w' v' (cs ++ news) → w.grownBy w' v.ownBlock → K (a.put o.dst v') w') : o.wp P a w K Q := by
 obtain ⟨len, ho'⟩ := hown
 have hl0 : cs.length = len * size := ho'.1
 have hle : len + m ≤ n := by
  have : (len + m) * size ≤ n * size := by rw [Nat.add_mul]; omega
  exact Nat.le_of_mul_le_mul_right this hsz
 exact wp_append_lies w s x t ho B e i z size bytes ht hi hz hsize hby hzs hsz v len cs hs ho' ad m c news hx hl hnews h1 hm (Nat.le_trans hle hn) (Nat.le_trans (Nat.mul_le_mul_right _ hle) hbytes) hbase _ rfl (fun g cap w' h2 h3 _ _ => h _ w' ⟨_, h2⟩ h3)
theorem ownR {B : Nat} {e : TypeId} {n : Nat} {w : World} {v : Value} {xs : List Int} (h : OwnI B e n w v xs := by ((repeat' (first | (with_reducible assumption) | (with_reducible refine OwnI.drewQ ?_) | (with_reducible refine OwnI.drewNQ ?_ _) | (with_reducible refine OwnI.allocQ ?_ _) | (with_reducible refine OwnI.boxQ ?_ blkT dC _ _) | (with_reducible refine OwnI.rowQ ?_ blkT dC _))); first | done | fail)) : OwnI B e n w v xs := h
theorem news_new (w : World) (e : TypeId) (cs : List Value) (j : Nat) (u : Value) (h : cs[j]? = some u) : (w.alloc (.cells cs.toArray e)).cell? (Addr.add ⟨w.heap.size, 0, none⟩ j) = some u := by
 have h1 := (Blk.new w e cs.toArray).cell j
 have h2 : Addr.add ⟨w.heap.size, 0, none⟩ j = ⟨w.heap.size, j, none⟩ := by unfold Addr.add; split <;> simp_all
 rw [h2, h1]; simpa using h
end Go.G8
namespace Go.Proofs.YtfhaooaajpopmaaGreat
open Go.RowKit Go.G8
theorem l20DrawJobs_c {B : Nat} {w : World} {g : Nat} (h : Cur B w g) : Calls Tryz.prog 55 #[.pointer (some ⟨g, 0, none⟩)] w (Dr B w g fun v w' => ∃ j : DJobs, IsJobs w.heap.size w' v j ∧ j.Open.length ≤ 8) := by
 have hc0 := h; have E0 : Upd w w [g] := Upd.refl _ _
 have hg0 := h.lt
 go_enter Tryz.func55, Tryz.ntmps55
 go_wp2_with fail
 refine (l17Draw_c (cU B)).mono ?_
 rintro e w1 ⟨_, rfl, X1, hc1, s, hs⟩
 have hz1 := X1.sz
 have E1 : Upd w w1 [g] := X1.up
 have KR1 : Blk w1 w.heap.size 26 #[.int .i64 0, .int .i64 0, .int .i64 0, .int .i64 0, .int .i64 0, .slice none 0 0] := bU X1
 clear X1
 obtain ⟨CR1, FR1, LR1⟩ := KR1.cfl
 replace hs := hs.mono (B' := w.heap.size) zT
 obtain ⟨t2, t3, rfl, h2, h3⟩ := hs
 obtain ⟨a2, n2, k2, rfl⟩ := h2.shape
 obtain ⟨a3, n3, k3, rfl⟩ := h3.shape
 have Op1 := h2; have Oj1 := h3; clear h2 h3
 go_wp2_with fail
 go_cut [5] (fun cx0 wx => ∃ gg : Nat, ∃ aq : Option Addr, ∃ nq : Nat, ∃ kq : Nat, cx0 = .pointer (some ⟨gg, 0, none⟩) ∧ w1.heap.size + 1 + 1 ≤ gg ∧ Blk wx gg 26 #[.int .i64 s.Index, .int .i64 s.Time, .int .i64 s.Lease.Holder, .int .i64 s.Lease.Epoch, .int .i64 s.Lease.Until, .slice aq nq kq] ∧ OwnI w.heap.size 72 2 wx (.slice aq nq kq) (dues (openD s.Jobs)) ∧ Upd w wx [g] ∧ Cur B wx g ∧ Blk wx w.heap.size 26 #[.int .i64 0, .int .i64 0, .int .i64 0, .int .i64 0, .int .i64 0, .slice none 0 0] ∧ Blk wx w1.heap.size 62 #[.int .i64 s.Index, .int .i64 s.Time, .slice a2 n2 k2, .slice a3 n3 k3, .int .i64 s.Lease.Holder, .int .i64 s.Lease.Epoch, .int .i64 s.Lease.Until] ∧ Blk wx (w1.heap.size + 1) 60 #[.int .i64 s.Lease.Holder, .int .i64 s.Lease.Epoch, .int .i64 s.Lease.Until] ∧ OwnI w.heap.size 122 2 wx (.slice a2 n2 k2) (flPair s.Pairs) ∧ OwnI w.heap.size 86 5 wx (.slice a3 n3 k3) (flJob s.Jobs))
 case first =>
  refine wp_region_held_drew (S := fun w' => Upd w w' [g] ∧ Cur B w' g ∧ Blk w' w1.heap.size 62 #[.int .i64 s.Index, .int .i64 s.Time, .slice a2 n2 k2, .slice a3 n3 k3, .int .i64 s.Lease.Holder, .int .i64 s.Lease.Epoch, .int .i64 s.Lease.Until] ∧ Blk w' (w1.heap.size + 1) 60 #[.int .i64 s.Lease.Holder, .int .i64 s.Lease.Epoch, .int .i64 s.Lease.Until]) (by kernel_rfl) (by (try dsimp only); exact ⟨(by exact updT), (by exact curT), bC, bC⟩) (fun hHeld => ?_)
  refine wt 0 ?_
  (try simp only [redA, Act.put])
  refine wtq 1 (fun _ h => h.2.2.1.cell) ?_
  (try simp only [redA, Act.put])
  refine wt 2 ?_
  (try simp only [redA, Act.put])
  refine wtq 3 (fun _ h => h.2.2.1.cell) ?_
  (try simp only [redA, Act.put])
  refine wt 4 ?_
  (try simp only [redA, Act.put])
  refine wtq 5 (fun _ h => h.2.2.2.cell) ?_
  (try simp only [redA, Act.put])
  refine wt 6 ?_
  (try simp only [redA, Act.put])
  refine wtq 7 (fun _ h => h.2.2.2.cell) ?_
  (try simp only [redA, Act.put])
  refine wt 8 ?_
  (try simp only [redA, Act.put])
  refine wtq 9 (fun _ h => h.2.2.2.cell) ?_
  (try simp only [redA, Act.put])
  refine wt 10 ?_
  (try simp only [redA, Act.put])
  refine wtq 11 (fun _ h => h.2.2.1.cell) ?_
  (try simp only [redA, Act.put])
  refine wr2 12 14 (fun Kz hKz => ?_) fun Kz hKz => ?_
  ·
   (try simp only [redA])
   go_simp
   go_at_call 59
   refine (sOpenJobs_k _ _ s.Jobs (OwnI.ints (show OwnI w.heap.size 86 5 _ (.slice a3 n3 k3) (flJob s.Jobs) from by exact ownT))).mono ?_
   rintro e w2 ⟨_, rfl, hx2, HQ⟩
   have hz2 := hx2.size; (try simp only [szA] at hz2)
   have E2 : Upd w w2 [g] := Upd.ext (by exact updT) hx2
   have hc2 : Cur B w2 g := Cur.ext (by exact curT) hx2
   have KR2 := KR1.exv hx2
   have KS2 : Blk w2 w1.heap.size 62 #[.int .i64 s.Index, .int .i64 s.Time, .slice a2 n2 k2, .slice a3 n3 k3, .int .i64 s.Lease.Holder, .int .i64 s.Lease.Epoch, .int .i64 s.Lease.Until] := Blk.ext bD hx2
   have KL2 : Blk w2 (w1.heap.size + 1) 60 #[.int .i64 s.Lease.Holder, .int .i64 s.Lease.Epoch, .int .i64 s.Lease.Until] := Blk.ext bD hx2
   have Op2 : OwnI w.heap.size 122 2 w2 (.slice a2 n2 k2) (flPair s.Pairs) := OwnI.ext1 (by exact ownR) hx2
   have Oj2 : OwnI w.heap.size 86 5 w2 (.slice a3 n3 k3) (flJob s.Jobs) := OwnI.ext1 (by exact ownR) hx2
   clear hx2
   clear CR1 FR1 LR1
   obtain ⟨CR2, FR2, LR2⟩ := KR2.cfl
   obtain ⟨CS2, FS2, LS2⟩ := KS2.cfl
   obtain ⟨CL2, FL2, LL2⟩ := KL2.cfl
   obtain ⟨aq, nq, kq, rfl⟩ := HQ.shape
   have Oq2 : OwnI w.heap.size 72 2 w2 (.slice aq nq kq) (dues (openD s.Jobs)) := OwnI.mono HQ zT
   clear HQ
   refine hKz.o4 fun hHeld => ?_
   clear hKz Kz
   (try simp only [redA, Act.put])
   refine wt 13 ?_
   (try simp only [redA, Act.put])
   refine wr1 14 fun Kz hKz => ?_
   (try simp only [redA])
   go_simp
   refine hKz.o4 fun hHeld => ?_
   clear hKz Kz
   (try simp only [redA, Act.put])
   refine wr1 15 fun Kz hKz => ?_
   (try simp only [redA])
   go_simp
   refine hKz.o4 fun hHeld => ?_
   clear hKz Kz
   (try simp only [redA, Act.put])
   refine wpAnyH_done (by kernel_rfl) ?_ _
   go_wp2_with fail
   go_meet
   case rel => exact ⟨_, _, _, _, (by first | rfl | trivial), (by first | omega | (simp only [World.size_alloc, size_drew]; omega)), bC, (by exact ownR), (by exact updT), (by exact curT), bC, bC, bC, (by exact ownR), (by exact ownR)⟩
  (try simp only [redA])
  go_simp
  refine hKz.o4 fun hHeld => ?_
  clear hKz Kz
  (try simp only [redA, Act.put])
  refine wr1 12 fun Kz hKz => ?_
  (try simp only [redA])
  go_simp
  go_at_call 59
  refine (sOpenJobs_k _ _ s.Jobs (OwnI.ints (show OwnI w.heap.size 86 5 _ (.slice a3 n3 k3) (flJob s.Jobs) from by exact ownT))).mono ?_
  rintro e w2 ⟨_, rfl, hx2, HQ⟩
  have hz2 := hx2.size; (try simp only [szA] at hz2)
  have E2 : Upd w w2 [g] := Upd.ext (by exact updT) hx2
  have hc2 : Cur B w2 g := Cur.ext (by exact curT) hx2
  have KR2 := KR1.exv hx2
  have KS2 : Blk w2 w1.heap.size 62 #[.int .i64 s.Index, .int .i64 s.Time, .slice a2 n2 k2, .slice a3 n3 k3, .int .i64 s.Lease.Holder, .int .i64 s.Lease.Epoch, .int .i64 s.Lease.Until] := Blk.ext bD hx2
  have KL2 : Blk w2 (w1.heap.size + 1) 60 #[.int .i64 s.Lease.Holder, .int .i64 s.Lease.Epoch, .int .i64 s.Lease.Until] := Blk.ext bD hx2
  have KJ2 : Blk w2 (w1.heap.size + 1 + 1) 26 #[.int .i64 0, .int .i64 0, .int .i64 0, .int .i64 0, .int .i64 0, .slice none 0 0] := Blk.ext bD hx2
  have Op2 : OwnI w.heap.size 122 2 w2 (.slice a2 n2 k2) (flPair s.Pairs) := OwnI.ext1 (by exact ownR) hx2
  have Oj2 : OwnI w.heap.size 86 5 w2 (.slice a3 n3 k3) (flJob s.Jobs) := OwnI.ext1 (by exact ownR) hx2
  clear hx2
  clear CR1 FR1 LR1
  obtain ⟨CR2, FR2, LR2⟩ := KR2.cfl
  obtain ⟨CS2, FS2, LS2⟩ := KS2.cfl
  obtain ⟨CL2, FL2, LL2⟩ := KL2.cfl
  obtain ⟨CJ2, FJ2, LJ2⟩ := KJ2.cfl
  obtain ⟨aq, nq, kq, rfl⟩ := HQ.shape
  have Oq2 : OwnI w.heap.size 72 2 w2 (.slice aq nq kq) (dues (openD s.Jobs)) := OwnI.mono HQ zT
  clear HQ
  refine hKz.o4 fun hHeld => ?_
  clear hKz Kz
  (try simp only [redA, Act.put])
  refine wt 13 ?_
  (try simp only [redA, Act.put])
  refine wr1 15 fun Kz hKz => ?_
  (try simp only [redA])
  go_simp
  refine hKz.o4 fun hHeld => ?_
  clear hKz Kz
  (try simp only [redA, Act.put])
  refine wpAnyH_done (by kernel_rfl) ?_ _
  go_wp2_with fail
  go_meet
  case rel => exact ⟨_, _, _, _, (by first | rfl | trivial), (by first | omega | (simp only [World.size_alloc, size_drew]; omega)), bC, (by exact ownR), (by exact updT), (by exact curT), bC, bC, bC, (by exact ownR), (by exact ownR)⟩
 revert wc; intro w2 hcut
 obtain ⟨gg, aq, nq, kq, rfl, hgg, KJ2, Oq2, E2, hc2, KR2, KS2, KL2, Op2, Oj2⟩ := hcut
 have hz2 := E2.size
 clear CR1 FR1 LR1
 obtain ⟨CR2, FR2, LR2⟩ := KR2.cfl
 obtain ⟨CS2, FS2, LS2⟩ := KS2.cfl
 obtain ⟨CL2, FL2, LL2⟩ := KL2.cfl
 obtain ⟨CJ2, FJ2, LJ2⟩ := KJ2.cfl
 clear Op2 Oj2
 have hl8 := openD_len s.Jobs
 go_wp2_with fail
 refine (l1Once_c (cU B) 3).mono ?_
 rintro e w3 ⟨_, rfl, X3, hc3, b1, rfl⟩
 have hz3 := X3.sz
 have E3 : Upd w w3 [g] := X3.up
 have KR3 : Blk w3 w.heap.size 26 #[.int .i64 0, .int .i64 0, .int .i64 0, .int .i64 0, .int .i64 0, .slice none 0 0] := bU X3
 have KS3 : Blk w3 w1.heap.size 62 #[.int .i64 s.Index, .int .i64 s.Time, .slice a2 n2 k2, .slice a3 n3 k3, .int .i64 s.Lease.Holder, .int .i64 s.Lease.Epoch, .int .i64 s.Lease.Until] := bU X3
 have KL3 : Blk w3 (w1.heap.size + 1) 60 #[.int .i64 s.Lease.Holder, .int .i64 s.Lease.Epoch, .int .i64 s.Lease.Until] := bU X3
 have KJ3 : Blk w3 gg 26 #[.int .i64 s.Index, .int .i64 s.Time, .int .i64 s.Lease.Holder, .int .i64 s.Lease.Epoch, .int .i64 s.Lease.Until, .slice aq nq kq] := bU X3
 have Oq3 : OwnI w.heap.size 72 2 w3 (.slice aq nq kq) (dues (openD s.Jobs)) := OwnI.drawn (by exact ownR) X3 oM
 clear X3
 clear CR2 FR2 LR2 CS2 FS2 LS2 CL2 FL2 LL2 CJ2 FJ2 LJ2
 obtain ⟨CR3, FR3, LR3⟩ := KR3.cfl
 obtain ⟨CS3, FS3, LS3⟩ := KS3.cfl
 obtain ⟨CL3, FL3, LL3⟩ := KL3.cfl
 obtain ⟨CJ3, FJ3, LJ3⟩ := KJ3.cfl
 cases b1
 rotate_left
 ·
  go_wp2_with fail
  refine (l16Draw_c (cU B)).mono ?_
  rintro e w4 ⟨_, rfl, X4, hc4, lx, ly, lz, rfl⟩
  have hz4 := X4.sz
  have E4 : Upd w w4 [g] := X4.up
  have KR4 := KR3.upv X4
  have KS4 := KS3.upv X4
  have KL4 := KL3.upv X4
  have KJ4 := KJ3.upv X4
  have Oq4 : OwnI w.heap.size 72 2 w4 (.slice aq nq kq) (dues (openD s.Jobs)) := OwnI.drawn (by exact ownR) X4 oM
  clear X4
  clear CR3 FR3 LR3 CS3 FS3 LS3 CL3 FL3 LL3 CJ3 FJ3 LJ3
  obtain ⟨CR4, FR4, LR4⟩ := KR4.cfl
  obtain ⟨CS4, FS4, LS4⟩ := KS4.cfl
  obtain ⟨CL4, FL4, LL4⟩ := KL4.cfl
  obtain ⟨CJ4, FJ4, LJ4⟩ := KJ4.cfl
  go_wp2_with fail
  refine bodyPost_ret (by simp [results, Tryz.results55, go_sem, CR4, FR4, LR4, CS4, FS4, LS4, CL4, FL4, LL4, CJ4, FJ4, LJ4]; try rfl) rfl ?_
  exact ⟨_, rfl, by exact updT, by exact curT, _, IsJobs.mk (x5 := openD s.Jobs) (OwnI.mono (show OwnI w.heap.size 72 2 _ (.slice aq nq kq) (dues (openD s.Jobs)) from by exact ownR) oM), by simp only []; omega⟩
 go_wp2_with fail
 refine bodyPost_ret (by simp [results, Tryz.results55, go_sem, CR3, FR3, LR3, CS3, FS3, LS3, CL3, FL3, LL3, CJ3, FJ3, LJ3]; try rfl) rfl ?_
 exact ⟨_, rfl, by exact updT, by exact curT, _, IsJobs.mk (x5 := openD s.Jobs) (OwnI.mono (show OwnI w.heap.size 72 2 _ (.slice aq nq kq) (dues (openD s.Jobs)) from by exact ownR) oM), by simp only []; omega⟩
theorem l20DrawAnyJobs_c {B : Nat} {w : World} {g : Nat} (h : Cur B w g) : Calls Tryz.prog 58 #[.pointer (some ⟨g, 0, none⟩)] w (Dr B w g fun v w' => ∃ j : DJobs, IsJobs w.heap.size w' v j ∧ j.Open.length ≤ 9) := by
 obtain ⟨i0, hi, hy0, hy1, hy2⟩ := info_parts info_Due
 have hc0 := h; have E0 : Upd w w [g] := Upd.refl _ _
 have hg0 := h.lt
 go_enter Tryz.func58, Tryz.ntmps58
 go_wp2_with fail
 refine (l20DrawJobs_c (cU B)).mono ?_
 rintro e w1 ⟨_, rfl, X1, hc1, j, hj, hl⟩
 have hz1 := X1.sz
 have E1 : Upd w w1 [g] := X1.up
 have KR1 : Blk w1 w.heap.size 26 #[.int .i64 0, .int .i64 0, .int .i64 0, .int .i64 0, .int .i64 0, .slice none 0 0] := bU X1
 clear X1
 obtain ⟨CR1, FR1, LR1⟩ := KR1.cfl
 obtain ⟨tq, rfl, HQ⟩ := hj
 obtain ⟨aq, nq, kq, rfl⟩ := HQ.shape
 have Oq1 : OwnI w.heap.size 72 2 w1 (.slice aq nq kq) (dues j.Open) := OwnI.mono HQ zT
 clear HQ
 go_wp2_with fail
 refine (l1Once_c (cU B) 6).mono ?_
 rintro e w2 ⟨_, rfl, X2, hc2, b1, rfl⟩
 have hz2 := X2.sz
 have E2 : Upd w w2 [g] := X2.up
 have KR2 := KR1.upv X2
 have KJ2 : Blk w2 w1.heap.size 26 #[.int .i64 j.Index, .int .i64 j.Time, .int .i64 j.Holder, .int .i64 j.Epoch, .int .i64 j.Until, .slice aq nq kq] := bU X2
 have Oq2 : OwnI w.heap.size 72 2 w2 (.slice aq nq kq) (dues j.Open) := OwnI.drawn (by exact ownR) X2 oM
 clear X2
 clear CR1 FR1 LR1
 obtain ⟨CR2, FR2, LR2⟩ := KR2.cfl
 obtain ⟨CJ2, FJ2, LJ2⟩ := KJ2.cfl
 cases b1
 rotate_left
 ·
  go_wp2_with fail
  refine (l1Below_c (cU B) 6).mono ?_
  rintro e w3 ⟨_, rfl, X3, hc3, m, rfl, pm, qm, rm⟩
  have hz3 := X3.sz
  have E3 : Upd w w3 [g] := X3.up
  have KR3 := KR2.upv X3
  have KJ3 := KJ2.upv X3
  have Oq3 : OwnI w.heap.size 72 2 w3 (.slice aq nq kq) (dues j.Open) := OwnI.drawn (by exact ownR) X3 oM
  clear X3
  clear CR2 FR2 LR2 CJ2 FJ2 LJ2
  obtain ⟨CR3, FR3, LR3⟩ := KR3.cfl
  obtain ⟨CJ3, FJ3, LJ3⟩ := KJ3.cfl
  have qm := qm dC; clear rm
  obtain rfl | rfl | rfl | rfl | rfl | rfl : m = 0 ∨ m = 1 ∨ m = 2 ∨ m = 3 ∨ m = 4 ∨ m = 5 := by omega
  ·
   go_wp2_with fail
   refine (l1Below_c (cU B) 4).mono ?_
   rintro e w4 ⟨_, rfl, X4, hc4, ui, rfl, pu, qu, ru⟩
   have hz4 := X4.sz
   have E4 : Upd w w4 [g] := X4.up
   have KR4 := KR3.upv X4
   have KJ4 := KJ3.upv X4
   have KPk4 : Blk w4 w3.heap.size 2 #[.int .i64 (-1), .int .i64 0, .int .i64 2000, .int .i64 2001] := bU X4
   have Oq4 : OwnI w.heap.size 72 2 w4 (.slice aq nq kq) (dues j.Open) := OwnI.drawn (by exact ownR) X4 oM
   clear X4
   clear CR3 FR3 LR3 CJ3 FJ3 LJ3
   obtain ⟨CR4, FR4, LR4⟩ := KR4.cfl
   obtain ⟨CJ4, FJ4, LJ4⟩ := KJ4.cfl
   obtain ⟨CPk4, FPk4, LPk4⟩ := KPk4.cfl
   have qu := qu dC; clear ru
   obtain ⟨u, hu⟩ : ∃ u : Int, w4.cell? ⟨w3.heap.size, ui.toNat, none⟩ = some (.int .i64 u) := by
    rw [KPk4.cell]
    have : ui.toNat < 4 := by omega
    exact pick_int [-1, 0, 2000, 2001] this
   clear CPk4
   go_wp2_with fail
   refine bodyPost_ret (by simp [results, Tryz.results58, go_sem, CR4, FR4, LR4, CJ4, FJ4, LJ4, FPk4, LPk4, hu]; try rfl) rfl ?_
   exact ⟨_, rfl, by exact updT, by exact curT, _, IsJobs.mk (x5 := j.Open) (OwnI.mono (show OwnI w.heap.size 72 2 _ (.slice aq nq kq) (dues j.Open) from by exact ownR) oM), by (try simp only [List.length_append, List.length_cons, List.length_nil]); omega⟩
  ·
   go_wp2_with fail
   refine (l1Below_c (cU B) 3).mono ?_
   rintro e w4 ⟨_, rfl, X4, hc4, ui, rfl, pu, qu, ru⟩
   have hz4 := X4.sz
   have E4 : Upd w w4 [g] := X4.up
   have KR4 := KR3.upv X4
   have KJ4 := KJ3.upv X4
   have KPk4 : Blk w4 w3.heap.size 2 #[.int .i64 (-1), .int .i64 1000000, .int .i64 1000001] := bU X4
   have Oq4 : OwnI w.heap.size 72 2 w4 (.slice aq nq kq) (dues j.Open) := OwnI.drawn (by exact ownR) X4 oM
   clear X4
   clear CR3 FR3 LR3 CJ3 FJ3 LJ3
   obtain ⟨CR4, FR4, LR4⟩ := KR4.cfl
   obtain ⟨CJ4, FJ4, LJ4⟩ := KJ4.cfl
   obtain ⟨CPk4, FPk4, LPk4⟩ := KPk4.cfl
   have qu := qu dC; clear ru
   obtain ⟨u, hu⟩ : ∃ u : Int, w4.cell? ⟨w3.heap.size, ui.toNat, none⟩ = some (.int .i64 u) := by
    rw [KPk4.cell]
    have : ui.toNat < 3 := by omega
    exact pick_int [-1, 1000000, 1000001] this
   clear CPk4
   go_wp2_with fail
   refine bodyPost_ret (by simp [results, Tryz.results58, go_sem, CR4, FR4, LR4, CJ4, FJ4, LJ4, FPk4, LPk4, hu]; try rfl) rfl ?_
   exact ⟨_, rfl, by exact updT, by exact curT, _, IsJobs.mk (x5 := j.Open) (OwnI.mono (show OwnI w.heap.size 72 2 _ (.slice aq nq kq) (dues j.Open) from by exact ownR) oM), by (try simp only [List.length_append, List.length_cons, List.length_nil]); omega⟩
  ·
   go_wp2_with fail
   refine (l1Num_c (cU B) 5 oM oM).mono ?_
   rintro e w4 ⟨_, rfl, X4, hc4, u, rfl⟩
   have hz4 := X4.sz
   have E4 : Upd w w4 [g] := X4.up
   have KR4 := KR3.upv X4
   have KJ4 := KJ3.upv X4
   have Oq4 : OwnI w.heap.size 72 2 w4 (.slice aq nq kq) (dues j.Open) := OwnI.drawn (by exact ownR) X4 oM
   clear X4
   clear CR3 FR3 LR3 CJ3 FJ3 LJ3
   obtain ⟨CR4, FR4, LR4⟩ := KR4.cfl
   obtain ⟨CJ4, FJ4, LJ4⟩ := KJ4.cfl
   go_wp2_with fail
   refine bodyPost_ret (by simp [results, Tryz.results58, go_sem, CR4, FR4, LR4, CJ4, FJ4, LJ4]; try rfl) rfl ?_
   exact ⟨_, rfl, by exact updT, by exact curT, _, IsJobs.mk (x5 := j.Open) (OwnI.mono (show OwnI w.heap.size 72 2 _ (.slice aq nq kq) (dues j.Open) from by exact ownR) oM), by (try simp only [List.length_append, List.length_cons, List.length_nil]); omega⟩
  ·
   go_wp2_with fail
   refine (l1Below_c (cU B) 4).mono ?_
   rintro e w4 ⟨_, rfl, X4, hc4, ui, rfl, pu, qu, ru⟩
   have hz4 := X4.sz
   have E4 : Upd w w4 [g] := X4.up
   have KR4 := KR3.upv X4
   have KJ4 := KJ3.upv X4
   have KPk4 : Blk w4 w3.heap.size 2 #[.int .i64 (-1), .int .i64 0, .int .i64 1000, .int .i64 1001] := bU X4
   have Oq4 : OwnI w.heap.size 72 2 w4 (.slice aq nq kq) (dues j.Open) := OwnI.drawn (by exact ownR) X4 oM
   clear X4
   clear CR3 FR3 LR3 CJ3 FJ3 LJ3
   obtain ⟨CR4, FR4, LR4⟩ := KR4.cfl
   obtain ⟨CJ4, FJ4, LJ4⟩ := KJ4.cfl
   obtain ⟨CPk4, FPk4, LPk4⟩ := KPk4.cfl
   have qu := qu dC; clear ru
   obtain ⟨u, hu⟩ : ∃ u : Int, w4.cell? ⟨w3.heap.size, ui.toNat, none⟩ = some (.int .i64 u) := by
    rw [KPk4.cell]
    have : ui.toNat < 4 := by omega
    exact pick_int [-1, 0, 1000, 1001] this
   clear CPk4
   go_wp2_with fail
   refine bodyPost_ret (by simp [results, Tryz.results58, go_sem, CR4, FR4, LR4, CJ4, FJ4, LJ4, FPk4, LPk4, hu]; try rfl) rfl ?_
   exact ⟨_, rfl, by exact updT, by exact curT, _, IsJobs.mk (x5 := j.Open) (OwnI.mono (show OwnI w.heap.size 72 2 _ (.slice aq nq kq) (dues j.Open) from by exact ownR) oM), by (try simp only [List.length_append, List.length_cons, List.length_nil]); omega⟩
  ·
   go_wp2_with fail
   refine (l1Below_c (cU B) 4).mono ?_
   rintro e w4 ⟨_, rfl, X4, hc4, ui, rfl, pu, qu, ru⟩
   have hz4 := X4.sz
   have E4 : Upd w w4 [g] := X4.up
   have KR4 := KR3.upv X4
   have KJ4 := KJ3.upv X4
   have KPk4 : Blk w4 w3.heap.size 2 #[.int .i64 (-1), .int .i64 0, .int .i64 1001000, .int .i64 1001001] := bU X4
   have Oq4 : OwnI w.heap.size 72 2 w4 (.slice aq nq kq) (dues j.Open) := OwnI.drawn (by exact ownR) X4 oM
   clear X4
   clear CR3 FR3 LR3 CJ3 FJ3 LJ3
   obtain ⟨CR4, FR4, LR4⟩ := KR4.cfl
   obtain ⟨CJ4, FJ4, LJ4⟩ := KJ4.cfl
   obtain ⟨CPk4, FPk4, LPk4⟩ := KPk4.cfl
   have qu := qu dC; clear ru
   obtain ⟨u, hu⟩ : ∃ u : Int, w4.cell? ⟨w3.heap.size, ui.toNat, none⟩ = some (.int .i64 u) := by
    rw [KPk4.cell]
    have : ui.toNat < 4 := by omega
    exact pick_int [-1, 0, 1001000, 1001001] this
   clear CPk4
   go_wp2_with fail
   refine bodyPost_ret (by simp [results, Tryz.results58, go_sem, CR4, FR4, LR4, CJ4, FJ4, LJ4, FPk4, LPk4, hu]; try rfl) rfl ?_
   exact ⟨_, rfl, by exact updT, by exact curT, _, IsJobs.mk (x5 := j.Open) (OwnI.mono (show OwnI w.heap.size 72 2 _ (.slice aq nq kq) (dues j.Open) from by exact ownR) oM), by (try simp only [List.length_append, List.length_cons, List.length_nil]); omega⟩
  go_wp2_with fail
  refine wh (S := fun w' => Upd w w' [g] ∧ Cur B w' g) fun hHeld => ?_
  refine wt 0 ?_
  (try simp only [redA, Act.put])
  refine wt 2 ?_
  (try simp only [redA, Act.put])
  refine wt 4 ?_
  (try simp only [redA, Act.put])
  refine wr2 1 3 (fun Kz hKz => ?_) fun Kz hKz => ?_
  ·
   (try simp only [redA])
   go_simp
   refine hKz.o2 fun hHeld => ?_
   clear hKz Kz
   (try simp only [redA, Act.put])
   refine wr1 3 fun Kz hKz => ?_
   (try simp only [redA])
   go_simp
   go_at_call 15
   refine (l1Num_c (cU B) 21 oM oM).mono ?_
   rintro e w4 ⟨_, rfl, X4, hc4, ux, rfl⟩
   have hz4 := X4.sz
   have E4 : Upd w w4 [g] := X4.up
   have KR4 := KR3.upv X4
   have KJ4 := KJ3.upv X4
   have Oq4 : OwnI w.heap.size 72 2 w4 (.slice aq nq kq) (dues j.Open) := OwnI.drawn (by exact ownR) X4 oM
   clear X4
   clear CR3 FR3 LR3 CJ3 FJ3 LJ3
   obtain ⟨CR4, FR4, LR4⟩ := KR4.cfl
   obtain ⟨CJ4, FJ4, LJ4⟩ := KJ4.cfl
   refine hKz.o2 fun hHeld => ?_
   clear hKz Kz
   (try simp only [redA, Act.put])
   refine wr1 5 fun Kz hKz => ?_
   (try simp only [redA])
   go_simp
   go_at_call 15
   refine (l1Num_c (cU B) 40 oM oM).mono ?_
   rintro e w5 ⟨_, rfl, X5, hc5, uy, rfl⟩
   have hz5 := X5.sz
   have E5 : Upd w w5 [g] := X5.up
   have KR5 := KR4.upv X5
   have KJ5 := KJ4.upv X5
   have Oq5 : OwnI w.heap.size 72 2 w5 (.slice aq nq kq) (dues j.Open) := OwnI.drawn (by exact ownR) X5 oM
   clear X5
   clear CR4 FR4 LR4 CJ4 FJ4 LJ4
   obtain ⟨CR5, FR5, LR5⟩ := KR5.cfl
   obtain ⟨CJ5, FJ5, LJ5⟩ := KJ5.cfl
   refine hKz.o2 fun hHeld => ?_
   clear hKz Kz
   (try simp only [redA, Act.put])
   refine wt 6 ?_
   (try simp only [redA, Act.put])
   refine wr1 7 fun Kz hKz => ?_
   (try simp only [redA])
   go_simp
   refine hKz.o2 fun hHeld => ?_
   clear hKz Kz
   (try simp only [redA, Act.put])
   refine wr1 8 fun Kz hKz => ?_
   (try simp only [redA])
   have OO : OwnI w.heap.size 72 2 (w5.alloc (.cells #[.int .i64 ux, .int .i64 uy] 72)) (.slice aq nq kq) (dues j.Open) := OwnI.ext1 (by exact ownR) ((Ext.refl _).alloc _)
   rw [if_pos (by rfl)]; refine wp_append_own0 (.tmp 50) (.tmp 56) 24 (by rfl) 72 i0 _ 2 16 Tryz.underlying24 hi hy0 hy1 hy2 rfl dC w.heap.size _ _ (by rfl) OO ⟨w5.heap.size, 0, none⟩ 1 1 [.int .i64 ux, .int .i64 uy] (by rfl) rfl (news_new w5 72 [.int .i64 ux, .int .i64 uy]) (by intro u hu; simp at hu; rcases hu with rfl | rfl <;> rfl) oM 1000 (by simp only [List.length_map, length_dues, List.length_cons, List.length_nil]; omega) (by unfold maxLen; omega) oM (by simp only [World.size_alloc]; omega) ?_; intro vv w6 On hga
   have hz6 := hga.size; (try simp only [World.size_alloc] at hz6)
   have E6 : Upd w w6 [g] := Upd.app (by exact updT) OO (.inr oM) hga
   have hc6 : Cur B w6 g := Cur.app (by exact curT) OO oM hga
   have KR6 : Blk w6 w.heap.size 26 #[.int .i64 0, .int .i64 0, .int .i64 0, .int .i64 0, .int .i64 0, .slice none 0 0] := Blk.app bC OO dC hga
   have KJ6 : Blk w6 w1.heap.size 26 #[.int .i64 j.Index, .int .i64 j.Time, .int .i64 j.Holder, .int .i64 j.Epoch, .int .i64 j.Until, .slice aq nq kq] := Blk.app bC OO dC hga
   have Ov : OwnI w.heap.size 72 2 w6 vv (dues (j.Open ++ [⟨ux, uy⟩])) := by unfold OwnI; rw [dues_append, List.map_append]; exact On
   clear On OO hga
   clear CR5 FR5 LR5 CJ5 FJ5 LJ5
   obtain ⟨CR6, FR6, LR6⟩ := KR6.cfl
   obtain ⟨CJ6, FJ6, LJ6⟩ := KJ6.cfl
   obtain ⟨av, nv, kv, rfl⟩ := Ov.shape
   have Oq6 : OwnI w.heap.size 72 2 w6 (.slice av nv kv) (dues (j.Open ++ [⟨ux, uy⟩])) := OwnI.mono Ov zT
   clear Ov
   refine hKz.o2 fun hHeld => ?_
   clear hKz Kz
   (try simp only [redA, Act.put])
   refine wt 9 ?_
   (try simp only [redA, Act.put])
   refine wr1 10 fun Kz hKz => ?_
   (try simp only [redA])
   go_simp
   refine hKz.o2 fun hHeld => ?_
   clear hKz Kz
   (try simp only [redA, Act.put])
   refine wpAnyH_done (by kernel_rfl) ?_ _
   go_wp2_with fail
   refine bodyPost_ret (by simp [results, Tryz.results58, go_sem, CR6, FR6, LR6, CJ6, FJ6, LJ6]; try rfl) rfl ?_
   exact ⟨_, rfl, by exact updT, by exact curT, _, IsJobs.mk (x5 := (j.Open ++ [⟨ux, uy⟩])) (OwnI.mono (show OwnI w.heap.size 72 2 _ (.slice av nv kv) (dues (j.Open ++ [⟨ux, uy⟩])) from by exact ownR) oM), by (try simp only [List.length_append, List.length_cons, List.length_nil]); omega⟩
  (try simp only [redA])
  go_simp
  go_at_call 15
  refine (l1Num_c (cU B) 21 oM oM).mono ?_
  rintro e w4 ⟨_, rfl, X4, hc4, ux, rfl⟩
  have hz4 := X4.sz
  have E4 : Upd w w4 [g] := X4.up
  have KR4 := KR3.upv X4
  have KJ4 := KJ3.upv X4
  have Oq4 : OwnI w.heap.size 72 2 w4 (.slice aq nq kq) (dues j.Open) := OwnI.drawn (by exact ownR) X4 oM
  clear X4
  clear CR3 FR3 LR3 CJ3 FJ3 LJ3
  obtain ⟨CR4, FR4, LR4⟩ := KR4.cfl
  obtain ⟨CJ4, FJ4, LJ4⟩ := KJ4.cfl
  refine hKz.o2 fun hHeld => ?_
  clear hKz Kz
  (try simp only [redA, Act.put])
  refine wr2 1 5 (fun Kz hKz => ?_) fun Kz hKz => ?_
  ·
   (try simp only [redA])
   go_simp
   refine hKz.o2 fun hHeld => ?_
   clear hKz Kz
   (try simp only [redA, Act.put])
   refine wr1 5 fun Kz hKz => ?_
   (try simp only [redA])
   go_simp
   go_at_call 15
   refine (l1Num_c (cU B) 40 oM oM).mono ?_
   rintro e w5 ⟨_, rfl, X5, hc5, uy, rfl⟩
   have hz5 := X5.sz
   have E5 : Upd w w5 [g] := X5.up
   have KR5 := KR4.upv X5
   have KJ5 := KJ4.upv X5
   have Oq5 : OwnI w.heap.size 72 2 w5 (.slice aq nq kq) (dues j.Open) := OwnI.drawn (by exact ownR) X5 oM
   clear X5
   clear CR4 FR4 LR4 CJ4 FJ4 LJ4
   obtain ⟨CR5, FR5, LR5⟩ := KR5.cfl
   obtain ⟨CJ5, FJ5, LJ5⟩ := KJ5.cfl
   refine hKz.o2 fun hHeld => ?_
   clear hKz Kz
   (try simp only [redA, Act.put])
   refine wt 6 ?_
   (try simp only [redA, Act.put])
   refine wr1 7 fun Kz hKz => ?_
   (try simp only [redA])
   go_simp
   refine hKz.o2 fun hHeld => ?_
   clear hKz Kz
   (try simp only [redA, Act.put])
   refine wr1 8 fun Kz hKz => ?_
   (try simp only [redA])
   have OO : OwnI w.heap.size 72 2 (w5.alloc (.cells #[.int .i64 ux, .int .i64 uy] 72)) (.slice aq nq kq) (dues j.Open) := OwnI.ext1 (by exact ownR) ((Ext.refl _).alloc _)
   rw [if_pos (by rfl)]; refine wp_append_own0 (.tmp 50) (.tmp 56) 24 (by rfl) 72 i0 _ 2 16 Tryz.underlying24 hi hy0 hy1 hy2 rfl dC w.heap.size _ _ (by rfl) OO ⟨w5.heap.size, 0, none⟩ 1 1 [.int .i64 ux, .int .i64 uy] (by rfl) rfl (news_new w5 72 [.int .i64 ux, .int .i64 uy]) (by intro u hu; simp at hu; rcases hu with rfl | rfl <;> rfl) oM 1000 (by simp only [List.length_map, length_dues, List.length_cons, List.length_nil]; omega) (by unfold maxLen; omega) oM (by simp only [World.size_alloc]; omega) ?_; intro vv w6 On hga
   have hz6 := hga.size; (try simp only [World.size_alloc] at hz6)
   have E6 : Upd w w6 [g] := Upd.app (by exact updT) OO (.inr oM) hga
   have hc6 : Cur B w6 g := Cur.app (by exact curT) OO oM hga
   have KR6 : Blk w6 w.heap.size 26 #[.int .i64 0, .int .i64 0, .int .i64 0, .int .i64 0, .int .i64 0, .slice none 0 0] := Blk.app bC OO dC hga
   have KJ6 : Blk w6 w1.heap.size 26 #[.int .i64 j.Index, .int .i64 j.Time, .int .i64 j.Holder, .int .i64 j.Epoch, .int .i64 j.Until, .slice aq nq kq] := Blk.app bC OO dC hga
   have Ov : OwnI w.heap.size 72 2 w6 vv (dues (j.Open ++ [⟨ux, uy⟩])) := by unfold OwnI; rw [dues_append, List.map_append]; exact On
   clear On OO hga
   clear CR5 FR5 LR5 CJ5 FJ5 LJ5
   obtain ⟨CR6, FR6, LR6⟩ := KR6.cfl
   obtain ⟨CJ6, FJ6, LJ6⟩ := KJ6.cfl
   obtain ⟨av, nv, kv, rfl⟩ := Ov.shape
   have Oq6 : OwnI w.heap.size 72 2 w6 (.slice av nv kv) (dues (j.Open ++ [⟨ux, uy⟩])) := OwnI.mono Ov zT
   clear Ov
   refine hKz.o2 fun hHeld => ?_
   clear hKz Kz
   (try simp only [redA, Act.put])
   refine wt 9 ?_
   (try simp only [redA, Act.put])
   refine wr1 10 fun Kz hKz => ?_
   (try simp only [redA])
   go_simp
   refine hKz.o2 fun hHeld => ?_
   clear hKz Kz
   (try simp only [redA, Act.put])
   refine wpAnyH_done (by kernel_rfl) ?_ _
   go_wp2_with fail
   refine bodyPost_ret (by simp [results, Tryz.results58, go_sem, CR6, FR6, LR6, CJ6, FJ6, LJ6]; try rfl) rfl ?_
   exact ⟨_, rfl, by exact updT, by exact curT, _, IsJobs.mk (x5 := (j.Open ++ [⟨ux, uy⟩])) (OwnI.mono (show OwnI w.heap.size 72 2 _ (.slice av nv kv) (dues (j.Open ++ [⟨ux, uy⟩])) from by exact ownR) oM), by (try simp only [List.length_append, List.length_cons, List.length_nil]); omega⟩
  (try simp only [redA])
  go_simp
  go_at_call 15
  refine (l1Num_c (cU B) 40 oM oM).mono ?_
  rintro e w5 ⟨_, rfl, X5, hc5, uy, rfl⟩
  have hz5 := X5.sz
  have E5 : Upd w w5 [g] := X5.up
  have KR5 := KR4.upv X5
  have KJ5 := KJ4.upv X5
  have Oq5 : OwnI w.heap.size 72 2 w5 (.slice aq nq kq) (dues j.Open) := OwnI.drawn (by exact ownR) X5 oM
  clear X5
  clear CR4 FR4 LR4 CJ4 FJ4 LJ4
  obtain ⟨CR5, FR5, LR5⟩ := KR5.cfl
  obtain ⟨CJ5, FJ5, LJ5⟩ := KJ5.cfl
  refine hKz.o2 fun hHeld => ?_
  clear hKz Kz
  (try simp only [redA, Act.put])
  refine wt 6 ?_
  (try simp only [redA, Act.put])
  refine wr2 1 7 (fun Kz hKz => ?_) fun Kz hKz => ?_
  ·
   (try simp only [redA])
   go_simp
   refine hKz.o2 fun hHeld => ?_
   clear hKz Kz
   (try simp only [redA, Act.put])
   refine wr1 7 fun Kz hKz => ?_
   (try simp only [redA])
   go_simp
   refine hKz.o2 fun hHeld => ?_
   clear hKz Kz
   (try simp only [redA, Act.put])
   refine wr1 8 fun Kz hKz => ?_
   (try simp only [redA])
   have OO : OwnI w.heap.size 72 2 (w5.alloc (.cells #[.int .i64 ux, .int .i64 uy] 72)) (.slice aq nq kq) (dues j.Open) := OwnI.ext1 (by exact ownR) ((Ext.refl _).alloc _)
   rw [if_pos (by rfl)]; refine wp_append_own0 (.tmp 50) (.tmp 56) 24 (by rfl) 72 i0 _ 2 16 Tryz.underlying24 hi hy0 hy1 hy2 rfl dC w.heap.size _ _ (by rfl) OO ⟨w5.heap.size, 0, none⟩ 1 1 [.int .i64 ux, .int .i64 uy] (by rfl) rfl (news_new w5 72 [.int .i64 ux, .int .i64 uy]) (by intro u hu; simp at hu; rcases hu with rfl | rfl <;> rfl) oM 1000 (by simp only [List.length_map, length_dues, List.length_cons, List.length_nil]; omega) (by unfold maxLen; omega) oM (by simp only [World.size_alloc]; omega) ?_; intro vv w6 On hga
   have hz6 := hga.size; (try simp only [World.size_alloc] at hz6)
   have E6 : Upd w w6 [g] := Upd.app (by exact updT) OO (.inr oM) hga
   have hc6 : Cur B w6 g := Cur.app (by exact curT) OO oM hga
   have KR6 : Blk w6 w.heap.size 26 #[.int .i64 0, .int .i64 0, .int .i64 0, .int .i64 0, .int .i64 0, .slice none 0 0] := Blk.app bC OO dC hga
   have KJ6 : Blk w6 w1.heap.size 26 #[.int .i64 j.Index, .int .i64 j.Time, .int .i64 j.Holder, .int .i64 j.Epoch, .int .i64 j.Until, .slice aq nq kq] := Blk.app bC OO dC hga
   have Ov : OwnI w.heap.size 72 2 w6 vv (dues (j.Open ++ [⟨ux, uy⟩])) := by unfold OwnI; rw [dues_append, List.map_append]; exact On
   clear On OO hga
   clear CR5 FR5 LR5 CJ5 FJ5 LJ5
   obtain ⟨CR6, FR6, LR6⟩ := KR6.cfl
   obtain ⟨CJ6, FJ6, LJ6⟩ := KJ6.cfl
   obtain ⟨av, nv, kv, rfl⟩ := Ov.shape
   have Oq6 : OwnI w.heap.size 72 2 w6 (.slice av nv kv) (dues (j.Open ++ [⟨ux, uy⟩])) := OwnI.mono Ov zT
   clear Ov
   refine hKz.o2 fun hHeld => ?_
   clear hKz Kz
   (try simp only [redA, Act.put])
   refine wt 9 ?_
   (try simp only [redA, Act.put])
   refine wr1 10 fun Kz hKz => ?_
   (try simp only [redA])
   go_simp
   refine hKz.o2 fun hHeld => ?_
   clear hKz Kz
   (try simp only [redA, Act.put])
   refine wpAnyH_done (by kernel_rfl) ?_ _
   go_wp2_with fail
   refine bodyPost_ret (by simp [results, Tryz.results58, go_sem, CR6, FR6, LR6, CJ6, FJ6, LJ6]; try rfl) rfl ?_
   exact ⟨_, rfl, by exact updT, by exact curT, _, IsJobs.mk (x5 := (j.Open ++ [⟨ux, uy⟩])) (OwnI.mono (show OwnI w.heap.size 72 2 _ (.slice av nv kv) (dues (j.Open ++ [⟨ux, uy⟩])) from by exact ownR) oM), by (try simp only [List.length_append, List.length_cons, List.length_nil]); omega⟩
  (try simp only [redA])
  go_simp
  refine hKz.o2 fun hHeld => ?_
  clear hKz Kz
  (try simp only [redA, Act.put])
  refine wr1 1 fun Kz hKz => ?_
  (try simp only [redA])
  go_simp
  refine hKz.o2 fun hHeld => ?_
  clear hKz Kz
  (try simp only [redA, Act.put])
  refine wr1 8 fun Kz hKz => ?_
  (try simp only [redA])
  have OO : OwnI w.heap.size 72 2 (w5.alloc (.cells #[.int .i64 ux, .int .i64 uy] 72)) (.slice aq nq kq) (dues j.Open) := OwnI.ext1 (by exact ownR) ((Ext.refl _).alloc _)
  rw [if_pos (by rfl)]; refine wp_append_own0 (.tmp 50) (.tmp 56) 24 (by rfl) 72 i0 _ 2 16 Tryz.underlying24 hi hy0 hy1 hy2 rfl dC w.heap.size _ _ (by rfl) OO ⟨w5.heap.size, 0, none⟩ 1 1 [.int .i64 ux, .int .i64 uy] (by rfl) rfl (news_new w5 72 [.int .i64 ux, .int .i64 uy]) (by intro u hu; simp at hu; rcases hu with rfl | rfl <;> rfl) oM 1000 (by simp only [List.length_map, length_dues, List.length_cons, List.length_nil]; omega) (by unfold maxLen; omega) oM (by simp only [World.size_alloc]; omega) ?_; intro vv w6 On hga
  have hz6 := hga.size; (try simp only [World.size_alloc] at hz6)
  have E6 : Upd w w6 [g] := Upd.app (by exact updT) OO (.inr oM) hga
  have hc6 : Cur B w6 g := Cur.app (by exact curT) OO oM hga
  have KR6 : Blk w6 w.heap.size 26 #[.int .i64 0, .int .i64 0, .int .i64 0, .int .i64 0, .int .i64 0, .slice none 0 0] := Blk.app bC OO dC hga
  have KJ6 : Blk w6 w1.heap.size 26 #[.int .i64 j.Index, .int .i64 j.Time, .int .i64 j.Holder, .int .i64 j.Epoch, .int .i64 j.Until, .slice aq nq kq] := Blk.app bC OO dC hga
  have Ov : OwnI w.heap.size 72 2 w6 vv (dues (j.Open ++ [⟨ux, uy⟩])) := by unfold OwnI; rw [dues_append, List.map_append]; exact On
  clear On OO hga
  clear CR5 FR5 LR5 CJ5 FJ5 LJ5
  obtain ⟨CR6, FR6, LR6⟩ := KR6.cfl
  obtain ⟨CJ6, FJ6, LJ6⟩ := KJ6.cfl
  obtain ⟨av, nv, kv, rfl⟩ := Ov.shape
  have Oq6 : OwnI w.heap.size 72 2 w6 (.slice av nv kv) (dues (j.Open ++ [⟨ux, uy⟩])) := OwnI.mono Ov zT
  clear Ov
  refine hKz.o2 fun hHeld => ?_
  clear hKz Kz
  (try simp only [redA, Act.put])
  refine wt 9 ?_
  (try simp only [redA, Act.put])
  refine wr1 10 fun Kz hKz => ?_
  (try simp only [redA])
  go_simp
  refine hKz.o2 fun hHeld => ?_
  clear hKz Kz
  (try simp only [redA, Act.put])
  refine wpAnyH_done (by kernel_rfl) ?_ _
  go_wp2_with fail
  refine bodyPost_ret (by simp [results, Tryz.results58, go_sem, CR6, FR6, LR6, CJ6, FJ6, LJ6]; try rfl) rfl ?_
  exact ⟨_, rfl, by exact updT, by exact curT, _, IsJobs.mk (x5 := (j.Open ++ [⟨ux, uy⟩])) (OwnI.mono (show OwnI w.heap.size 72 2 _ (.slice av nv kv) (dues (j.Open ++ [⟨ux, uy⟩])) from by exact ownR) oM), by (try simp only [List.length_append, List.length_cons, List.length_nil]); omega⟩
 go_wp2_with fail
 refine bodyPost_ret (by simp [results, Tryz.results58, go_sem, CR2, FR2, LR2, CJ2, FJ2, LJ2]; try rfl) rfl ?_
 exact ⟨_, rfl, by exact updT, by exact curT, _, IsJobs.mk (x5 := j.Open) (OwnI.mono (show OwnI w.heap.size 72 2 _ (.slice aq nq kq) (dues j.Open) from by exact ownR) oM), by (try simp only [List.length_append, List.length_cons, List.length_nil]); omega⟩
theorem l20DrawAny_c {B : Nat} {w : World} {g : Nat} (h : Cur B w g) : Calls Tryz.prog 34 #[.pointer (some ⟨g, 0, none⟩)] w (Dr B w g fun v w' => ∃ j : DView, IsView w.heap.size w' v j ∧ j.Jobs.Open.length ≤ 9) := by
 have hc0 := h; have E0 : Upd w w [g] := Upd.refl _ _
 have hg0 := h.lt
 go_enter Tryz.func34, Tryz.ntmps34
 go_wp2_with fail
 refine (l20DrawAnyJobs_c (cU B)).mono ?_
 rintro e w1 ⟨_, rfl, X1, hc1, j, hj, hl⟩
 have hz1 := X1.sz
 have E1 : Upd w w1 [g] := X1.up
 have KR1 : Blk w1 w.heap.size 28 #[.int .i64 0, .int .i64 0, .int .i64 0, .int .i64 0, .int .i64 0, .slice none 0 0] := bU X1
 clear X1
 obtain ⟨CR1, FR1, LR1⟩ := KR1.cfl
 obtain ⟨tq, rfl, HQ⟩ := hj
 obtain ⟨aq, nq, kq, rfl⟩ := HQ.shape
 have Oq1 : OwnI w.heap.size 72 2 w1 (.slice aq nq kq) (dues j.Open) := OwnI.mono HQ zT
 clear HQ
 go_wp2_with fail
 refine bodyPost_ret (by simp [results, Tryz.results34, go_sem, CR1, FR1, LR1]; try rfl) rfl ?_
 exact ⟨_, rfl, by exact updT, by exact curT, _, IsView.mk (x5 := j.Open) (OwnI.mono (show OwnI w.heap.size 72 2 _ (.slice aq nq kq) (dues j.Open) from by exact ownR) oM), by simp only []; omega⟩
theorem l20DrawNow_c {B : Nat} {w : World} {g : Nat} (h : Cur B w g) (v0 v1 v2 v3 v4 : Int) (a : Option Addr) (n k : Nat) : Calls Tryz.prog 57 #[.pointer (some ⟨g, 0, none⟩), .agg #[.int .i64 v0, .int .i64 v1, .int .i64 v2, .int .i64 v3, .int .i64 v4, .slice a n k]] w (Dr B w g fun v w' => ∃ x : Int, v = .int .i64 x) := by
 have hc0 := h; have E0 : Upd w w [g] := Upd.refl _ _
 have hg0 := h.lt
 go_enter Tryz.func57, Tryz.ntmps57
 go_wp2_with fail
 refine (l1Below_c (cU B) 6).mono ?_
 rintro e w1 ⟨_, rfl, X1, hc1, m, rfl, pm, qm, rm⟩
 have hz1 := X1.sz
 have E1 : Upd w w1 [g] := X1.up
 have KV1 : Blk w1 w.heap.size 28 #[.int .i64 v0, .int .i64 v1, .int .i64 v2, .int .i64 v3, .int .i64 v4, .slice a n k] := bU X1
 clear X1
 obtain ⟨CV1, FV1, LV1⟩ := KV1.cfl
 have qm := qm dC; clear rm
 obtain hway | hway | hway | hway : (m = 0) ∨ (m = 1) ∨ (m = 2) ∨ m ≥ 3 := by omega
 ·
  obtain rfl := hway
  go_wp2_with fail
  refine wp_region_held_drew (S := fun w' => Upd w w' [g] ∧ Cur B w' g ∧ Blk w' w.heap.size 28 #[.int .i64 v0, .int .i64 v1, .int .i64 v2, .int .i64 v3, .int .i64 v4, .slice a n k]) (by kernel_rfl) (by (try dsimp only); exact ⟨(by exact updT), (by exact curT), bC⟩) (fun hHeld => ?_)
  refine wt 0 ?_
  (try simp only [redA, Act.put])
  refine wt 1 ?_
  (try simp only [redA, Act.put])
  refine wtq 2 (fun _ h => h.2.2.cell) ?_
  (try simp only [redA, Act.put])
  refine wt 3 ?_
  (try simp only [redA, Act.put])
  refine wr1 4 fun Kz hKz => ?_
  (try simp only [redA])
  go_simp
  go_at_call 16
  refine (l1From_c (cU B) (-1) 1 oM oM oM).mono ?_
  rintro e w2 ⟨_, rfl, X2, hc2, x, rfl, px, qx⟩
  have hz2 := X2.sz
  have E2 : Upd w w2 [g] := X2.up
  have KV2 := KV1.upv X2
  clear X2
  clear CV1 FV1 LV1
  obtain ⟨CV2, FV2, LV2⟩ := KV2.cfl
  refine hKz.o3 fun hHeld => ?_
  clear hKz Kz
  (try simp only [redA, Act.put])
  refine wt 5 ?_
  (try simp only [redA, Act.put])
  refine wr1 6 fun Kz hKz => ?_
  (try simp only [redA])
  go_simp
  refine hKz.o3 fun hHeld => ?_
  clear hKz Kz
  (try simp only [redA, Act.put])
  refine wpAnyH_done (by kernel_rfl) ?_ _
  go_wp2_with fail
  go_ret
  exact ⟨_, rfl, by exact updT, by exact curT, _, rfl⟩
 ·
  obtain rfl := hway
  go_wp2_with fail
  refine (l1Num_c (cU B) 1000000 oM oM).mono ?_
  rintro e w2 ⟨_, rfl, X2, hc2, u, rfl⟩
  have hz2 := X2.sz
  have E2 : Upd w w2 [g] := X2.up
  have KV2 := KV1.upv X2
  clear X2
  clear CV1 FV1 LV1
  obtain ⟨CV2, FV2, LV2⟩ := KV2.cfl
  go_wp2_with fail
  go_ret
  exact ⟨_, rfl, by exact updT, by exact curT, _, rfl⟩
 ·
  obtain rfl := hway
  go_wp2_with fail
  refine wp_region_held_drew (S := fun w' => Upd w w' [g] ∧ Cur B w' g ∧ Blk w' w.heap.size 28 #[.int .i64 v0, .int .i64 v1, .int .i64 v2, .int .i64 v3, .int .i64 v4, .slice a n k]) (by kernel_rfl) (by (try dsimp only); exact ⟨(by exact updT), (by exact curT), bC⟩) (fun hHeld => ?_)
  refine wt 0 ?_
  (try simp only [redA, Act.put])
  refine wt 1 ?_
  (try simp only [redA, Act.put])
  refine wtq 2 (fun _ h => h.2.2.cell) ?_
  (try simp only [redA, Act.put])
  refine wt 3 ?_
  (try simp only [redA, Act.put])
  refine wr1 4 fun Kz hKz => ?_
  (try simp only [redA])
  go_simp
  go_at_call 16
  refine (l1From_c (cU B) (-2) 9 oM oM oM).mono ?_
  rintro e w2 ⟨_, rfl, X2, hc2, x, rfl, px, qx⟩
  have hz2 := X2.sz
  have E2 : Upd w w2 [g] := X2.up
  have KV2 := KV1.upv X2
  clear X2
  clear CV1 FV1 LV1
  obtain ⟨CV2, FV2, LV2⟩ := KV2.cfl
  refine hKz.o3 fun hHeld => ?_
  clear hKz Kz
  (try simp only [redA, Act.put])
  refine wt 5 ?_
  (try simp only [redA, Act.put])
  refine wr1 6 fun Kz hKz => ?_
  (try simp only [redA])
  go_simp
  refine hKz.o3 fun hHeld => ?_
  clear hKz Kz
  (try simp only [redA, Act.put])
  refine wpAnyH_done (by kernel_rfl) ?_ _
  go_wp2_with fail
  go_ret
  exact ⟨_, rfl, by exact updT, by exact curT, _, rfl⟩
 have hb0 : (m == 0) = false := by simp; omega
 have hb1 : (m == 1) = false := by simp; omega
 have hb2 : (m == 2) = false := by simp; omega
 go_wp2_with fail
 refine (l1Below_c (cU B) 60).mono ?_
 rintro e w2 ⟨_, rfl, X2, hc2, u, rfl, pu, qu, ru⟩
 have hz2 := X2.sz
 have E2 : Upd w w2 [g] := X2.up
 have KV2 := KV1.upv X2
 clear X2
 clear CV1 FV1 LV1
 obtain ⟨CV2, FV2, LV2⟩ := KV2.cfl
 go_wp2_with fail
 go_ret
 exact ⟨_, rfl, by exact updT, by exact curT, _, rfl⟩
end Go.Proofs.YtfhaooaajpopmaaGreat
