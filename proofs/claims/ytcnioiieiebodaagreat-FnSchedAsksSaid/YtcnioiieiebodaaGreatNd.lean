/- Contracts and plain laws: OwR DG. -/
import Derived.Test.YtcnioiieiebodaaGreatMa
import Derived.Test.YtcnioiieiebodaaGreatMe
import Derived.Deep.DeepCutAuto
import Derived.Test.YtcnioiieiebodaaGreatMp
import Derived.Test.YtcnioiieiebodaaGreatMf
import Derived.Test.YtcnioiieiebodaaGreatMo
set_option linter.unusedSimpArgs false
set_option linter.unusedVariables false
-- What is owned stays owned where boxes of other types are written.
set_option linter.unusedSimpArgs false
set_option linter.unusedVariables false
namespace Go.Proofs.YtcnioiieiebodaaGreat
open Go.RowKit Go.G8

end Go.Proofs.YtcnioiieiebodaaGreat
namespace Go.G8
open Go.RowKit
theorem OwnI.boxQ {B : Nat} {e : TypeId} {n : Nat} {w : World} {v : Value} {xs : List Int} (h : OwnI B e n w v xs) {X : Nat} {t : TypeId} {a : Array Value} (hX : Blk w X t a) (h1 : t ≠ e) (i : Nat) (u : Value) : OwnI B e n (w.setCell ⟨X, i, none⟩ u) v xs :=
 OwnI.upd' h ((Upd.refl w [X]).setCell (by simp) _) (fun k hk hf => by
  obtain ⟨cur, hb⟩ := h.typed hk
  simp at hf; subst hf
  exact h1 (hX.same hb))
theorem OwnI.drewQ {B : Nat} {e : TypeId} {n : Nat} {w : World} {v : Value} {xs : List Int} (h : OwnI B e n w v xs) : OwnI B e n w.drew v xs := Own.ext h (Ext.drew (Ext.refl _))
theorem OwnI.drewNQ {B : Nat} {e : TypeId} {n : Nat} {w : World} {v : Value} {xs : List Int} (h : OwnI B e n w v xs) (k : Nat) : OwnI B e n (w.drewN k) v xs := Own.ext h (Ext.drewN (Ext.refl _) _)
theorem OwnI.allocQ {B : Nat} {e : TypeId} {n : Nat} {w : World} {v : Value} {xs : List Int} (h : OwnI B e n w v xs) (o : Obj) : OwnI B e n (w.alloc o) v xs := Own.ext h ((Ext.refl _).alloc _)
theorem OwnI.rowQ {B : Nat} {e : TypeId} {n : Nat} {w : World} {v : Value} {xs : List Int} (h : OwnI B e n w v xs) {X : Nat} {t : TypeId} {a : Array Value} (hX : Blk w X t a) (h1 : t ≠ e) (cs : Array Value) : OwnI B e n (w.setRow X cs) v xs :=
 OwnI.upd' h (fs := [X]) ⟨rfl, rfl, rfl, by rw [size_setRow]; exact Nat.le_refl _, fun k _ hn => heap_setRow_ne w cs (fun e => hn (by simp [e]))⟩ (fun k hk hf => by
  obtain ⟨cur, hb⟩ := h.typed hk
  simp at hf; subst hf
  exact h1 (hX.same hb))
theorem wp_append_own0 {P : Program} {w : World} {o : Oper} {a : Act} {K : Act → World → Prop} {Q : Exit → Act → World → Prop} (s x : Operand) (t : TypeId)
  (ho : o.op = .call { callee := .builtin .append, args := #[s, x], argTypes := #[t, t] })
  (e : TypeId) (i : TypeInfo) (z : Value) (size bytes : Nat) (ht : P.underlying t = some (.slice e)) (hi : P.info? e = some i) (hz : i.zero = some z)
  (hsize : i.size = size) (hby : i.bytes = bytes) (hzs : z.cells.size = size) (hsz : 0 < size)
  (B : Nat) (v : Value) (cs : List Value) (hs : a.eval s = v) (hown : Own B e size w v cs) (ad : Addr) (m c : Nat) (news : List Value) (hx : a.eval x = .slice (some ad) m c) (hl : news.length = m * size) (hnews : ∀ j u, news[j]? = some u → w.cell? (ad.add j) = some u) (h1 : ∀ u ∈ news, u.oneCell' = true) (hm : 0 < m)
  (n : Nat) (hlen : cs.length + news.length ≤ n * size) (hn : n ≤ maxLen) (hbytes : n * bytes ≤ 140737488355328) (hbase : B ≤ w.heap.size)
  (h : ∀ v' w', Own B e size w' v' (cs ++ news) → w.grownBy w' v.ownBlock → K (a.put o.dst v') w') : o.wp P a w K Q := by
 obtain ⟨len, ho'⟩ := hown
 have hl0 : cs.length = len * size := ho'.1
 have hle : len + m ≤ n := by
  have : (len + m) * size ≤ n * size := by rw [Nat.add_mul]; omega
  exact Nat.le_of_mul_le_mul_right this hsz
 exact wp_append_lies w s x t ho B e i z size bytes ht hi hz hsize hby hzs hsz v len cs hs ho' ad m c news hx hl hnews h1 hm (Nat.le_trans hle hn) (Nat.le_trans (Nat.mul_le_mul_right _ hle) hbytes) hbase _ rfl (fun g cap w' h2 h3 _ _ => h _ w' ⟨_, h2⟩ h3)
theorem ownR {B : Nat} {e : TypeId} {n : Nat} {w : World} {v : Value} {xs : List Int} (h : OwnI B e n w v xs := by ((repeat' (first | (with_reducible assumption) | (with_reducible refine OwnI.drewQ ?_) | (with_reducible refine OwnI.drewNQ ?_ _) | (with_reducible refine OwnI.allocQ ?_ _) | (with_reducible refine OwnI.boxQ ?_ blkT (by decide) _ _) | (with_reducible refine OwnI.rowQ ?_ blkT (by decide) _))); first | done | fail)) : OwnI B e n w v xs := h
end Go.G8
namespace Go.Proofs.YtcnioiieiebodaaGreat
open Go.RowKit Go.G8

end Go.Proofs.YtcnioiieiebodaaGreat

-- Draws of jobs' messages, views and times.
set_option linter.unusedSimpArgs false
set_option linter.unusedVariables false
namespace Go.Proofs.YtcnioiieiebodaaGreat
open Go.RowKit Go.G8

end Go.Proofs.YtcnioiieiebodaaGreat
namespace Go.G8
open Go.RowKit
theorem news_new (w : World) (e : TypeId) (cs : List Value) (j : Nat) (u : Value) (h : cs[j]? = some u) : (w.alloc (.cells cs.toArray e)).cell? (Addr.add ⟨w.heap.size, 0, none⟩ j) = some u := by
 have h1 := (Blk.new w e cs.toArray).cell j
 have h2 : Addr.add ⟨w.heap.size, 0, none⟩ j = ⟨w.heap.size, j, none⟩ := by unfold Addr.add; split <;> simp_all
 rw [h2, h1]; simpa using h
end Go.G8
namespace Go.Proofs.YtcnioiieiebodaaGreat
open Go.RowKit Go.G8
set_option maxHeartbeats 4000000 in
set_option maxRecDepth 100000 in
theorem l20DrawJobs_c {B : Nat} {w : World} {g : Nat} (h : Cur B w g) : Calls Tryz.prog 131 #[.pointer (some ⟨g, 0, none⟩)] w (Dr B w g fun v w' => ∃ j : DJobs, IsJobs w.heap.size w' v j ∧ j.Open.length ≤ 8) := by
 have hc0 := h; have E0 : Upd w w [g] := Upd.refl _ _
 have hg0 := h.lt
 go_enter Tryz.func131, Tryz.ntmps131
 go_wp2_with fail
 refine (l17Draw_c (show Cur B _ g from by exact curT)).mono ?_
 rintro e w1 ⟨_, rfl, X1, hc1, s, hs⟩
 have hz1 := X1.size; (try simp only [szA] at hz1)
 have E1 : Upd w w1 [g] := Upd.trans (by exact updT) X1
 have KR1 : Blk w1 w.heap.size 26 #[.int .i64 0, .int .i64 0, .int .i64 0, .int .i64 0, .int .i64 0, .slice none 0 0] := Blk.upd1 (Blk.cast (by exact blkT) (by first | rfl | simp)) X1 (by omega)
 clear X1
 have CR1 := KR1.cell; have FR1 := KR1.frozen; have LR1 := KR1.lt
 replace hs := hs.mono (B' := w.heap.size) (by first | omega | (simp only [szA]; omega))
 obtain ⟨t2, t3, rfl, h2, h3⟩ := hs
 obtain ⟨a2, n2, k2, rfl⟩ := h2.shape
 obtain ⟨a3, n3, k3, rfl⟩ := h3.shape
 have Op1 := h2; have Oj1 := h3; clear h2 h3
 go_wp2_with fail
 go_cut [5] (fun cx0 wx => ∃ gg : Nat, ∃ aq : Option Addr, ∃ nq : Nat, ∃ kq : Nat, cx0 = .pointer (some ⟨gg, 0, none⟩) ∧ w1.heap.size + 1 + 1 ≤ gg ∧ Blk wx gg 26 #[.int .i64 s.Index, .int .i64 s.Time, .int .i64 s.Lease.Holder, .int .i64 s.Lease.Epoch, .int .i64 s.Lease.Until, .slice aq nq kq] ∧ OwnI w.heap.size 100 2 wx (.slice aq nq kq) (dues (openD s.Jobs)) ∧ Upd w wx [g] ∧ Cur B wx g ∧ Blk wx w.heap.size 26 #[.int .i64 0, .int .i64 0, .int .i64 0, .int .i64 0, .int .i64 0, .slice none 0 0] ∧ Blk wx w1.heap.size 63 #[.int .i64 s.Index, .int .i64 s.Time, .slice a2 n2 k2, .slice a3 n3 k3, .int .i64 s.Lease.Holder, .int .i64 s.Lease.Epoch, .int .i64 s.Lease.Until] ∧ Blk wx (w1.heap.size + 1) 61 #[.int .i64 s.Lease.Holder, .int .i64 s.Lease.Epoch, .int .i64 s.Lease.Until] ∧ OwnI w.heap.size 157 2 wx (.slice a2 n2 k2) (flPair s.Pairs) ∧ OwnI w.heap.size 142 5 wx (.slice a3 n3 k3) (flJob s.Jobs))
 case first =>
  refine wp_region_held_drew (S := fun w' => Upd w w' [g] ∧ Cur B w' g ∧ Blk w' w1.heap.size 63 #[.int .i64 s.Index, .int .i64 s.Time, .slice a2 n2 k2, .slice a3 n3 k3, .int .i64 s.Lease.Holder, .int .i64 s.Lease.Epoch, .int .i64 s.Lease.Until] ∧ Blk w' (w1.heap.size + 1) 61 #[.int .i64 s.Lease.Holder, .int .i64 s.Lease.Epoch, .int .i64 s.Lease.Until]) (by kernel_rfl) (by (try dsimp only); exact ⟨(by exact updT), (by exact curT), (Blk.cast (by exact blkT) setsT), (Blk.cast (by exact blkT) setsT)⟩) (fun hHeld => ?_)
  refine wpAnyH_take (i := 0) (v := ?_) rfl (by kernel_rfl) (by kernel_rfl) (by kernel_rfl) (fun _ _ _ h => h) (Or.inl ⟨by rfl, ?_⟩) (by assumption) ?_
  rotate_left
  focus (intro w hSw; (try dsimp only at hSw); go_simp <;> with_reducible rfl)
  (try simp only [redA, Act.put])
  refine wpAnyH_take (i := 1) (v := ?_) rfl (by kernel_rfl) (by kernel_rfl) (by kernel_rfl) (fun _ _ _ h => h) (Or.inl ⟨by rfl, ?_⟩) (by assumption) ?_
  rotate_left
  focus (intro w hSw; (try dsimp only at hSw); have hq := hSw.2.2.1.cell; go_simp <;> with_reducible rfl)
  (try simp only [redA, Act.put])
  refine wpAnyH_take (i := 2) (v := ?_) rfl (by kernel_rfl) (by kernel_rfl) (by kernel_rfl) (fun _ _ _ h => h) (Or.inl ⟨by rfl, ?_⟩) (by assumption) ?_
  rotate_left
  focus (intro w hSw; (try dsimp only at hSw); go_simp <;> with_reducible rfl)
  (try simp only [redA, Act.put])
  refine wpAnyH_take (i := 3) (v := ?_) rfl (by kernel_rfl) (by kernel_rfl) (by kernel_rfl) (fun _ _ _ h => h) (Or.inl ⟨by rfl, ?_⟩) (by assumption) ?_
  rotate_left
  focus (intro w hSw; (try dsimp only at hSw); have hq := hSw.2.2.1.cell; go_simp <;> with_reducible rfl)
  (try simp only [redA, Act.put])
  refine wpAnyH_take (i := 4) (v := ?_) rfl (by kernel_rfl) (by kernel_rfl) (by kernel_rfl) (fun _ _ _ h => h) (Or.inl ⟨by rfl, ?_⟩) (by assumption) ?_
  rotate_left
  focus (intro w hSw; (try dsimp only at hSw); go_simp <;> with_reducible rfl)
  (try simp only [redA, Act.put])
  refine wpAnyH_take (i := 5) (v := ?_) rfl (by kernel_rfl) (by kernel_rfl) (by kernel_rfl) (fun _ _ _ h => h) (Or.inl ⟨by rfl, ?_⟩) (by assumption) ?_
  rotate_left
  focus (intro w hSw; (try dsimp only at hSw); have hq := hSw.2.2.2.cell; go_simp <;> with_reducible rfl)
  (try simp only [redA, Act.put])
  refine wpAnyH_take (i := 6) (v := ?_) rfl (by kernel_rfl) (by kernel_rfl) (by kernel_rfl) (fun _ _ _ h => h) (Or.inl ⟨by rfl, ?_⟩) (by assumption) ?_
  rotate_left
  focus (intro w hSw; (try dsimp only at hSw); go_simp <;> with_reducible rfl)
  (try simp only [redA, Act.put])
  refine wpAnyH_take (i := 7) (v := ?_) rfl (by kernel_rfl) (by kernel_rfl) (by kernel_rfl) (fun _ _ _ h => h) (Or.inl ⟨by rfl, ?_⟩) (by assumption) ?_
  rotate_left
  focus (intro w hSw; (try dsimp only at hSw); have hq := hSw.2.2.2.cell; go_simp <;> with_reducible rfl)
  (try simp only [redA, Act.put])
  refine wpAnyH_take (i := 8) (v := ?_) rfl (by kernel_rfl) (by kernel_rfl) (by kernel_rfl) (fun _ _ _ h => h) (Or.inl ⟨by rfl, ?_⟩) (by assumption) ?_
  rotate_left
  focus (intro w hSw; (try dsimp only at hSw); go_simp <;> with_reducible rfl)
  (try simp only [redA, Act.put])
  refine wpAnyH_take (i := 9) (v := ?_) rfl (by kernel_rfl) (by kernel_rfl) (by kernel_rfl) (fun _ _ _ h => h) (Or.inl ⟨by rfl, ?_⟩) (by assumption) ?_
  rotate_left
  focus (intro w hSw; (try dsimp only at hSw); have hq := hSw.2.2.2.cell; go_simp <;> with_reducible rfl)
  (try simp only [redA, Act.put])
  refine wpAnyH_take (i := 10) (v := ?_) rfl (by kernel_rfl) (by kernel_rfl) (by kernel_rfl) (fun _ _ _ h => h) (Or.inl ⟨by rfl, ?_⟩) (by assumption) ?_
  rotate_left
  focus (intro w hSw; (try dsimp only at hSw); go_simp <;> with_reducible rfl)
  (try simp only [redA, Act.put])
  refine wpAnyH_take (i := 11) (v := ?_) rfl (by kernel_rfl) (by kernel_rfl) (by kernel_rfl) (fun _ _ _ h => h) (Or.inl ⟨by rfl, ?_⟩) (by assumption) ?_
  rotate_left
  focus (intro w hSw; (try dsimp only at hSw); have hq := hSw.2.2.1.cell; go_simp <;> with_reducible rfl)
  (try simp only [redA, Act.put])
  refine wpAnyH_ready (rs := [12, 14]) (by kernel_rfl) (by simp) ?_
  refine AllReadyH.cons rfl (fun Kz hKz => ?_) (AllReadyH.cons rfl (fun Kz hKz => ?_) AllReadyH.nil)
  ·
   skip
   (try simp only [redA])
   go_simp
   go_at_call 133
   refine (sOpenJobs_k _ _ s.Jobs (OwnI.ints (show OwnI w.heap.size 142 5 _ (.slice a3 n3 k3) (flJob s.Jobs) from by exact ownT))).mono ?_
   rintro e w2 ⟨_, rfl, hx2, HQ⟩
   have hz2 := hx2.size; (try simp only [szA] at hz2)
   have E2 : Upd w w2 [g] := Upd.ext (by exact updT) hx2
   have hc2 : Cur B w2 g := Cur.ext (by exact curT) hx2
   have KR2 : Blk w2 w.heap.size 26 #[.int .i64 0, .int .i64 0, .int .i64 0, .int .i64 0, .int .i64 0, .slice none 0 0] := Blk.ext (Blk.cast (by exact blkT) (by first | rfl | simp)) hx2
   have KS2 : Blk w2 w1.heap.size 63 #[.int .i64 s.Index, .int .i64 s.Time, .slice a2 n2 k2, .slice a3 n3 k3, .int .i64 s.Lease.Holder, .int .i64 s.Lease.Epoch, .int .i64 s.Lease.Until] := Blk.ext (Blk.cast (by exact blkT) (by first | rfl | simp)) hx2
   have KL2 : Blk w2 (w1.heap.size + 1) 61 #[.int .i64 s.Lease.Holder, .int .i64 s.Lease.Epoch, .int .i64 s.Lease.Until] := Blk.ext (Blk.cast (by exact blkT) (by first | rfl | simp)) hx2
   have Op2 : OwnI w.heap.size 157 2 w2 (.slice a2 n2 k2) (flPair s.Pairs) := OwnI.ext1 (by exact ownR) hx2
   have Oj2 : OwnI w.heap.size 142 5 w2 (.slice a3 n3 k3) (flJob s.Jobs) := OwnI.ext1 (by exact ownR) hx2
   clear hx2
   clear CR1 FR1 LR1
   have CR2 := KR2.cell; have FR2 := KR2.frozen; have LR2 := KR2.lt
   have CS2 := KS2.cell; have FS2 := KS2.frozen; have LS2 := KS2.lt
   have CL2 := KL2.cell; have FL2 := KL2.frozen; have LL2 := KL2.lt
   obtain ⟨aq, nq, kq, rfl⟩ := HQ.shape
   have Oq2 : OwnI w.heap.size 100 2 w2 (.slice aq nq kq) (dues (openD s.Jobs)) := OwnI.mono HQ (by first | omega | (simp only [szA]; omega))
   clear HQ
   refine hKz.out _ _ (by (try dsimp only); exact ⟨(by exact updT), (by exact curT), (Blk.cast (by exact blkT) setsT), (Blk.cast (by exact blkT) setsT)⟩) (fun hHeld => ?_)
   clear hKz Kz
   (try simp only [redA, Act.put])
   refine wpAnyH_take (i := 13) (v := ?_) rfl (by kernel_rfl) (by kernel_rfl) (by kernel_rfl) (fun _ _ _ h => h) (Or.inl ⟨by rfl, ?_⟩) (by assumption) ?_
   rotate_left
   focus (intro w hSw; (try dsimp only at hSw); go_simp <;> with_reducible rfl)
   (try simp only [redA, Act.put])
   refine wpAnyH_ready (rs := [14]) (by kernel_rfl) (by simp) ?_
   refine AllReadyH.cons rfl (fun Kz hKz => ?_) AllReadyH.nil
   (try simp only [redA])
   go_simp
   refine hKz.out _ _ (by (try dsimp only); exact ⟨(by exact updT), (by exact curT), (Blk.cast (by exact blkT) setsT), (Blk.cast (by exact blkT) setsT)⟩) (fun hHeld => ?_)
   clear hKz Kz
   (try simp only [redA, Act.put])
   refine wpAnyH_ready (rs := [15]) (by kernel_rfl) (by simp) ?_
   refine AllReadyH.cons rfl (fun Kz hKz => ?_) AllReadyH.nil
   (try simp only [redA])
   go_simp
   refine hKz.out _ _ (by (try dsimp only); exact ⟨(by exact updT), (by exact curT), (Blk.cast (by exact blkT) setsT), (Blk.cast (by exact blkT) setsT)⟩) (fun hHeld => ?_)
   clear hKz Kz
   (try simp only [redA, Act.put])
   refine wpAnyH_done (by kernel_rfl) ?_ _
   go_wp2_with fail
   go_meet
   case rel => exact ⟨_, _, _, _, (by first | rfl | trivial), (by first | omega | (simp only [World.size_alloc, size_drew]; omega)), (Blk.cast (by exact blkT) setsT), (by exact ownR), (by exact updT), (by exact curT), (Blk.cast (by exact blkT) setsT), (Blk.cast (by exact blkT) setsT), (Blk.cast (by exact blkT) setsT), (by exact ownR), (by exact ownR)⟩
  ·
   skip
   (try simp only [redA])
   go_simp
   refine hKz.out _ _ (by (try dsimp only); exact ⟨(by exact updT), (by exact curT), (Blk.cast (by exact blkT) setsT), (Blk.cast (by exact blkT) setsT)⟩) (fun hHeld => ?_)
   clear hKz Kz
   (try simp only [redA, Act.put])
   refine wpAnyH_ready (rs := [12]) (by kernel_rfl) (by simp) ?_
   refine AllReadyH.cons rfl (fun Kz hKz => ?_) AllReadyH.nil
   (try simp only [redA])
   go_simp
   go_at_call 133
   refine (sOpenJobs_k _ _ s.Jobs (OwnI.ints (show OwnI w.heap.size 142 5 _ (.slice a3 n3 k3) (flJob s.Jobs) from by exact ownT))).mono ?_
   rintro e w2 ⟨_, rfl, hx2, HQ⟩
   have hz2 := hx2.size; (try simp only [szA] at hz2)
   have E2 : Upd w w2 [g] := Upd.ext (by exact updT) hx2
   have hc2 : Cur B w2 g := Cur.ext (by exact curT) hx2
   have KR2 : Blk w2 w.heap.size 26 #[.int .i64 0, .int .i64 0, .int .i64 0, .int .i64 0, .int .i64 0, .slice none 0 0] := Blk.ext (Blk.cast (by exact blkT) (by first | rfl | simp)) hx2
   have KS2 : Blk w2 w1.heap.size 63 #[.int .i64 s.Index, .int .i64 s.Time, .slice a2 n2 k2, .slice a3 n3 k3, .int .i64 s.Lease.Holder, .int .i64 s.Lease.Epoch, .int .i64 s.Lease.Until] := Blk.ext (Blk.cast (by exact blkT) (by first | rfl | simp)) hx2
   have KL2 : Blk w2 (w1.heap.size + 1) 61 #[.int .i64 s.Lease.Holder, .int .i64 s.Lease.Epoch, .int .i64 s.Lease.Until] := Blk.ext (Blk.cast (by exact blkT) (by first | rfl | simp)) hx2
   have KJ2 : Blk w2 (w1.heap.size + 1 + 1) 26 #[.int .i64 0, .int .i64 0, .int .i64 0, .int .i64 0, .int .i64 0, .slice none 0 0] := Blk.ext (Blk.cast (by exact blkT) (by first | rfl | simp)) hx2
   have Op2 : OwnI w.heap.size 157 2 w2 (.slice a2 n2 k2) (flPair s.Pairs) := OwnI.ext1 (by exact ownR) hx2
   have Oj2 : OwnI w.heap.size 142 5 w2 (.slice a3 n3 k3) (flJob s.Jobs) := OwnI.ext1 (by exact ownR) hx2
   clear hx2
   clear CR1 FR1 LR1
   have CR2 := KR2.cell; have FR2 := KR2.frozen; have LR2 := KR2.lt
   have CS2 := KS2.cell; have FS2 := KS2.frozen; have LS2 := KS2.lt
   have CL2 := KL2.cell; have FL2 := KL2.frozen; have LL2 := KL2.lt
   have CJ2 := KJ2.cell; have FJ2 := KJ2.frozen; have LJ2 := KJ2.lt
   obtain ⟨aq, nq, kq, rfl⟩ := HQ.shape
   have Oq2 : OwnI w.heap.size 100 2 w2 (.slice aq nq kq) (dues (openD s.Jobs)) := OwnI.mono HQ (by first | omega | (simp only [szA]; omega))
   clear HQ
   refine hKz.out _ _ (by (try dsimp only); exact ⟨(by exact updT), (by exact curT), (Blk.cast (by exact blkT) setsT), (Blk.cast (by exact blkT) setsT)⟩) (fun hHeld => ?_)
   clear hKz Kz
   (try simp only [redA, Act.put])
   refine wpAnyH_take (i := 13) (v := ?_) rfl (by kernel_rfl) (by kernel_rfl) (by kernel_rfl) (fun _ _ _ h => h) (Or.inl ⟨by rfl, ?_⟩) (by assumption) ?_
   rotate_left
   focus (intro w hSw; (try dsimp only at hSw); go_simp <;> with_reducible rfl)
   (try simp only [redA, Act.put])
   refine wpAnyH_ready (rs := [15]) (by kernel_rfl) (by simp) ?_
   refine AllReadyH.cons rfl (fun Kz hKz => ?_) AllReadyH.nil
   (try simp only [redA])
   go_simp
   refine hKz.out _ _ (by (try dsimp only); exact ⟨(by exact updT), (by exact curT), (Blk.cast (by exact blkT) setsT), (Blk.cast (by exact blkT) setsT)⟩) (fun hHeld => ?_)
   clear hKz Kz
   (try simp only [redA, Act.put])
   refine wpAnyH_done (by kernel_rfl) ?_ _
   go_wp2_with fail
   go_meet
   case rel => exact ⟨_, _, _, _, (by first | rfl | trivial), (by first | omega | (simp only [World.size_alloc, size_drew]; omega)), (Blk.cast (by exact blkT) setsT), (by exact ownR), (by exact updT), (by exact curT), (Blk.cast (by exact blkT) setsT), (Blk.cast (by exact blkT) setsT), (Blk.cast (by exact blkT) setsT), (by exact ownR), (by exact ownR)⟩
 case rest =>
  revert wc; intro w2 hcut
  obtain ⟨gg, aq, nq, kq, rfl, hgg, KJ2, Oq2, E2, hc2, KR2, KS2, KL2, Op2, Oj2⟩ := hcut
  have hz2 := E2.size
  clear CR1 FR1 LR1
  have CR2 := KR2.cell; have FR2 := KR2.frozen; have LR2 := KR2.lt
  have CS2 := KS2.cell; have FS2 := KS2.frozen; have LS2 := KS2.lt
  have CL2 := KL2.cell; have FL2 := KL2.frozen; have LL2 := KL2.lt
  have CJ2 := KJ2.cell; have FJ2 := KJ2.frozen; have LJ2 := KJ2.lt
  clear Op2 Oj2
  have hl8 := openD_len s.Jobs
  go_wp2_with fail
  refine (l1Once_c (show Cur B _ g from by exact curT) 3).mono ?_
  rintro e w3 ⟨_, rfl, X3, hc3, b1, rfl⟩
  have hz3 := X3.size; (try simp only [szA] at hz3)
  have E3 : Upd w w3 [g] := Upd.trans (by exact updT) X3
  have KR3 : Blk w3 w.heap.size 26 #[.int .i64 0, .int .i64 0, .int .i64 0, .int .i64 0, .int .i64 0, .slice none 0 0] := Blk.upd1 (Blk.cast (by exact blkT) (by first | rfl | simp)) X3 (by omega)
  have KS3 : Blk w3 w1.heap.size 63 #[.int .i64 s.Index, .int .i64 s.Time, .slice a2 n2 k2, .slice a3 n3 k3, .int .i64 s.Lease.Holder, .int .i64 s.Lease.Epoch, .int .i64 s.Lease.Until] := Blk.upd1 (Blk.cast (by exact blkT) (by first | rfl | simp)) X3 (by omega)
  have KL3 : Blk w3 (w1.heap.size + 1) 61 #[.int .i64 s.Lease.Holder, .int .i64 s.Lease.Epoch, .int .i64 s.Lease.Until] := Blk.upd1 (Blk.cast (by exact blkT) (by first | rfl | simp)) X3 (by omega)
  have KJ3 : Blk w3 gg 26 #[.int .i64 s.Index, .int .i64 s.Time, .int .i64 s.Lease.Holder, .int .i64 s.Lease.Epoch, .int .i64 s.Lease.Until, .slice aq nq kq] := Blk.upd1 (Blk.cast (by exact blkT) (by first | rfl | simp)) X3 (by omega)
  have Oq3 : OwnI w.heap.size 100 2 w3 (.slice aq nq kq) (dues (openD s.Jobs)) := OwnI.drawn (by exact ownR) X3 (by omega)
  clear X3
  clear CR2 FR2 LR2 CS2 FS2 LS2 CL2 FL2 LL2 CJ2 FJ2 LJ2
  have CR3 := KR3.cell; have FR3 := KR3.frozen; have LR3 := KR3.lt
  have CS3 := KS3.cell; have FS3 := KS3.frozen; have LS3 := KS3.lt
  have CL3 := KL3.cell; have FL3 := KL3.frozen; have LL3 := KL3.lt
  have CJ3 := KJ3.cell; have FJ3 := KJ3.frozen; have LJ3 := KJ3.lt
  cases b1
  rotate_left
  ·
   skip
   go_wp2_with fail
   refine (l16Draw_c (show Cur B _ g from by exact curT)).mono ?_
   rintro e w4 ⟨_, rfl, X4, hc4, lx, ly, lz, rfl⟩
   have hz4 := X4.size; (try simp only [szA] at hz4)
   have E4 : Upd w w4 [g] := Upd.trans (by exact updT) X4
   have KR4 : Blk w4 w.heap.size 26 #[.int .i64 0, .int .i64 0, .int .i64 0, .int .i64 0, .int .i64 0, .slice none 0 0] := Blk.upd1 (Blk.cast (by exact blkT) (by first | rfl | simp)) X4 (by omega)
   have KS4 : Blk w4 w1.heap.size 63 #[.int .i64 s.Index, .int .i64 s.Time, .slice a2 n2 k2, .slice a3 n3 k3, .int .i64 s.Lease.Holder, .int .i64 s.Lease.Epoch, .int .i64 s.Lease.Until] := Blk.upd1 (Blk.cast (by exact blkT) (by first | rfl | simp)) X4 (by omega)
   have KL4 : Blk w4 (w1.heap.size + 1) 61 #[.int .i64 s.Lease.Holder, .int .i64 s.Lease.Epoch, .int .i64 s.Lease.Until] := Blk.upd1 (Blk.cast (by exact blkT) (by first | rfl | simp)) X4 (by omega)
   have KJ4 : Blk w4 gg 26 #[.int .i64 s.Index, .int .i64 s.Time, .int .i64 s.Lease.Holder, .int .i64 s.Lease.Epoch, .int .i64 s.Lease.Until, .slice aq nq kq] := Blk.upd1 (Blk.cast (by exact blkT) (by first | rfl | simp)) X4 (by omega)
   have Oq4 : OwnI w.heap.size 100 2 w4 (.slice aq nq kq) (dues (openD s.Jobs)) := OwnI.drawn (by exact ownR) X4 (by omega)
   clear X4
   clear CR3 FR3 LR3 CS3 FS3 LS3 CL3 FL3 LL3 CJ3 FJ3 LJ3
   have CR4 := KR4.cell; have FR4 := KR4.frozen; have LR4 := KR4.lt
   have CS4 := KS4.cell; have FS4 := KS4.frozen; have LS4 := KS4.lt
   have CL4 := KL4.cell; have FL4 := KL4.frozen; have LL4 := KL4.lt
   have CJ4 := KJ4.cell; have FJ4 := KJ4.frozen; have LJ4 := KJ4.lt
   go_wp2_with fail
   refine bodyPost_ret (by simp [results, Tryz.results131, go_sem, CR4, FR4, LR4, CS4, FS4, LS4, CL4, FL4, LL4, CJ4, FJ4, LJ4]; try rfl) rfl ?_
   exact ⟨_, rfl, by exact updT, by exact curT, _, IsJobs.mk (x5 := openD s.Jobs) (OwnI.mono (show OwnI w.heap.size 100 2 _ (.slice aq nq kq) (dues (openD s.Jobs)) from by exact ownR) (by omega)), by simp only []; omega⟩
  ·
   skip
   go_wp2_with fail
   refine bodyPost_ret (by simp [results, Tryz.results131, go_sem, CR3, FR3, LR3, CS3, FS3, LS3, CL3, FL3, LL3, CJ3, FJ3, LJ3]; try rfl) rfl ?_
   exact ⟨_, rfl, by exact updT, by exact curT, _, IsJobs.mk (x5 := openD s.Jobs) (OwnI.mono (show OwnI w.heap.size 100 2 _ (.slice aq nq kq) (dues (openD s.Jobs)) from by exact ownR) (by omega)), by simp only []; omega⟩
set_option maxHeartbeats 4000000 in
set_option maxRecDepth 100000 in
theorem l20DrawAnyJobs_c {B : Nat} {w : World} {g : Nat} (h : Cur B w g) : Calls Tryz.prog 132 #[.pointer (some ⟨g, 0, none⟩)] w (Dr B w g fun v w' => ∃ j : DJobs, IsJobs w.heap.size w' v j ∧ j.Open.length ≤ 9) := by
 obtain ⟨i0, hi, hy0, hy1, hy2⟩ := info_parts info_Due
 have hc0 := h; have E0 : Upd w w [g] := Upd.refl _ _
 have hg0 := h.lt
 go_enter Tryz.func132, Tryz.ntmps132
 go_wp2_with fail
 refine (l20DrawJobs_c (show Cur B _ g from by exact curT)).mono ?_
 rintro e w1 ⟨_, rfl, X1, hc1, j, hj, hl⟩
 have hz1 := X1.size; (try simp only [szA] at hz1)
 have E1 : Upd w w1 [g] := Upd.trans (by exact updT) X1
 have KR1 : Blk w1 w.heap.size 26 #[.int .i64 0, .int .i64 0, .int .i64 0, .int .i64 0, .int .i64 0, .slice none 0 0] := Blk.upd1 (Blk.cast (by exact blkT) (by first | rfl | simp)) X1 (by omega)
 clear X1
 have CR1 := KR1.cell; have FR1 := KR1.frozen; have LR1 := KR1.lt
 obtain ⟨tq, rfl, HQ⟩ := hj
 obtain ⟨aq, nq, kq, rfl⟩ := HQ.shape
 have Oq1 : OwnI w.heap.size 100 2 w1 (.slice aq nq kq) (dues j.Open) := OwnI.mono HQ (by first | omega | (simp only [szA]; omega))
 clear HQ
 go_wp2_with fail
 refine (l1Once_c (show Cur B _ g from by exact curT) 6).mono ?_
 rintro e w2 ⟨_, rfl, X2, hc2, b1, rfl⟩
 have hz2 := X2.size; (try simp only [szA] at hz2)
 have E2 : Upd w w2 [g] := Upd.trans (by exact updT) X2
 have KR2 : Blk w2 w.heap.size 26 #[.int .i64 0, .int .i64 0, .int .i64 0, .int .i64 0, .int .i64 0, .slice none 0 0] := Blk.upd1 (Blk.cast (by exact blkT) (by first | rfl | simp)) X2 (by omega)
 have KJ2 : Blk w2 w1.heap.size 26 #[.int .i64 j.Index, .int .i64 j.Time, .int .i64 j.Holder, .int .i64 j.Epoch, .int .i64 j.Until, .slice aq nq kq] := Blk.upd1 (Blk.cast (by exact blkT) (by first | rfl | simp)) X2 (by omega)
 have Oq2 : OwnI w.heap.size 100 2 w2 (.slice aq nq kq) (dues j.Open) := OwnI.drawn (by exact ownR) X2 (by omega)
 clear X2
 clear CR1 FR1 LR1
 have CR2 := KR2.cell; have FR2 := KR2.frozen; have LR2 := KR2.lt
 have CJ2 := KJ2.cell; have FJ2 := KJ2.frozen; have LJ2 := KJ2.lt
 cases b1
 rotate_left
 ·
  skip
  go_wp2_with fail
  refine (l1Below_c (show Cur B _ g from by exact curT) 6).mono ?_
  rintro e w3 ⟨_, rfl, X3, hc3, m, rfl, pm, qm, rm⟩
  have hz3 := X3.size; (try simp only [szA] at hz3)
  have E3 : Upd w w3 [g] := Upd.trans (by exact updT) X3
  have KR3 : Blk w3 w.heap.size 26 #[.int .i64 0, .int .i64 0, .int .i64 0, .int .i64 0, .int .i64 0, .slice none 0 0] := Blk.upd1 (Blk.cast (by exact blkT) (by first | rfl | simp)) X3 (by omega)
  have KJ3 : Blk w3 w1.heap.size 26 #[.int .i64 j.Index, .int .i64 j.Time, .int .i64 j.Holder, .int .i64 j.Epoch, .int .i64 j.Until, .slice aq nq kq] := Blk.upd1 (Blk.cast (by exact blkT) (by first | rfl | simp)) X3 (by omega)
  have Oq3 : OwnI w.heap.size 100 2 w3 (.slice aq nq kq) (dues j.Open) := OwnI.drawn (by exact ownR) X3 (by omega)
  clear X3
  clear CR2 FR2 LR2 CJ2 FJ2 LJ2
  have CR3 := KR3.cell; have FR3 := KR3.frozen; have LR3 := KR3.lt
  have CJ3 := KJ3.cell; have FJ3 := KJ3.frozen; have LJ3 := KJ3.lt
  have qm := qm (by decide); clear rm
  obtain rfl | rfl | rfl | rfl | rfl | rfl : m = 0 ∨ m = 1 ∨ m = 2 ∨ m = 3 ∨ m = 4 ∨ m = 5 := by omega
  ·
   skip
   go_wp2_with fail
   refine (l1Below_c (show Cur B _ g from by exact curT) 4).mono ?_
   rintro e w4 ⟨_, rfl, X4, hc4, ui, rfl, pu, qu, ru⟩
   have hz4 := X4.size; (try simp only [szA] at hz4)
   have E4 : Upd w w4 [g] := Upd.trans (by exact updT) X4
   have KR4 : Blk w4 w.heap.size 26 #[.int .i64 0, .int .i64 0, .int .i64 0, .int .i64 0, .int .i64 0, .slice none 0 0] := Blk.upd1 (Blk.cast (by exact blkT) (by first | rfl | simp)) X4 (by omega)
   have KJ4 : Blk w4 w1.heap.size 26 #[.int .i64 j.Index, .int .i64 j.Time, .int .i64 j.Holder, .int .i64 j.Epoch, .int .i64 j.Until, .slice aq nq kq] := Blk.upd1 (Blk.cast (by exact blkT) (by first | rfl | simp)) X4 (by omega)
   have KPk4 : Blk w4 w3.heap.size 2 #[.int .i64 (-1), .int .i64 0, .int .i64 2000, .int .i64 2001] := Blk.upd1 (Blk.cast (by exact blkT) (by first | rfl | simp)) X4 (by omega)
   have Oq4 : OwnI w.heap.size 100 2 w4 (.slice aq nq kq) (dues j.Open) := OwnI.drawn (by exact ownR) X4 (by omega)
   clear X4
   clear CR3 FR3 LR3 CJ3 FJ3 LJ3
   have CR4 := KR4.cell; have FR4 := KR4.frozen; have LR4 := KR4.lt
   have CJ4 := KJ4.cell; have FJ4 := KJ4.frozen; have LJ4 := KJ4.lt
   have CPk4 := KPk4.cell; have FPk4 := KPk4.frozen; have LPk4 := KPk4.lt
   have qu := qu (by decide); clear ru
   obtain ⟨u, hu⟩ : ∃ u : Int, w4.cell? ⟨w3.heap.size, ui.toNat, none⟩ = some (.int .i64 u) := by
    rw [KPk4.cell]
    have : ui.toNat < 4 := by omega
    exact pick_int [-1, 0, 2000, 2001] this
   clear CPk4
   go_wp2_with fail
   refine bodyPost_ret (by simp [results, Tryz.results132, go_sem, CR4, FR4, LR4, CJ4, FJ4, LJ4, FPk4, LPk4, hu]; try rfl) rfl ?_
   exact ⟨_, rfl, by exact updT, by exact curT, _, IsJobs.mk (x5 := j.Open) (OwnI.mono (show OwnI w.heap.size 100 2 _ (.slice aq nq kq) (dues j.Open) from by exact ownR) (by omega)), by (try simp only [List.length_append, List.length_cons, List.length_nil]); omega⟩
  ·
   skip
   go_wp2_with fail
   refine (l1Below_c (show Cur B _ g from by exact curT) 3).mono ?_
   rintro e w4 ⟨_, rfl, X4, hc4, ui, rfl, pu, qu, ru⟩
   have hz4 := X4.size; (try simp only [szA] at hz4)
   have E4 : Upd w w4 [g] := Upd.trans (by exact updT) X4
   have KR4 : Blk w4 w.heap.size 26 #[.int .i64 0, .int .i64 0, .int .i64 0, .int .i64 0, .int .i64 0, .slice none 0 0] := Blk.upd1 (Blk.cast (by exact blkT) (by first | rfl | simp)) X4 (by omega)
   have KJ4 : Blk w4 w1.heap.size 26 #[.int .i64 j.Index, .int .i64 j.Time, .int .i64 j.Holder, .int .i64 j.Epoch, .int .i64 j.Until, .slice aq nq kq] := Blk.upd1 (Blk.cast (by exact blkT) (by first | rfl | simp)) X4 (by omega)
   have KPk4 : Blk w4 w3.heap.size 2 #[.int .i64 (-1), .int .i64 1000000, .int .i64 1000001] := Blk.upd1 (Blk.cast (by exact blkT) (by first | rfl | simp)) X4 (by omega)
   have Oq4 : OwnI w.heap.size 100 2 w4 (.slice aq nq kq) (dues j.Open) := OwnI.drawn (by exact ownR) X4 (by omega)
   clear X4
   clear CR3 FR3 LR3 CJ3 FJ3 LJ3
   have CR4 := KR4.cell; have FR4 := KR4.frozen; have LR4 := KR4.lt
   have CJ4 := KJ4.cell; have FJ4 := KJ4.frozen; have LJ4 := KJ4.lt
   have CPk4 := KPk4.cell; have FPk4 := KPk4.frozen; have LPk4 := KPk4.lt
   have qu := qu (by decide); clear ru
   obtain ⟨u, hu⟩ : ∃ u : Int, w4.cell? ⟨w3.heap.size, ui.toNat, none⟩ = some (.int .i64 u) := by
    rw [KPk4.cell]
    have : ui.toNat < 3 := by omega
    exact pick_int [-1, 1000000, 1000001] this
   clear CPk4
   go_wp2_with fail
   refine bodyPost_ret (by simp [results, Tryz.results132, go_sem, CR4, FR4, LR4, CJ4, FJ4, LJ4, FPk4, LPk4, hu]; try rfl) rfl ?_
   exact ⟨_, rfl, by exact updT, by exact curT, _, IsJobs.mk (x5 := j.Open) (OwnI.mono (show OwnI w.heap.size 100 2 _ (.slice aq nq kq) (dues j.Open) from by exact ownR) (by omega)), by (try simp only [List.length_append, List.length_cons, List.length_nil]); omega⟩
  ·
   skip
   go_wp2_with fail
   refine (l1Num_c (show Cur B _ g from by exact curT) 5 (by omega) (by omega)).mono ?_
   rintro e w4 ⟨_, rfl, X4, hc4, u, rfl⟩
   have hz4 := X4.size; (try simp only [szA] at hz4)
   have E4 : Upd w w4 [g] := Upd.trans (by exact updT) X4
   have KR4 : Blk w4 w.heap.size 26 #[.int .i64 0, .int .i64 0, .int .i64 0, .int .i64 0, .int .i64 0, .slice none 0 0] := Blk.upd1 (Blk.cast (by exact blkT) (by first | rfl | simp)) X4 (by omega)
   have KJ4 : Blk w4 w1.heap.size 26 #[.int .i64 j.Index, .int .i64 j.Time, .int .i64 j.Holder, .int .i64 j.Epoch, .int .i64 j.Until, .slice aq nq kq] := Blk.upd1 (Blk.cast (by exact blkT) (by first | rfl | simp)) X4 (by omega)
   have Oq4 : OwnI w.heap.size 100 2 w4 (.slice aq nq kq) (dues j.Open) := OwnI.drawn (by exact ownR) X4 (by omega)
   clear X4
   clear CR3 FR3 LR3 CJ3 FJ3 LJ3
   have CR4 := KR4.cell; have FR4 := KR4.frozen; have LR4 := KR4.lt
   have CJ4 := KJ4.cell; have FJ4 := KJ4.frozen; have LJ4 := KJ4.lt
   go_wp2_with fail
   refine bodyPost_ret (by simp [results, Tryz.results132, go_sem, CR4, FR4, LR4, CJ4, FJ4, LJ4]; try rfl) rfl ?_
   exact ⟨_, rfl, by exact updT, by exact curT, _, IsJobs.mk (x5 := j.Open) (OwnI.mono (show OwnI w.heap.size 100 2 _ (.slice aq nq kq) (dues j.Open) from by exact ownR) (by omega)), by (try simp only [List.length_append, List.length_cons, List.length_nil]); omega⟩
  ·
   skip
   go_wp2_with fail
   refine (l1Below_c (show Cur B _ g from by exact curT) 4).mono ?_
   rintro e w4 ⟨_, rfl, X4, hc4, ui, rfl, pu, qu, ru⟩
   have hz4 := X4.size; (try simp only [szA] at hz4)
   have E4 : Upd w w4 [g] := Upd.trans (by exact updT) X4
   have KR4 : Blk w4 w.heap.size 26 #[.int .i64 0, .int .i64 0, .int .i64 0, .int .i64 0, .int .i64 0, .slice none 0 0] := Blk.upd1 (Blk.cast (by exact blkT) (by first | rfl | simp)) X4 (by omega)
   have KJ4 : Blk w4 w1.heap.size 26 #[.int .i64 j.Index, .int .i64 j.Time, .int .i64 j.Holder, .int .i64 j.Epoch, .int .i64 j.Until, .slice aq nq kq] := Blk.upd1 (Blk.cast (by exact blkT) (by first | rfl | simp)) X4 (by omega)
   have KPk4 : Blk w4 w3.heap.size 2 #[.int .i64 (-1), .int .i64 0, .int .i64 1000, .int .i64 1001] := Blk.upd1 (Blk.cast (by exact blkT) (by first | rfl | simp)) X4 (by omega)
   have Oq4 : OwnI w.heap.size 100 2 w4 (.slice aq nq kq) (dues j.Open) := OwnI.drawn (by exact ownR) X4 (by omega)
   clear X4
   clear CR3 FR3 LR3 CJ3 FJ3 LJ3
   have CR4 := KR4.cell; have FR4 := KR4.frozen; have LR4 := KR4.lt
   have CJ4 := KJ4.cell; have FJ4 := KJ4.frozen; have LJ4 := KJ4.lt
   have CPk4 := KPk4.cell; have FPk4 := KPk4.frozen; have LPk4 := KPk4.lt
   have qu := qu (by decide); clear ru
   obtain ⟨u, hu⟩ : ∃ u : Int, w4.cell? ⟨w3.heap.size, ui.toNat, none⟩ = some (.int .i64 u) := by
    rw [KPk4.cell]
    have : ui.toNat < 4 := by omega
    exact pick_int [-1, 0, 1000, 1001] this
   clear CPk4
   go_wp2_with fail
   refine bodyPost_ret (by simp [results, Tryz.results132, go_sem, CR4, FR4, LR4, CJ4, FJ4, LJ4, FPk4, LPk4, hu]; try rfl) rfl ?_
   exact ⟨_, rfl, by exact updT, by exact curT, _, IsJobs.mk (x5 := j.Open) (OwnI.mono (show OwnI w.heap.size 100 2 _ (.slice aq nq kq) (dues j.Open) from by exact ownR) (by omega)), by (try simp only [List.length_append, List.length_cons, List.length_nil]); omega⟩
  ·
   skip
   go_wp2_with fail
   refine (l1Below_c (show Cur B _ g from by exact curT) 4).mono ?_
   rintro e w4 ⟨_, rfl, X4, hc4, ui, rfl, pu, qu, ru⟩
   have hz4 := X4.size; (try simp only [szA] at hz4)
   have E4 : Upd w w4 [g] := Upd.trans (by exact updT) X4
   have KR4 : Blk w4 w.heap.size 26 #[.int .i64 0, .int .i64 0, .int .i64 0, .int .i64 0, .int .i64 0, .slice none 0 0] := Blk.upd1 (Blk.cast (by exact blkT) (by first | rfl | simp)) X4 (by omega)
   have KJ4 : Blk w4 w1.heap.size 26 #[.int .i64 j.Index, .int .i64 j.Time, .int .i64 j.Holder, .int .i64 j.Epoch, .int .i64 j.Until, .slice aq nq kq] := Blk.upd1 (Blk.cast (by exact blkT) (by first | rfl | simp)) X4 (by omega)
   have KPk4 : Blk w4 w3.heap.size 2 #[.int .i64 (-1), .int .i64 0, .int .i64 1001000, .int .i64 1001001] := Blk.upd1 (Blk.cast (by exact blkT) (by first | rfl | simp)) X4 (by omega)
   have Oq4 : OwnI w.heap.size 100 2 w4 (.slice aq nq kq) (dues j.Open) := OwnI.drawn (by exact ownR) X4 (by omega)
   clear X4
   clear CR3 FR3 LR3 CJ3 FJ3 LJ3
   have CR4 := KR4.cell; have FR4 := KR4.frozen; have LR4 := KR4.lt
   have CJ4 := KJ4.cell; have FJ4 := KJ4.frozen; have LJ4 := KJ4.lt
   have CPk4 := KPk4.cell; have FPk4 := KPk4.frozen; have LPk4 := KPk4.lt
   have qu := qu (by decide); clear ru
   obtain ⟨u, hu⟩ : ∃ u : Int, w4.cell? ⟨w3.heap.size, ui.toNat, none⟩ = some (.int .i64 u) := by
    rw [KPk4.cell]
    have : ui.toNat < 4 := by omega
    exact pick_int [-1, 0, 1001000, 1001001] this
   clear CPk4
   go_wp2_with fail
   refine bodyPost_ret (by simp [results, Tryz.results132, go_sem, CR4, FR4, LR4, CJ4, FJ4, LJ4, FPk4, LPk4, hu]; try rfl) rfl ?_
   exact ⟨_, rfl, by exact updT, by exact curT, _, IsJobs.mk (x5 := j.Open) (OwnI.mono (show OwnI w.heap.size 100 2 _ (.slice aq nq kq) (dues j.Open) from by exact ownR) (by omega)), by (try simp only [List.length_append, List.length_cons, List.length_nil]); omega⟩
  ·
   skip
   go_wp2_with fail
   refine wp_region_held_drew (S := fun w' => Upd w w' [g] ∧ Cur B w' g) (by kernel_rfl) (by (try dsimp only); exact ⟨(by exact updT), (by exact curT)⟩) (fun hHeld => ?_)
   refine wpAnyH_take (i := 0) (v := ?_) rfl (by kernel_rfl) (by kernel_rfl) (by kernel_rfl) (fun _ _ _ h => h) (Or.inl ⟨by rfl, ?_⟩) (by assumption) ?_
   rotate_left
   focus (intro w hSw; (try dsimp only at hSw); go_simp <;> with_reducible rfl)
   (try simp only [redA, Act.put])
   refine wpAnyH_take (i := 2) (v := ?_) rfl (by kernel_rfl) (by kernel_rfl) (by kernel_rfl) (fun _ _ _ h => h) (Or.inl ⟨by rfl, ?_⟩) (by assumption) ?_
   rotate_left
   focus (intro w hSw; (try dsimp only at hSw); go_simp <;> with_reducible rfl)
   (try simp only [redA, Act.put])
   refine wpAnyH_take (i := 4) (v := ?_) rfl (by kernel_rfl) (by kernel_rfl) (by kernel_rfl) (fun _ _ _ h => h) (Or.inl ⟨by rfl, ?_⟩) (by assumption) ?_
   rotate_left
   focus (intro w hSw; (try dsimp only at hSw); go_simp <;> with_reducible rfl)
   (try simp only [redA, Act.put])
   refine wpAnyH_ready (rs := [1, 3]) (by kernel_rfl) (by simp) ?_
   refine AllReadyH.cons rfl (fun Kz hKz => ?_) (AllReadyH.cons rfl (fun Kz hKz => ?_) AllReadyH.nil)
   ·
    skip
    (try simp only [redA])
    go_simp
    refine hKz.out _ _ (by (try dsimp only); exact ⟨(by exact updT), (by exact curT)⟩) (fun hHeld => ?_)
    clear hKz Kz
    (try simp only [redA, Act.put])
    refine wpAnyH_ready (rs := [3]) (by kernel_rfl) (by simp) ?_
    refine AllReadyH.cons rfl (fun Kz hKz => ?_) AllReadyH.nil
    (try simp only [redA])
    go_simp
    go_at_call 31
    refine (l1Num_c (show Cur B _ g from by exact curT) 21 (by omega) (by omega)).mono ?_
    rintro e w4 ⟨_, rfl, X4, hc4, ux, rfl⟩
    have hz4 := X4.size; (try simp only [szA] at hz4)
    have E4 : Upd w w4 [g] := Upd.trans (by exact updT) X4
    have KR4 : Blk w4 w.heap.size 26 #[.int .i64 0, .int .i64 0, .int .i64 0, .int .i64 0, .int .i64 0, .slice none 0 0] := Blk.upd1 (Blk.cast (by exact blkT) (by first | rfl | simp)) X4 (by omega)
    have KJ4 : Blk w4 w1.heap.size 26 #[.int .i64 j.Index, .int .i64 j.Time, .int .i64 j.Holder, .int .i64 j.Epoch, .int .i64 j.Until, .slice aq nq kq] := Blk.upd1 (Blk.cast (by exact blkT) (by first | rfl | simp)) X4 (by omega)
    have Oq4 : OwnI w.heap.size 100 2 w4 (.slice aq nq kq) (dues j.Open) := OwnI.drawn (by exact ownR) X4 (by omega)
    clear X4
    clear CR3 FR3 LR3 CJ3 FJ3 LJ3
    have CR4 := KR4.cell; have FR4 := KR4.frozen; have LR4 := KR4.lt
    have CJ4 := KJ4.cell; have FJ4 := KJ4.frozen; have LJ4 := KJ4.lt
    refine hKz.out _ _ (by (try dsimp only); exact ⟨(by exact updT), (by exact curT)⟩) (fun hHeld => ?_)
    clear hKz Kz
    (try simp only [redA, Act.put])
    refine wpAnyH_ready (rs := [5]) (by kernel_rfl) (by simp) ?_
    refine AllReadyH.cons rfl (fun Kz hKz => ?_) AllReadyH.nil
    (try simp only [redA])
    go_simp
    go_at_call 31
    refine (l1Num_c (show Cur B _ g from by exact curT) 40 (by omega) (by omega)).mono ?_
    rintro e w5 ⟨_, rfl, X5, hc5, uy, rfl⟩
    have hz5 := X5.size; (try simp only [szA] at hz5)
    have E5 : Upd w w5 [g] := Upd.trans (by exact updT) X5
    have KR5 : Blk w5 w.heap.size 26 #[.int .i64 0, .int .i64 0, .int .i64 0, .int .i64 0, .int .i64 0, .slice none 0 0] := Blk.upd1 (Blk.cast (by exact blkT) (by first | rfl | simp)) X5 (by omega)
    have KJ5 : Blk w5 w1.heap.size 26 #[.int .i64 j.Index, .int .i64 j.Time, .int .i64 j.Holder, .int .i64 j.Epoch, .int .i64 j.Until, .slice aq nq kq] := Blk.upd1 (Blk.cast (by exact blkT) (by first | rfl | simp)) X5 (by omega)
    have Oq5 : OwnI w.heap.size 100 2 w5 (.slice aq nq kq) (dues j.Open) := OwnI.drawn (by exact ownR) X5 (by omega)
    clear X5
    clear CR4 FR4 LR4 CJ4 FJ4 LJ4
    have CR5 := KR5.cell; have FR5 := KR5.frozen; have LR5 := KR5.lt
    have CJ5 := KJ5.cell; have FJ5 := KJ5.frozen; have LJ5 := KJ5.lt
    refine hKz.out _ _ (by (try dsimp only); exact ⟨(by exact updT), (by exact curT)⟩) (fun hHeld => ?_)
    clear hKz Kz
    (try simp only [redA, Act.put])
    refine wpAnyH_take (i := 6) (v := ?_) rfl (by kernel_rfl) (by kernel_rfl) (by kernel_rfl) (fun _ _ _ h => h) (Or.inl ⟨by rfl, ?_⟩) (by assumption) ?_
    rotate_left
    focus (intro w hSw; (try dsimp only at hSw); go_simp <;> with_reducible rfl)
    (try simp only [redA, Act.put])
    refine wpAnyH_ready (rs := [7]) (by kernel_rfl) (by simp) ?_
    refine AllReadyH.cons rfl (fun Kz hKz => ?_) AllReadyH.nil
    (try simp only [redA])
    go_simp
    refine hKz.out _ _ (by (try dsimp only); exact ⟨(by exact updT), (by exact curT)⟩) (fun hHeld => ?_)
    clear hKz Kz
    (try simp only [redA, Act.put])
    refine wpAnyH_ready (rs := [8]) (by kernel_rfl) (by simp) ?_
    refine AllReadyH.cons rfl (fun Kz hKz => ?_) AllReadyH.nil
    (try simp only [redA])
    have OO : OwnI w.heap.size 100 2 (w5.alloc (.cells #[.int .i64 ux, .int .i64 uy] 100)) (.slice aq nq kq) (dues j.Open) := OwnI.ext1 (by exact ownR) ((Ext.refl _).alloc _)
    rw [if_pos (by rfl)]; refine wp_append_own0 (.tmp 50) (.tmp 56) 24 (by rfl) 100 i0 _ 2 16 Tryz.underlying24 hi hy0 hy1 hy2 rfl (by decide) w.heap.size _ _ (by rfl) OO ⟨w5.heap.size, 0, none⟩ 1 1 [.int .i64 ux, .int .i64 uy] (by rfl) rfl (news_new w5 100 [.int .i64 ux, .int .i64 uy]) (by intro u hu; simp at hu; rcases hu with rfl | rfl <;> rfl) (by omega) 1000 (by simp only [List.length_map, length_dues, List.length_cons, List.length_nil]; omega) (by unfold maxLen; omega) (by omega) (by simp only [World.size_alloc]; omega) ?_; intro vv w6 On hga
    have hz6 := hga.size; (try simp only [World.size_alloc] at hz6)
    have E6 : Upd w w6 [g] := Upd.app (by exact updT) OO (.inr (by omega)) hga
    have hc6 : Cur B w6 g := Cur.app (by exact curT) OO (by omega) hga
    have KR6 : Blk w6 w.heap.size 26 #[.int .i64 0, .int .i64 0, .int .i64 0, .int .i64 0, .int .i64 0, .slice none 0 0] := Blk.app (Blk.cast (by exact blkT) setsT) OO (by decide) hga
    have KJ6 : Blk w6 w1.heap.size 26 #[.int .i64 j.Index, .int .i64 j.Time, .int .i64 j.Holder, .int .i64 j.Epoch, .int .i64 j.Until, .slice aq nq kq] := Blk.app (Blk.cast (by exact blkT) setsT) OO (by decide) hga
    have Ov : OwnI w.heap.size 100 2 w6 vv (dues (j.Open ++ [⟨ux, uy⟩])) := by unfold OwnI; rw [dues_append, List.map_append]; exact On
    clear On OO hga
    clear CR5 FR5 LR5 CJ5 FJ5 LJ5
    have CR6 := KR6.cell; have FR6 := KR6.frozen; have LR6 := KR6.lt
    have CJ6 := KJ6.cell; have FJ6 := KJ6.frozen; have LJ6 := KJ6.lt
    obtain ⟨av, nv, kv, rfl⟩ := Ov.shape
    have Oq6 : OwnI w.heap.size 100 2 w6 (.slice av nv kv) (dues (j.Open ++ [⟨ux, uy⟩])) := OwnI.mono Ov (by first | omega | (simp only [szA]; omega))
    clear Ov
    refine hKz.out _ _ (by (try dsimp only); exact ⟨(by exact updT), (by exact curT)⟩) (fun hHeld => ?_)
    clear hKz Kz
    (try simp only [redA, Act.put])
    refine wpAnyH_take (i := 9) (v := ?_) rfl (by kernel_rfl) (by kernel_rfl) (by kernel_rfl) (fun _ _ _ h => h) (Or.inl ⟨by rfl, ?_⟩) (by assumption) ?_
    rotate_left
    focus (intro w hSw; (try dsimp only at hSw); go_simp <;> with_reducible rfl)
    (try simp only [redA, Act.put])
    refine wpAnyH_ready (rs := [10]) (by kernel_rfl) (by simp) ?_
    refine AllReadyH.cons rfl (fun Kz hKz => ?_) AllReadyH.nil
    (try simp only [redA])
    go_simp
    refine hKz.out _ _ (by (try dsimp only); exact ⟨(by exact updT), (by exact curT)⟩) (fun hHeld => ?_)
    clear hKz Kz
    (try simp only [redA, Act.put])
    refine wpAnyH_done (by kernel_rfl) ?_ _
    go_wp2_with fail
    refine bodyPost_ret (by simp [results, Tryz.results132, go_sem, CR6, FR6, LR6, CJ6, FJ6, LJ6]; try rfl) rfl ?_
    exact ⟨_, rfl, by exact updT, by exact curT, _, IsJobs.mk (x5 := (j.Open ++ [⟨ux, uy⟩])) (OwnI.mono (show OwnI w.heap.size 100 2 _ (.slice av nv kv) (dues (j.Open ++ [⟨ux, uy⟩])) from by exact ownR) (by omega)), by (try simp only [List.length_append, List.length_cons, List.length_nil]); omega⟩
   ·
    skip
    (try simp only [redA])
    go_simp
    go_at_call 31
    refine (l1Num_c (show Cur B _ g from by exact curT) 21 (by omega) (by omega)).mono ?_
    rintro e w4 ⟨_, rfl, X4, hc4, ux, rfl⟩
    have hz4 := X4.size; (try simp only [szA] at hz4)
    have E4 : Upd w w4 [g] := Upd.trans (by exact updT) X4
    have KR4 : Blk w4 w.heap.size 26 #[.int .i64 0, .int .i64 0, .int .i64 0, .int .i64 0, .int .i64 0, .slice none 0 0] := Blk.upd1 (Blk.cast (by exact blkT) (by first | rfl | simp)) X4 (by omega)
    have KJ4 : Blk w4 w1.heap.size 26 #[.int .i64 j.Index, .int .i64 j.Time, .int .i64 j.Holder, .int .i64 j.Epoch, .int .i64 j.Until, .slice aq nq kq] := Blk.upd1 (Blk.cast (by exact blkT) (by first | rfl | simp)) X4 (by omega)
    have Oq4 : OwnI w.heap.size 100 2 w4 (.slice aq nq kq) (dues j.Open) := OwnI.drawn (by exact ownR) X4 (by omega)
    clear X4
    clear CR3 FR3 LR3 CJ3 FJ3 LJ3
    have CR4 := KR4.cell; have FR4 := KR4.frozen; have LR4 := KR4.lt
    have CJ4 := KJ4.cell; have FJ4 := KJ4.frozen; have LJ4 := KJ4.lt
    refine hKz.out _ _ (by (try dsimp only); exact ⟨(by exact updT), (by exact curT)⟩) (fun hHeld => ?_)
    clear hKz Kz
    (try simp only [redA, Act.put])
    refine wpAnyH_ready (rs := [1, 5]) (by kernel_rfl) (by simp) ?_
    refine AllReadyH.cons rfl (fun Kz hKz => ?_) (AllReadyH.cons rfl (fun Kz hKz => ?_) AllReadyH.nil)
    ·
     skip
     (try simp only [redA])
     go_simp
     refine hKz.out _ _ (by (try dsimp only); exact ⟨(by exact updT), (by exact curT)⟩) (fun hHeld => ?_)
     clear hKz Kz
     (try simp only [redA, Act.put])
     refine wpAnyH_ready (rs := [5]) (by kernel_rfl) (by simp) ?_
     refine AllReadyH.cons rfl (fun Kz hKz => ?_) AllReadyH.nil
     (try simp only [redA])
     go_simp
     go_at_call 31
     refine (l1Num_c (show Cur B _ g from by exact curT) 40 (by omega) (by omega)).mono ?_
     rintro e w5 ⟨_, rfl, X5, hc5, uy, rfl⟩
     have hz5 := X5.size; (try simp only [szA] at hz5)
     have E5 : Upd w w5 [g] := Upd.trans (by exact updT) X5
     have KR5 : Blk w5 w.heap.size 26 #[.int .i64 0, .int .i64 0, .int .i64 0, .int .i64 0, .int .i64 0, .slice none 0 0] := Blk.upd1 (Blk.cast (by exact blkT) (by first | rfl | simp)) X5 (by omega)
     have KJ5 : Blk w5 w1.heap.size 26 #[.int .i64 j.Index, .int .i64 j.Time, .int .i64 j.Holder, .int .i64 j.Epoch, .int .i64 j.Until, .slice aq nq kq] := Blk.upd1 (Blk.cast (by exact blkT) (by first | rfl | simp)) X5 (by omega)
     have Oq5 : OwnI w.heap.size 100 2 w5 (.slice aq nq kq) (dues j.Open) := OwnI.drawn (by exact ownR) X5 (by omega)
     clear X5
     clear CR4 FR4 LR4 CJ4 FJ4 LJ4
     have CR5 := KR5.cell; have FR5 := KR5.frozen; have LR5 := KR5.lt
     have CJ5 := KJ5.cell; have FJ5 := KJ5.frozen; have LJ5 := KJ5.lt
     refine hKz.out _ _ (by (try dsimp only); exact ⟨(by exact updT), (by exact curT)⟩) (fun hHeld => ?_)
     clear hKz Kz
     (try simp only [redA, Act.put])
     refine wpAnyH_take (i := 6) (v := ?_) rfl (by kernel_rfl) (by kernel_rfl) (by kernel_rfl) (fun _ _ _ h => h) (Or.inl ⟨by rfl, ?_⟩) (by assumption) ?_
     rotate_left
     focus (intro w hSw; (try dsimp only at hSw); go_simp <;> with_reducible rfl)
     (try simp only [redA, Act.put])
     refine wpAnyH_ready (rs := [7]) (by kernel_rfl) (by simp) ?_
     refine AllReadyH.cons rfl (fun Kz hKz => ?_) AllReadyH.nil
     (try simp only [redA])
     go_simp
     refine hKz.out _ _ (by (try dsimp only); exact ⟨(by exact updT), (by exact curT)⟩) (fun hHeld => ?_)
     clear hKz Kz
     (try simp only [redA, Act.put])
     refine wpAnyH_ready (rs := [8]) (by kernel_rfl) (by simp) ?_
     refine AllReadyH.cons rfl (fun Kz hKz => ?_) AllReadyH.nil
     (try simp only [redA])
     have OO : OwnI w.heap.size 100 2 (w5.alloc (.cells #[.int .i64 ux, .int .i64 uy] 100)) (.slice aq nq kq) (dues j.Open) := OwnI.ext1 (by exact ownR) ((Ext.refl _).alloc _)
     rw [if_pos (by rfl)]; refine wp_append_own0 (.tmp 50) (.tmp 56) 24 (by rfl) 100 i0 _ 2 16 Tryz.underlying24 hi hy0 hy1 hy2 rfl (by decide) w.heap.size _ _ (by rfl) OO ⟨w5.heap.size, 0, none⟩ 1 1 [.int .i64 ux, .int .i64 uy] (by rfl) rfl (news_new w5 100 [.int .i64 ux, .int .i64 uy]) (by intro u hu; simp at hu; rcases hu with rfl | rfl <;> rfl) (by omega) 1000 (by simp only [List.length_map, length_dues, List.length_cons, List.length_nil]; omega) (by unfold maxLen; omega) (by omega) (by simp only [World.size_alloc]; omega) ?_; intro vv w6 On hga
     have hz6 := hga.size; (try simp only [World.size_alloc] at hz6)
     have E6 : Upd w w6 [g] := Upd.app (by exact updT) OO (.inr (by omega)) hga
     have hc6 : Cur B w6 g := Cur.app (by exact curT) OO (by omega) hga
     have KR6 : Blk w6 w.heap.size 26 #[.int .i64 0, .int .i64 0, .int .i64 0, .int .i64 0, .int .i64 0, .slice none 0 0] := Blk.app (Blk.cast (by exact blkT) setsT) OO (by decide) hga
     have KJ6 : Blk w6 w1.heap.size 26 #[.int .i64 j.Index, .int .i64 j.Time, .int .i64 j.Holder, .int .i64 j.Epoch, .int .i64 j.Until, .slice aq nq kq] := Blk.app (Blk.cast (by exact blkT) setsT) OO (by decide) hga
     have Ov : OwnI w.heap.size 100 2 w6 vv (dues (j.Open ++ [⟨ux, uy⟩])) := by unfold OwnI; rw [dues_append, List.map_append]; exact On
     clear On OO hga
     clear CR5 FR5 LR5 CJ5 FJ5 LJ5
     have CR6 := KR6.cell; have FR6 := KR6.frozen; have LR6 := KR6.lt
     have CJ6 := KJ6.cell; have FJ6 := KJ6.frozen; have LJ6 := KJ6.lt
     obtain ⟨av, nv, kv, rfl⟩ := Ov.shape
     have Oq6 : OwnI w.heap.size 100 2 w6 (.slice av nv kv) (dues (j.Open ++ [⟨ux, uy⟩])) := OwnI.mono Ov (by first | omega | (simp only [szA]; omega))
     clear Ov
     refine hKz.out _ _ (by (try dsimp only); exact ⟨(by exact updT), (by exact curT)⟩) (fun hHeld => ?_)
     clear hKz Kz
     (try simp only [redA, Act.put])
     refine wpAnyH_take (i := 9) (v := ?_) rfl (by kernel_rfl) (by kernel_rfl) (by kernel_rfl) (fun _ _ _ h => h) (Or.inl ⟨by rfl, ?_⟩) (by assumption) ?_
     rotate_left
     focus (intro w hSw; (try dsimp only at hSw); go_simp <;> with_reducible rfl)
     (try simp only [redA, Act.put])
     refine wpAnyH_ready (rs := [10]) (by kernel_rfl) (by simp) ?_
     refine AllReadyH.cons rfl (fun Kz hKz => ?_) AllReadyH.nil
     (try simp only [redA])
     go_simp
     refine hKz.out _ _ (by (try dsimp only); exact ⟨(by exact updT), (by exact curT)⟩) (fun hHeld => ?_)
     clear hKz Kz
     (try simp only [redA, Act.put])
     refine wpAnyH_done (by kernel_rfl) ?_ _
     go_wp2_with fail
     refine bodyPost_ret (by simp [results, Tryz.results132, go_sem, CR6, FR6, LR6, CJ6, FJ6, LJ6]; try rfl) rfl ?_
     exact ⟨_, rfl, by exact updT, by exact curT, _, IsJobs.mk (x5 := (j.Open ++ [⟨ux, uy⟩])) (OwnI.mono (show OwnI w.heap.size 100 2 _ (.slice av nv kv) (dues (j.Open ++ [⟨ux, uy⟩])) from by exact ownR) (by omega)), by (try simp only [List.length_append, List.length_cons, List.length_nil]); omega⟩
    ·
     skip
     (try simp only [redA])
     go_simp
     go_at_call 31
     refine (l1Num_c (show Cur B _ g from by exact curT) 40 (by omega) (by omega)).mono ?_
     rintro e w5 ⟨_, rfl, X5, hc5, uy, rfl⟩
     have hz5 := X5.size; (try simp only [szA] at hz5)
     have E5 : Upd w w5 [g] := Upd.trans (by exact updT) X5
     have KR5 : Blk w5 w.heap.size 26 #[.int .i64 0, .int .i64 0, .int .i64 0, .int .i64 0, .int .i64 0, .slice none 0 0] := Blk.upd1 (Blk.cast (by exact blkT) (by first | rfl | simp)) X5 (by omega)
     have KJ5 : Blk w5 w1.heap.size 26 #[.int .i64 j.Index, .int .i64 j.Time, .int .i64 j.Holder, .int .i64 j.Epoch, .int .i64 j.Until, .slice aq nq kq] := Blk.upd1 (Blk.cast (by exact blkT) (by first | rfl | simp)) X5 (by omega)
     have Oq5 : OwnI w.heap.size 100 2 w5 (.slice aq nq kq) (dues j.Open) := OwnI.drawn (by exact ownR) X5 (by omega)
     clear X5
     clear CR4 FR4 LR4 CJ4 FJ4 LJ4
     have CR5 := KR5.cell; have FR5 := KR5.frozen; have LR5 := KR5.lt
     have CJ5 := KJ5.cell; have FJ5 := KJ5.frozen; have LJ5 := KJ5.lt
     refine hKz.out _ _ (by (try dsimp only); exact ⟨(by exact updT), (by exact curT)⟩) (fun hHeld => ?_)
     clear hKz Kz
     (try simp only [redA, Act.put])
     refine wpAnyH_take (i := 6) (v := ?_) rfl (by kernel_rfl) (by kernel_rfl) (by kernel_rfl) (fun _ _ _ h => h) (Or.inl ⟨by rfl, ?_⟩) (by assumption) ?_
     rotate_left
     focus (intro w hSw; (try dsimp only at hSw); go_simp <;> with_reducible rfl)
     (try simp only [redA, Act.put])
     refine wpAnyH_ready (rs := [1, 7]) (by kernel_rfl) (by simp) ?_
     refine AllReadyH.cons rfl (fun Kz hKz => ?_) (AllReadyH.cons rfl (fun Kz hKz => ?_) AllReadyH.nil)
     ·
      skip
      (try simp only [redA])
      go_simp
      refine hKz.out _ _ (by (try dsimp only); exact ⟨(by exact updT), (by exact curT)⟩) (fun hHeld => ?_)
      clear hKz Kz
      (try simp only [redA, Act.put])
      refine wpAnyH_ready (rs := [7]) (by kernel_rfl) (by simp) ?_
      refine AllReadyH.cons rfl (fun Kz hKz => ?_) AllReadyH.nil
      (try simp only [redA])
      go_simp
      refine hKz.out _ _ (by (try dsimp only); exact ⟨(by exact updT), (by exact curT)⟩) (fun hHeld => ?_)
      clear hKz Kz
      (try simp only [redA, Act.put])
      refine wpAnyH_ready (rs := [8]) (by kernel_rfl) (by simp) ?_
      refine AllReadyH.cons rfl (fun Kz hKz => ?_) AllReadyH.nil
      (try simp only [redA])
      have OO : OwnI w.heap.size 100 2 (w5.alloc (.cells #[.int .i64 ux, .int .i64 uy] 100)) (.slice aq nq kq) (dues j.Open) := OwnI.ext1 (by exact ownR) ((Ext.refl _).alloc _)
      rw [if_pos (by rfl)]; refine wp_append_own0 (.tmp 50) (.tmp 56) 24 (by rfl) 100 i0 _ 2 16 Tryz.underlying24 hi hy0 hy1 hy2 rfl (by decide) w.heap.size _ _ (by rfl) OO ⟨w5.heap.size, 0, none⟩ 1 1 [.int .i64 ux, .int .i64 uy] (by rfl) rfl (news_new w5 100 [.int .i64 ux, .int .i64 uy]) (by intro u hu; simp at hu; rcases hu with rfl | rfl <;> rfl) (by omega) 1000 (by simp only [List.length_map, length_dues, List.length_cons, List.length_nil]; omega) (by unfold maxLen; omega) (by omega) (by simp only [World.size_alloc]; omega) ?_; intro vv w6 On hga
      have hz6 := hga.size; (try simp only [World.size_alloc] at hz6)
      have E6 : Upd w w6 [g] := Upd.app (by exact updT) OO (.inr (by omega)) hga
      have hc6 : Cur B w6 g := Cur.app (by exact curT) OO (by omega) hga
      have KR6 : Blk w6 w.heap.size 26 #[.int .i64 0, .int .i64 0, .int .i64 0, .int .i64 0, .int .i64 0, .slice none 0 0] := Blk.app (Blk.cast (by exact blkT) setsT) OO (by decide) hga
      have KJ6 : Blk w6 w1.heap.size 26 #[.int .i64 j.Index, .int .i64 j.Time, .int .i64 j.Holder, .int .i64 j.Epoch, .int .i64 j.Until, .slice aq nq kq] := Blk.app (Blk.cast (by exact blkT) setsT) OO (by decide) hga
      have Ov : OwnI w.heap.size 100 2 w6 vv (dues (j.Open ++ [⟨ux, uy⟩])) := by unfold OwnI; rw [dues_append, List.map_append]; exact On
      clear On OO hga
      clear CR5 FR5 LR5 CJ5 FJ5 LJ5
      have CR6 := KR6.cell; have FR6 := KR6.frozen; have LR6 := KR6.lt
      have CJ6 := KJ6.cell; have FJ6 := KJ6.frozen; have LJ6 := KJ6.lt
      obtain ⟨av, nv, kv, rfl⟩ := Ov.shape
      have Oq6 : OwnI w.heap.size 100 2 w6 (.slice av nv kv) (dues (j.Open ++ [⟨ux, uy⟩])) := OwnI.mono Ov (by first | omega | (simp only [szA]; omega))
      clear Ov
      refine hKz.out _ _ (by (try dsimp only); exact ⟨(by exact updT), (by exact curT)⟩) (fun hHeld => ?_)
      clear hKz Kz
      (try simp only [redA, Act.put])
      refine wpAnyH_take (i := 9) (v := ?_) rfl (by kernel_rfl) (by kernel_rfl) (by kernel_rfl) (fun _ _ _ h => h) (Or.inl ⟨by rfl, ?_⟩) (by assumption) ?_
      rotate_left
      focus (intro w hSw; (try dsimp only at hSw); go_simp <;> with_reducible rfl)
      (try simp only [redA, Act.put])
      refine wpAnyH_ready (rs := [10]) (by kernel_rfl) (by simp) ?_
      refine AllReadyH.cons rfl (fun Kz hKz => ?_) AllReadyH.nil
      (try simp only [redA])
      go_simp
      refine hKz.out _ _ (by (try dsimp only); exact ⟨(by exact updT), (by exact curT)⟩) (fun hHeld => ?_)
      clear hKz Kz
      (try simp only [redA, Act.put])
      refine wpAnyH_done (by kernel_rfl) ?_ _
      go_wp2_with fail
      refine bodyPost_ret (by simp [results, Tryz.results132, go_sem, CR6, FR6, LR6, CJ6, FJ6, LJ6]; try rfl) rfl ?_
      exact ⟨_, rfl, by exact updT, by exact curT, _, IsJobs.mk (x5 := (j.Open ++ [⟨ux, uy⟩])) (OwnI.mono (show OwnI w.heap.size 100 2 _ (.slice av nv kv) (dues (j.Open ++ [⟨ux, uy⟩])) from by exact ownR) (by omega)), by (try simp only [List.length_append, List.length_cons, List.length_nil]); omega⟩
     ·
      skip
      (try simp only [redA])
      go_simp
      refine hKz.out _ _ (by (try dsimp only); exact ⟨(by exact updT), (by exact curT)⟩) (fun hHeld => ?_)
      clear hKz Kz
      (try simp only [redA, Act.put])
      refine wpAnyH_ready (rs := [1]) (by kernel_rfl) (by simp) ?_
      refine AllReadyH.cons rfl (fun Kz hKz => ?_) AllReadyH.nil
      (try simp only [redA])
      go_simp
      refine hKz.out _ _ (by (try dsimp only); exact ⟨(by exact updT), (by exact curT)⟩) (fun hHeld => ?_)
      clear hKz Kz
      (try simp only [redA, Act.put])
      refine wpAnyH_ready (rs := [8]) (by kernel_rfl) (by simp) ?_
      refine AllReadyH.cons rfl (fun Kz hKz => ?_) AllReadyH.nil
      (try simp only [redA])
      have OO : OwnI w.heap.size 100 2 (w5.alloc (.cells #[.int .i64 ux, .int .i64 uy] 100)) (.slice aq nq kq) (dues j.Open) := OwnI.ext1 (by exact ownR) ((Ext.refl _).alloc _)
      rw [if_pos (by rfl)]; refine wp_append_own0 (.tmp 50) (.tmp 56) 24 (by rfl) 100 i0 _ 2 16 Tryz.underlying24 hi hy0 hy1 hy2 rfl (by decide) w.heap.size _ _ (by rfl) OO ⟨w5.heap.size, 0, none⟩ 1 1 [.int .i64 ux, .int .i64 uy] (by rfl) rfl (news_new w5 100 [.int .i64 ux, .int .i64 uy]) (by intro u hu; simp at hu; rcases hu with rfl | rfl <;> rfl) (by omega) 1000 (by simp only [List.length_map, length_dues, List.length_cons, List.length_nil]; omega) (by unfold maxLen; omega) (by omega) (by simp only [World.size_alloc]; omega) ?_; intro vv w6 On hga
      have hz6 := hga.size; (try simp only [World.size_alloc] at hz6)
      have E6 : Upd w w6 [g] := Upd.app (by exact updT) OO (.inr (by omega)) hga
      have hc6 : Cur B w6 g := Cur.app (by exact curT) OO (by omega) hga
      have KR6 : Blk w6 w.heap.size 26 #[.int .i64 0, .int .i64 0, .int .i64 0, .int .i64 0, .int .i64 0, .slice none 0 0] := Blk.app (Blk.cast (by exact blkT) setsT) OO (by decide) hga
      have KJ6 : Blk w6 w1.heap.size 26 #[.int .i64 j.Index, .int .i64 j.Time, .int .i64 j.Holder, .int .i64 j.Epoch, .int .i64 j.Until, .slice aq nq kq] := Blk.app (Blk.cast (by exact blkT) setsT) OO (by decide) hga
      have Ov : OwnI w.heap.size 100 2 w6 vv (dues (j.Open ++ [⟨ux, uy⟩])) := by unfold OwnI; rw [dues_append, List.map_append]; exact On
      clear On OO hga
      clear CR5 FR5 LR5 CJ5 FJ5 LJ5
      have CR6 := KR6.cell; have FR6 := KR6.frozen; have LR6 := KR6.lt
      have CJ6 := KJ6.cell; have FJ6 := KJ6.frozen; have LJ6 := KJ6.lt
      obtain ⟨av, nv, kv, rfl⟩ := Ov.shape
      have Oq6 : OwnI w.heap.size 100 2 w6 (.slice av nv kv) (dues (j.Open ++ [⟨ux, uy⟩])) := OwnI.mono Ov (by first | omega | (simp only [szA]; omega))
      clear Ov
      refine hKz.out _ _ (by (try dsimp only); exact ⟨(by exact updT), (by exact curT)⟩) (fun hHeld => ?_)
      clear hKz Kz
      (try simp only [redA, Act.put])
      refine wpAnyH_take (i := 9) (v := ?_) rfl (by kernel_rfl) (by kernel_rfl) (by kernel_rfl) (fun _ _ _ h => h) (Or.inl ⟨by rfl, ?_⟩) (by assumption) ?_
      rotate_left
      focus (intro w hSw; (try dsimp only at hSw); go_simp <;> with_reducible rfl)
      (try simp only [redA, Act.put])
      refine wpAnyH_ready (rs := [10]) (by kernel_rfl) (by simp) ?_
      refine AllReadyH.cons rfl (fun Kz hKz => ?_) AllReadyH.nil
      (try simp only [redA])
      go_simp
      refine hKz.out _ _ (by (try dsimp only); exact ⟨(by exact updT), (by exact curT)⟩) (fun hHeld => ?_)
      clear hKz Kz
      (try simp only [redA, Act.put])
      refine wpAnyH_done (by kernel_rfl) ?_ _
      go_wp2_with fail
      refine bodyPost_ret (by simp [results, Tryz.results132, go_sem, CR6, FR6, LR6, CJ6, FJ6, LJ6]; try rfl) rfl ?_
      exact ⟨_, rfl, by exact updT, by exact curT, _, IsJobs.mk (x5 := (j.Open ++ [⟨ux, uy⟩])) (OwnI.mono (show OwnI w.heap.size 100 2 _ (.slice av nv kv) (dues (j.Open ++ [⟨ux, uy⟩])) from by exact ownR) (by omega)), by (try simp only [List.length_append, List.length_cons, List.length_nil]); omega⟩
 ·
  skip
  go_wp2_with fail
  refine bodyPost_ret (by simp [results, Tryz.results132, go_sem, CR2, FR2, LR2, CJ2, FJ2, LJ2]; try rfl) rfl ?_
  exact ⟨_, rfl, by exact updT, by exact curT, _, IsJobs.mk (x5 := j.Open) (OwnI.mono (show OwnI w.heap.size 100 2 _ (.slice aq nq kq) (dues j.Open) from by exact ownR) (by omega)), by (try simp only [List.length_append, List.length_cons, List.length_nil]); omega⟩
set_option maxHeartbeats 4000000 in
set_option maxRecDepth 100000 in
theorem l20DrawAny_c {B : Nat} {w : World} {g : Nat} (h : Cur B w g) : Calls Tryz.prog 76 #[.pointer (some ⟨g, 0, none⟩)] w (Dr B w g fun v w' => ∃ j : DView, IsView w.heap.size w' v j ∧ j.Jobs.Open.length ≤ 9) := by
 have hc0 := h; have E0 : Upd w w [g] := Upd.refl _ _
 have hg0 := h.lt
 go_enter Tryz.func76, Tryz.ntmps76
 go_wp2_with fail
 refine (l20DrawAnyJobs_c (show Cur B _ g from by exact curT)).mono ?_
 rintro e w1 ⟨_, rfl, X1, hc1, j, hj, hl⟩
 have hz1 := X1.size; (try simp only [szA] at hz1)
 have E1 : Upd w w1 [g] := Upd.trans (by exact updT) X1
 have KR1 : Blk w1 w.heap.size 28 #[.int .i64 0, .int .i64 0, .int .i64 0, .int .i64 0, .int .i64 0, .slice none 0 0] := Blk.upd1 (Blk.cast (by exact blkT) (by first | rfl | simp)) X1 (by omega)
 clear X1
 have CR1 := KR1.cell; have FR1 := KR1.frozen; have LR1 := KR1.lt
 obtain ⟨tq, rfl, HQ⟩ := hj
 obtain ⟨aq, nq, kq, rfl⟩ := HQ.shape
 have Oq1 : OwnI w.heap.size 100 2 w1 (.slice aq nq kq) (dues j.Open) := OwnI.mono HQ (by first | omega | (simp only [szA]; omega))
 clear HQ
 go_wp2_with fail
 refine bodyPost_ret (by simp [results, Tryz.results76, go_sem, CR1, FR1, LR1]; try rfl) rfl ?_
 exact ⟨_, rfl, by exact updT, by exact curT, _, IsView.mk (x5 := j.Open) (OwnI.mono (show OwnI w.heap.size 100 2 _ (.slice aq nq kq) (dues j.Open) from by exact ownR) (by omega)), by simp only []; omega⟩
set_option maxHeartbeats 4000000 in
set_option maxRecDepth 100000 in
theorem l20DrawNow_c {B : Nat} {w : World} {g : Nat} (h : Cur B w g) (v0 v1 v2 v3 v4 : Int) (a : Option Addr) (n k : Nat) : Calls Tryz.prog 49 #[.pointer (some ⟨g, 0, none⟩), .agg #[.int .i64 v0, .int .i64 v1, .int .i64 v2, .int .i64 v3, .int .i64 v4, .slice a n k]] w (Dr B w g fun v w' => ∃ x : Int, v = .int .i64 x) := by
 have hc0 := h; have E0 : Upd w w [g] := Upd.refl _ _
 have hg0 := h.lt
 go_enter Tryz.func49, Tryz.ntmps49
 go_wp2_with fail
 refine (l1Below_c (show Cur B _ g from by exact curT) 6).mono ?_
 rintro e w1 ⟨_, rfl, X1, hc1, m, rfl, pm, qm, rm⟩
 have hz1 := X1.size; (try simp only [szA] at hz1)
 have E1 : Upd w w1 [g] := Upd.trans (by exact updT) X1
 have KV1 : Blk w1 w.heap.size 28 #[.int .i64 v0, .int .i64 v1, .int .i64 v2, .int .i64 v3, .int .i64 v4, .slice a n k] := Blk.upd1 (Blk.cast (by exact blkT) (by first | rfl | simp)) X1 (by omega)
 clear X1
 have CV1 := KV1.cell; have FV1 := KV1.frozen; have LV1 := KV1.lt
 have qm := qm (by decide); clear rm
 obtain hway | hway | hway | hway : (m = 0) ∨ (m = 1) ∨ (m = 2) ∨ m ≥ 3 := by omega
 ·
  skip
  obtain rfl := hway
  go_wp2_with fail
  refine wp_region_held_drew (S := fun w' => Upd w w' [g] ∧ Cur B w' g ∧ Blk w' w.heap.size 28 #[.int .i64 v0, .int .i64 v1, .int .i64 v2, .int .i64 v3, .int .i64 v4, .slice a n k]) (by kernel_rfl) (by (try dsimp only); exact ⟨(by exact updT), (by exact curT), (Blk.cast (by exact blkT) setsT)⟩) (fun hHeld => ?_)
  refine wpAnyH_take (i := 0) (v := ?_) rfl (by kernel_rfl) (by kernel_rfl) (by kernel_rfl) (fun _ _ _ h => h) (Or.inl ⟨by rfl, ?_⟩) (by assumption) ?_
  rotate_left
  focus (intro w hSw; (try dsimp only at hSw); go_simp <;> with_reducible rfl)
  (try simp only [redA, Act.put])
  refine wpAnyH_take (i := 1) (v := ?_) rfl (by kernel_rfl) (by kernel_rfl) (by kernel_rfl) (fun _ _ _ h => h) (Or.inl ⟨by rfl, ?_⟩) (by assumption) ?_
  rotate_left
  focus (intro w hSw; (try dsimp only at hSw); go_simp <;> with_reducible rfl)
  (try simp only [redA, Act.put])
  refine wpAnyH_take (i := 2) (v := ?_) rfl (by kernel_rfl) (by kernel_rfl) (by kernel_rfl) (fun _ _ _ h => h) (Or.inl ⟨by rfl, ?_⟩) (by assumption) ?_
  rotate_left
  focus (intro w hSw; (try dsimp only at hSw); have hq := hSw.2.2.cell; go_simp <;> with_reducible rfl)
  (try simp only [redA, Act.put])
  refine wpAnyH_take (i := 3) (v := ?_) rfl (by kernel_rfl) (by kernel_rfl) (by kernel_rfl) (fun _ _ _ h => h) (Or.inl ⟨by rfl, ?_⟩) (by assumption) ?_
  rotate_left
  focus (intro w hSw; (try dsimp only at hSw); go_simp <;> with_reducible rfl)
  (try simp only [redA, Act.put])
  refine wpAnyH_ready (rs := [4]) (by kernel_rfl) (by simp) ?_
  refine AllReadyH.cons rfl (fun Kz hKz => ?_) AllReadyH.nil
  (try simp only [redA])
  go_simp
  go_at_call 32
  refine (l1From_c (show Cur B _ g from by exact curT) (-1) 1 (by omega) (by omega) (by omega)).mono ?_
  rintro e w2 ⟨_, rfl, X2, hc2, x, rfl, px, qx⟩
  have hz2 := X2.size; (try simp only [szA] at hz2)
  have E2 : Upd w w2 [g] := Upd.trans (by exact updT) X2
  have KV2 : Blk w2 w.heap.size 28 #[.int .i64 v0, .int .i64 v1, .int .i64 v2, .int .i64 v3, .int .i64 v4, .slice a n k] := Blk.upd1 (Blk.cast (by exact blkT) (by first | rfl | simp)) X2 (by omega)
  clear X2
  clear CV1 FV1 LV1
  have CV2 := KV2.cell; have FV2 := KV2.frozen; have LV2 := KV2.lt
  refine hKz.out _ _ (by (try dsimp only); exact ⟨(by exact updT), (by exact curT), (Blk.cast (by exact blkT) setsT)⟩) (fun hHeld => ?_)
  clear hKz Kz
  (try simp only [redA, Act.put])
  refine wpAnyH_take (i := 5) (v := ?_) rfl (by kernel_rfl) (by kernel_rfl) (by kernel_rfl) (fun _ _ _ h => h) (Or.inl ⟨by rfl, ?_⟩) (by assumption) ?_
  rotate_left
  focus (intro w hSw; (try dsimp only at hSw); go_simp <;> with_reducible rfl)
  (try simp only [redA, Act.put])
  refine wpAnyH_ready (rs := [6]) (by kernel_rfl) (by simp) ?_
  refine AllReadyH.cons rfl (fun Kz hKz => ?_) AllReadyH.nil
  (try simp only [redA])
  go_simp
  refine hKz.out _ _ (by (try dsimp only); exact ⟨(by exact updT), (by exact curT), (Blk.cast (by exact blkT) setsT)⟩) (fun hHeld => ?_)
  clear hKz Kz
  (try simp only [redA, Act.put])
  refine wpAnyH_done (by kernel_rfl) ?_ _
  go_wp2_with fail
  go_ret
  exact ⟨_, rfl, by exact updT, by exact curT, _, rfl⟩
 ·
  skip
  obtain rfl := hway
  go_wp2_with fail
  refine (l1Num_c (show Cur B _ g from by exact curT) 1000000 (by omega) (by omega)).mono ?_
  rintro e w2 ⟨_, rfl, X2, hc2, u, rfl⟩
  have hz2 := X2.size; (try simp only [szA] at hz2)
  have E2 : Upd w w2 [g] := Upd.trans (by exact updT) X2
  have KV2 : Blk w2 w.heap.size 28 #[.int .i64 v0, .int .i64 v1, .int .i64 v2, .int .i64 v3, .int .i64 v4, .slice a n k] := Blk.upd1 (Blk.cast (by exact blkT) (by first | rfl | simp)) X2 (by omega)
  clear X2
  clear CV1 FV1 LV1
  have CV2 := KV2.cell; have FV2 := KV2.frozen; have LV2 := KV2.lt
  go_wp2_with fail
  go_ret
  exact ⟨_, rfl, by exact updT, by exact curT, _, rfl⟩
 ·
  skip
  obtain rfl := hway
  go_wp2_with fail
  refine wp_region_held_drew (S := fun w' => Upd w w' [g] ∧ Cur B w' g ∧ Blk w' w.heap.size 28 #[.int .i64 v0, .int .i64 v1, .int .i64 v2, .int .i64 v3, .int .i64 v4, .slice a n k]) (by kernel_rfl) (by (try dsimp only); exact ⟨(by exact updT), (by exact curT), (Blk.cast (by exact blkT) setsT)⟩) (fun hHeld => ?_)
  refine wpAnyH_take (i := 0) (v := ?_) rfl (by kernel_rfl) (by kernel_rfl) (by kernel_rfl) (fun _ _ _ h => h) (Or.inl ⟨by rfl, ?_⟩) (by assumption) ?_
  rotate_left
  focus (intro w hSw; (try dsimp only at hSw); go_simp <;> with_reducible rfl)
  (try simp only [redA, Act.put])
  refine wpAnyH_take (i := 1) (v := ?_) rfl (by kernel_rfl) (by kernel_rfl) (by kernel_rfl) (fun _ _ _ h => h) (Or.inl ⟨by rfl, ?_⟩) (by assumption) ?_
  rotate_left
  focus (intro w hSw; (try dsimp only at hSw); go_simp <;> with_reducible rfl)
  (try simp only [redA, Act.put])
  refine wpAnyH_take (i := 2) (v := ?_) rfl (by kernel_rfl) (by kernel_rfl) (by kernel_rfl) (fun _ _ _ h => h) (Or.inl ⟨by rfl, ?_⟩) (by assumption) ?_
  rotate_left
  focus (intro w hSw; (try dsimp only at hSw); have hq := hSw.2.2.cell; go_simp <;> with_reducible rfl)
  (try simp only [redA, Act.put])
  refine wpAnyH_take (i := 3) (v := ?_) rfl (by kernel_rfl) (by kernel_rfl) (by kernel_rfl) (fun _ _ _ h => h) (Or.inl ⟨by rfl, ?_⟩) (by assumption) ?_
  rotate_left
  focus (intro w hSw; (try dsimp only at hSw); go_simp <;> with_reducible rfl)
  (try simp only [redA, Act.put])
  refine wpAnyH_ready (rs := [4]) (by kernel_rfl) (by simp) ?_
  refine AllReadyH.cons rfl (fun Kz hKz => ?_) AllReadyH.nil
  (try simp only [redA])
  go_simp
  go_at_call 32
  refine (l1From_c (show Cur B _ g from by exact curT) (-2) 9 (by omega) (by omega) (by omega)).mono ?_
  rintro e w2 ⟨_, rfl, X2, hc2, x, rfl, px, qx⟩
  have hz2 := X2.size; (try simp only [szA] at hz2)
  have E2 : Upd w w2 [g] := Upd.trans (by exact updT) X2
  have KV2 : Blk w2 w.heap.size 28 #[.int .i64 v0, .int .i64 v1, .int .i64 v2, .int .i64 v3, .int .i64 v4, .slice a n k] := Blk.upd1 (Blk.cast (by exact blkT) (by first | rfl | simp)) X2 (by omega)
  clear X2
  clear CV1 FV1 LV1
  have CV2 := KV2.cell; have FV2 := KV2.frozen; have LV2 := KV2.lt
  refine hKz.out _ _ (by (try dsimp only); exact ⟨(by exact updT), (by exact curT), (Blk.cast (by exact blkT) setsT)⟩) (fun hHeld => ?_)
  clear hKz Kz
  (try simp only [redA, Act.put])
  refine wpAnyH_take (i := 5) (v := ?_) rfl (by kernel_rfl) (by kernel_rfl) (by kernel_rfl) (fun _ _ _ h => h) (Or.inl ⟨by rfl, ?_⟩) (by assumption) ?_
  rotate_left
  focus (intro w hSw; (try dsimp only at hSw); go_simp <;> with_reducible rfl)
  (try simp only [redA, Act.put])
  refine wpAnyH_ready (rs := [6]) (by kernel_rfl) (by simp) ?_
  refine AllReadyH.cons rfl (fun Kz hKz => ?_) AllReadyH.nil
  (try simp only [redA])
  go_simp
  refine hKz.out _ _ (by (try dsimp only); exact ⟨(by exact updT), (by exact curT), (Blk.cast (by exact blkT) setsT)⟩) (fun hHeld => ?_)
  clear hKz Kz
  (try simp only [redA, Act.put])
  refine wpAnyH_done (by kernel_rfl) ?_ _
  go_wp2_with fail
  go_ret
  exact ⟨_, rfl, by exact updT, by exact curT, _, rfl⟩
 ·
  skip
  have hb0 : (m == 0) = false := by simp; omega
  have hb1 : (m == 1) = false := by simp; omega
  have hb2 : (m == 2) = false := by simp; omega
  go_wp2_with fail
  refine (l1Below_c (show Cur B _ g from by exact curT) 60).mono ?_
  rintro e w2 ⟨_, rfl, X2, hc2, u, rfl, pu, qu, ru⟩
  have hz2 := X2.size; (try simp only [szA] at hz2)
  have E2 : Upd w w2 [g] := Upd.trans (by exact updT) X2
  have KV2 : Blk w2 w.heap.size 28 #[.int .i64 v0, .int .i64 v1, .int .i64 v2, .int .i64 v3, .int .i64 v4, .slice a n k] := Blk.upd1 (Blk.cast (by exact blkT) (by first | rfl | simp)) X2 (by omega)
  clear X2
  clear CV1 FV1 LV1
  have CV2 := KV2.cell; have FV2 := KV2.frozen; have LV2 := KV2.lt
  go_wp2_with fail
  go_ret
  exact ⟨_, rfl, by exact updT, by exact curT, _, rfl⟩

end Go.Proofs.YtcnioiieiebodaaGreat
