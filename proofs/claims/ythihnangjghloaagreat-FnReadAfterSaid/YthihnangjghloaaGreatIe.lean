/- Contracts and plain laws: DRB. -/
import Derived.Test.YthihnangjghloaaGreatGa
import Derived.Deep.DeepCutAuto
import Derived.Test.YthihnangjghloaaGreatId
import Derived.Test.YthihnangjghloaaGreatGp
set_option linter.unusedSimpArgs false
set_option linter.unusedVariables false
-- DrawReadBy.
set_option linter.unusedSimpArgs false
set_option linter.unusedVariables false
namespace Go.Proofs.YthihnangjghloaaGreat
open Go.RowKit Go.G8

set_option maxHeartbeats 4000000 in
set_option maxRecDepth 100000 in
theorem drawReadBy_c {w : World} {v : Value} (h : Bytes w v) : Calls Tryz.prog 23 #[v] w (Ret w fun v w' => ∃ s x ra rb rc re, v = .tuple #[x, .agg #[.int .i64 ra, .int .i64 rb, .int .i64 rc, .int .i64 re]] ∧ RdStore w' x s) := by
 go_enter Tryz.func23, Tryz.ntmps23
 go_wp2_with fail
 refine (l1New_c (h.ext (by exact extT))).mono ?_
 rintro e w1 ⟨_, rfl, hx1, g, rfl, hc1⟩
 have KR1 : Blk w1 w.heap.size 65 #[.slice none 0 0, .slice none 0 0, .int .i64 0, .int .i64 0, .slice none 0 0, .slice none 0 0, .int .i64 0, .int .i64 0, .int .i64 0, .int .i64 0, .int .i64 0, .int .i64 0] := Blk.ext (by exact blkT) hx1
 have KQ1 : Blk w1 (w.heap.size + 1) 67 #[.int .i64 0, .int .i64 0, .int .i64 0, .int .i64 0] := Blk.ext (by exact blkT) hx1
 have E1 : Ext w w1 := Ext.trans (by exact extT) hx1
 have hz1 := hx1.size; (try simp only [World.size_alloc] at hz1)
 have hg1 := hc1.lt; (try simp only [World.size_alloc] at hg1)
 clear hx1
 go_wp2_with fail
 refine (l19DrawAny_c hc1).mono ?_
 rintro e w2 ⟨_, rfl, X2, hc2, s, gs⟩
 have hz2 := X2.size
 have E2 : Ext w w2 := E1.upd_below X2 (fun k hk => by simp at hk; omega)
 have KR2 := KR1.upd1 X2 (by omega); have KQ2 := KQ1.upd1 X2 (by omega)
 clear X2 KR1 KQ1
 obtain ⟨az0, nz0, kz0, az1, nz1, kz1, az4, nz4, kz4, az5, nz5, kz5, rfl⟩ := gs.rd.shape
 have CR2 := KR2.cell; have FR2 := KR2.frozen; have LR2 := KR2.lt; have CQ2 := KQ2.cell; have FQ2 := KQ2.frozen; have LQ2 := KQ2.lt
 go_wp2_with fail
 refine wp_region_held_drew (S := (fun w' => Ext w w' ∧ Blk w' w2.heap.size 65 #[.slice az0 nz0 kz0, .slice az1 nz1 kz1, .int .i64 s.State.Index, .int .i64 s.State.Time, .slice az4 nz4 kz4, .slice az5 nz5 kz5, .int .i64 s.State.Lease.Holder, .int .i64 s.State.Lease.Epoch, .int .i64 s.State.Lease.Until, .int .i64 s.Num, .int .i64 s.Last, .int .i64 s.Busy])) (by kernel_rfl) (by (try dsimp only); exact ⟨by exact extT, Blk.cast (by exact blkT) setsT⟩) (fun hHeld => ?_)
 refine wpAnyH_take (i := 0) (v := ?_) rfl (by kernel_rfl) (by kernel_rfl) (by kernel_rfl) (fun _ _ _ h => h) (Or.inl ⟨by rfl, ?_⟩) (by assumption) ?_
 rotate_left
 focus (intro w hSw; (try dsimp only at hSw); have hq := hSw.2.cell; have hq2 := hSw.2.lt; go_simp <;> with_reducible rfl)
 (try simp only [redA, Act.put])
 refine wpAnyH_take (i := 1) (v := ?_) rfl (by kernel_rfl) (by kernel_rfl) (by kernel_rfl) (fun _ _ _ h => h) (Or.inl ⟨by rfl, ?_⟩) (by assumption) ?_
 rotate_left
 focus (intro w hSw; (try dsimp only at hSw); go_simp <;> with_reducible rfl)
 (try simp only [redA, Act.put])
 refine wpAnyH_ready (rs := [2]) (by kernel_rfl) (by simp) ?_
 refine AllReadyH.cons rfl (fun Kz hKz => ?_) AllReadyH.nil
 (try simp only [redA])
 go_simp
 go_at_call 65
 refine (l19DrawRead_c (show Cur _ _ g from Cur.ext hc2 (by exact extT))).mono ?_
 rintro e w3 ⟨_, rfl, X3, hc3, ra, rb, rc, re, rfl⟩
 have hz3 := X3.size; (try simp only [szA] at hz3)
 have E3 : Ext w w3 := Ext.upd_below (by exact extT) X3 (fun k hk => by simp at hk; omega)
 have KD3 : Blk w3 w2.heap.size 65 #[.slice az0 nz0 kz0, .slice az1 nz1 kz1, .int .i64 s.State.Index, .int .i64 s.State.Time, .slice az4 nz4 kz4, .slice az5 nz5 kz5, .int .i64 s.State.Lease.Holder, .int .i64 s.State.Lease.Epoch, .int .i64 s.State.Lease.Until, .int .i64 s.Num, .int .i64 s.Last, .int .i64 s.Busy] := Blk.upd1 (Blk.cast (by exact blkT) setsT) X3 (by omega)
 have KR3 : Blk w3 w.heap.size 65 #[.slice none 0 0, .slice none 0 0, .int .i64 0, .int .i64 0, .slice none 0 0, .slice none 0 0, .int .i64 0, .int .i64 0, .int .i64 0, .int .i64 0, .int .i64 0, .int .i64 0] := Blk.upd1 (by exact blkT) X3 (by omega)
 have KQ3 : Blk w3 (w.heap.size + 1) 67 #[.int .i64 0, .int .i64 0, .int .i64 0, .int .i64 0] := Blk.upd1 (by exact blkT) X3 (by omega)
 have gs3 := gs.kp (Kp.upd kpT X3 (by omega))
 clear X3 CR2 FR2 LR2 CQ2 FQ2 LQ2
 have CR3 := KR3.cell; have FR3 := KR3.frozen; have LR3 := KR3.lt; have CQ3 := KQ3.cell; have FQ3 := KQ3.frozen; have LQ3 := KQ3.lt
 refine hKz.out _ _ (by (try dsimp only); exact ⟨by exact extT, Blk.cast (by exact blkT) setsT⟩) (fun hHeld => ?_)
 clear hKz Kz
 (try simp only [redA, Act.put])
 refine wpAnyH_ready (rs := [3]) (by kernel_rfl) (by simp) ?_
 refine AllReadyH.cons rfl (fun Kz hKz => ?_) AllReadyH.nil
 (try simp only [redA])
 go_simp
 refine hKz.out _ _ (by (try dsimp only); exact ⟨by exact extT, Blk.cast (by exact blkT) setsT⟩) (fun hHeld => ?_)
 clear hKz Kz
 (try simp only [redA, Act.put])
 refine wpAnyH_ready (rs := [4]) (by kernel_rfl) (by simp) ?_
 refine AllReadyH.cons rfl (fun Kz hKz => ?_) AllReadyH.nil
 (try simp only [redA])
 go_simp
 refine hKz.out _ _ (by (try dsimp only); exact ⟨by exact extT, Blk.cast (by exact blkT) setsT⟩) (fun hHeld => ?_)
 clear hKz Kz
 (try simp only [redA, Act.put])
 refine wpAnyH_done (by kernel_rfl) ?_ _
 go_wp2_with fail
 refine bodyPost_ret (by simp [results, Tryz.results23, go_sem, CR3, FR3, LR3, CQ3, FQ3, LQ3]; try rfl) rfl ?_
 exact ⟨_, rfl, by exact extT, s, _, ra, rb, rc, re, rfl, AnyStore.rd (gs3.kp kpT)⟩

end Go.Proofs.YthihnangjghloaaGreat
