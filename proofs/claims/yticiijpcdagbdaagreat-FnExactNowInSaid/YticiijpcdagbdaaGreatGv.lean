/- Contracts and plain laws: ShM Un ShN Num3 P6 Sh1 SR. -/
import Derived.Test.YticiijpcdagbdaaGreatGa
import Derived.Test.YticiijpcdagbdaaGreatGf
import Derived.Test.YticiijpcdagbdaaGreatGe
import Derived.Test.YticiijpcdagbdaaGreatGd
set_option linter.unusedSimpArgs false
set_option linter.unusedVariables false
set_option maxHeartbeats 8000000
set_option maxRecDepth 100000
namespace Go.G8
open Go.RowKit Go.Proofs.YticiijpcdagbdaaGreat
def parts (n : Nat) : Nat := (n + 19) / 20
end Go.G8
namespace Go.Proofs.YticiijpcdagbdaaGreat
open Go.RowKit Go.G8
theorem OwnI.lit (w : World) (e : TypeId) (xs : List Int) (h : xs.length ≤ 1000) : OwnI w.heap.size e 1 (w.alloc (.cells (xs.map (Value.int .i64)).toArray e)) (.slice (some ⟨w.heap.size, 0, none⟩) xs.length xs.length) xs := by
 refine Own.of_blk (cap := xs.length) (Blk.new w _ _) (Nat.le_refl _) (by simp) (by simp) (Nat.le_refl _) (by unfold maxLen; omega) ?_
 intro j hj
 simp
end Go.Proofs.YticiijpcdagbdaaGreat
namespace Go.G8
open Go.RowKit
theorem Ints.part {w : World} {a : Option Addr} {cap : Nat} {xs : List Int} (h : Ints 1 w (.slice a xs.length cap) xs) {l m : Nat} (h1 : l < m) (h2 : m ≤ xs.length) (h3 : xs.length ≤ cap) : Ints 1 w (.slice (a.map (fun x => x.add l)) (m - l) (cap - l)) ((xs.take m).drop l) := by
 have := h.sliced (l := l) (m := m) (Nat.le_of_lt h1) h2
 unfold Go.sliced at this
 rw [if_neg oM, Nat.mul_one] at this
 exact this
theorem take_eq_next {l m : List Int} {k : Nat} {x y : Int} (hx : l[k]? = some x) (hy : m[k]? = some y) (h : l.take k = m.take k) (e : x = y) : l.take (k + 1) = m.take (k + 1) := by
 rw [List.take_add_one, List.take_add_one, hx, hy, h, e]
end Go.G8
namespace Go.Proofs.YticiijpcdagbdaaGreat
open Go.RowKit Go.G8
theorem slEqual_c (w : World) (v u : Value) (l m : List Int) (h : Ints 1 w v l) (k : Ints 1 w u m) :
  Calls Tryz.prog 353 #[v, u] w (RetV w (.bool (decide (l = m)))) := by
 obtain ⟨a, c, rfl, hc, hm, ha⟩ := h.one
 obtain ⟨b, d, rfl, hd, hn, hb⟩ := k.one
 have HA := Lib.hid ha; have HB := Lib.hid hb
 clear ha hb h k
 unfold maxLen at hm hn
 by_cases hl : l.length = m.length
 rotate_left
 ·
  have hd' : decide (l = m) = false := by simp; intro e; exact hl (by rw [e])
  have hb1 : ((l.length : Int) == (m.length : Int)) = false := by simp; omega
  have hb2 : decide ((l.length : Int) = (m.length : Int)) = false := by simp; omega
  have HD := Lib.hid hd'
  clear hl hd'
  go_enter Tryz.func353, Tryz.ntmps353
  go_wp2
  go_ret
  refine ⟨by rw [HD.out]; rfl, ?_⟩
  exact xT
 obtain ⟨N, hN⟩ : ∃ N, N = m.length := ⟨_, rfl⟩
 rw [← hN] at hl HB hd ⊢
 rw [hl] at HA hc ⊢
 have HL := Lib.hid hl; have HN := Lib.hid hN
 clear hl hN
 go_enter Tryz.func353, Tryz.ntmps353
 go_wp2_with fail
 go_loopw [13] (fun i wr => ∃ k : Nat, k ≤ N ∧ i = .int .i64 k ∧ Ext w wr ∧ Hid (l.take k = m.take k)) (fun i _ => N - (intOf i).toNat)
 case atStart => exact ⟨0, Nat.zero_le _, rfl, Ext.refl _, Lib.hid (by simp)⟩
 case round =>
  obtain ⟨k, hk, rfl, he, ht⟩ := hrel
  by_cases hlt : k < N
  ·
   obtain ⟨x, b1, o1, hx, rfl, hb1, c1⟩ := HA.out k hlt
   obtain ⟨y, b2, o2, hy, rfl, hb2, c2⟩ := HB.out k hlt
   have d1 := he.cell c1
   have d2 := he.cell c2
   have HX := Lib.hid hx; have HY := Lib.hid hy
   clear hx hy
   by_cases hxy : x = y
   ·
    subst hxy
    go_wp2_with fail
    go_quiet (fail)
    go_wp2_with fail
    go_roundw
    case rel => exact ⟨k + 1, by omega, by go_num, xT, Lib.hid (take_eq_next HX.out HY.out ht.out rfl)⟩
    case measure => simp [intOf]; omega
   have hb1' : (x == y) = false := by simp [hxy]
   have hne : decide (l = m) = false := by
    simp only [decide_eq_false_iff_not]
    intro e
    have h1 := HX.out; have h2 := HY.out
    rw [e, h2] at h1
    exact hxy (Option.some.inj h1).symm
   have HD := Lib.hid hne
   clear hne
   go_wp2_with fail
   go_quiet (fail)
   go_wp2_with fail
   go_ret
   refine ⟨by rw [HD.out]; rfl, ?_⟩
   exact xT
  obtain rfl : k = N := by omega
  have hd' : decide (l = m) = true := by
   have h1 := ht.out
   rw [List.take_of_length_le (by rw [HL.out]; omega), List.take_of_length_le (by rw [← HN.out]; omega)] at h1
   simp [h1]
  have HD := Lib.hid hd'
  clear hd'
  go_wp2_with fail
  go_ret
  refine ⟨by rw [HD.out]; rfl, ?_⟩
  exact xT
theorem sameRow_c (w : World) (v u : Value) (l m : List Int) (h : Ints 1 w v l) (k : Ints 1 w u m) :
  Calls Tryz.prog 312 #[v, u] w (RetV w (.bool (decide (l = m)))) := by
 go_enter Tryz.func312, Tryz.ntmps312
 go_wp2_with fail
 refine (slEqual_c _ v u l m h k).mono ?_
 rintro e w1 ⟨rfl, hx1⟩
 go_wp2_with fail
 go_ret
 exact ⟨rfl, hx1⟩
end Go.Proofs.YticiijpcdagbdaaGreat
