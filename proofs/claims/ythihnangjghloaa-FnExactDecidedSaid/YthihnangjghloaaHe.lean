/- Contracts and plain laws: DEs. -/
import Derived.Test.YthihnangjghloaaGa
import Derived.Test.YthihnangjghloaaHb
import Derived.Test.YthihnangjghloaaHc
import Derived.Test.YthihnangjghloaaHd
set_option linter.unusedSimpArgs false
set_option linter.unusedVariables false
-- Decided of the reference.
set_option linter.unusedSimpArgs false
set_option linter.unusedVariables false
namespace Go.Proofs.Ythihnangjghloaa
open Go.RowKit Go.G8

theorem sDecided_k {w : World} {v : Value} {s : DSched} (h : RdSched w v s) (now : Int) : Calls Try.prog 18 #[v, .int .i64 now] w (Ret w fun r w' => ∃ F, OwSched w.heap.size w' r (decided s now) F) := by
 cases hb : schedOkS s
 ·
  exact sDecided_k_bad h hb
 cases ht : timeOk now
 ·
  exact sDecided_k_time h hb ht
 cases hbz : s.Busy
 rotate_left
 ·
  exact sDecided_k_busy h hb ht hbz
 by_cases hq : s.Seq = 2000
 ·
  exact sDecided_k_seq h hb ht hbz hq
 cases hst : staleIn s.View s.Index
 rotate_left
 ·
  exact sDecided_k_stale h hb ht hbz hq hst
 cases hh : holdsIn s.View s.Id now
 ·
  cases hf : freeIn s.View now
  ·
   exact sDecided_k_wait h hb ht hbz hq hst hh hf
  ·
   exact sDecided_k_lease h hb ht hbz hq hst hh hf
 ·
  cases hn : nfOk s.View now
  ·
   exact sDecided_k_hold h hb ht hbz hq hst hh hn
  ·
   exact sDecided_k_fire h hb ht hbz hq hst hh hn

end Go.Proofs.Ythihnangjghloaa
