/- Views: what fires next. -/
import Derived.Test.YtfeddckbbhgpfaaV8
namespace Go.Proofs.Ytfeddckbbhgpfaa
open Go.RowKit Go.G8

theorem dueIds_head {l : List DDue} {G : Int} {k : Nat} {d : DDue} (hd : l[k]? = some d) (h : 0 ≤ G) (h' : d.Due ≤ G) (h0 : dueIds (l.take k) G = []) : ∃ r, dueIds l G = d.Id :: r := by
  have h1 := dueIds_yes hd h h'
  rw [h0, List.nil_append] at h1
  refine ⟨dueIds (l.drop (k + 1)) G, ?_⟩
  have h2 : dueIds l G = dueIds (l.take (k + 1)) G ++ dueIds (l.drop (k + 1)) G := by
    simp only [dueIds, show ¬ G < 0 by omega, if_false]
    rw [← List.map_append, ← List.filter_append, List.take_append_drop]
  rw [h2, h1]
  rfl

end Go.Proofs.Ytfeddckbbhgpfaa
