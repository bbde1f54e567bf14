/- Views: what is due. -/
import Derived.Test.YtfeddckbbhgpfaaV7
import Derived.Test.YtfeddckbbhgpfaaApp
namespace Go.Proofs.Ytfeddckbbhgpfaa
open Go.RowKit Go.G8

def dueIds (l : List DDue) (G : Int) : List Int := if G < 0 then [] else (l.filter (fun d => decide (d.Due ≤ G))).map DDue.Id
theorem dueIds_neg {l : List DDue} {G : Int} (h : G < 0) : dueIds l G = [] := by simp [dueIds, h]
theorem dueIds_yes {l : List DDue} {G : Int} {k : Nat} {d : DDue} (hd : l[k]? = some d) (h : 0 ≤ G) (h' : d.Due ≤ G) : dueIds (l.take (k + 1)) G = dueIds (l.take k) G ++ [d.Id] := by
  rw [List.take_add_one, hd]
  simp [dueIds, h', show ¬ G < 0 by omega]
theorem dueIds_no {l : List DDue} {G : Int} {k : Nat} {d : DDue} (hd : l[k]? = some d) (h' : ¬ d.Due ≤ G) : dueIds (l.take (k + 1)) G = dueIds (l.take k) G := by
  rw [List.take_add_one, hd]
  simp [dueIds, h']
theorem dueIds_len (l : List DDue) (G : Int) : (dueIds l G).length ≤ l.length := by
  unfold dueIds
  split
  · simp
  · simpa using List.length_filter_le _ l

theorem guess_len {v : DView} {now : Int} (h : 0 ≤ guessOf v now) : v.Jobs.Open.length ≤ 8 := by
  unfold guessOf at h
  split at h
  · rename_i hh
    simp only [Bool.and_eq_true, jobsOk2] at hh
    exact (openOk_iff.1 hh.1.2.2.2.2.2).1
  · omega

end Go.Proofs.Ytfeddckbbhgpfaa
