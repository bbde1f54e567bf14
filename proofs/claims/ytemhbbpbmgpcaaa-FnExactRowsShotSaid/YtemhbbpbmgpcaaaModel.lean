/- Model: the data as plain structures and what the functions compute on them. -/
namespace Go.G8

def inb (x lo hi : Int) : Bool := decide (lo ≤ x ∧ x ≤ hi)
theorem inb_true {x lo hi : Int} : inb x lo hi = true ↔ lo ≤ x ∧ x ≤ hi := by simp [inb]
theorem inb_of {x lo hi : Int} (h : lo ≤ x) (h' : x ≤ hi) : inb x lo hi = true := inb_true.2 ⟨h, h'⟩
theorem inb_lo {x lo hi : Int} (h : x < lo) : inb x lo hi = false := by simp [inb]; omega
theorem inb_hi {x lo hi : Int} (h : hi < x) : inb x lo hi = false := by simp [inb]; omega

structure DDue where
  Id : Int
  Due : Int
structure DJobs where
  Index : Int
  Time : Int
  Holder : Int
  Epoch : Int
  Until : Int
  Open : List DDue
structure DView where
  Jobs : DJobs

def DDue.ints (d : DDue) : List Int := [d.Id, d.Due]
def dues (l : List DDue) : List Int := l.flatMap DDue.ints
theorem length_dues (l : List DDue) : (dues l).length = l.length * 2 := by
  induction l with
  | nil => rfl
  | cons d l ih => simp only [dues, List.flatMap_cons, List.length_append, List.length_cons] at ih ⊢; rw [ih]; simp [DDue.ints]; omega

def timeOk (t : Int) : Bool := inb t 0 1000000
def schedOk (n : Int) : Bool := n == 2 || n == 3
def idOk (n : Int) : Bool := inb n 1 20
def dueLess (a b : DDue) : Bool := decide (a.Due < b.Due ∨ (a.Due = b.Due ∧ a.Id < b.Id))

theorem dueLess_lt {a b : DDue} (h : a.Due < b.Due) : dueLess a b = true := by simp [dueLess, h]
theorem dueLess_id {a b : DDue} (h : a.Due = b.Due) (h' : a.Id < b.Id) : dueLess a b = true := by simp [dueLess, h, h']
theorem dueLess_no {a b : DDue} (h : ¬ a.Due < b.Due) (h' : a.Due ≠ b.Due) : dueLess a b = false := by simp [dueLess, h, h']
theorem dueLess_ge {a b : DDue} (h : a.Due = b.Due) (h' : ¬ a.Id < b.Id) : dueLess a b = false := by simp [dueLess, h, h']

/-- Element i of a list of open jobs is in order. -/
def OpenAt (l : List DDue) (i : Nat) : Prop := ∀ d, l[i]? = some d → idOk d.Id = true ∧ timeOk d.Due = true ∧ (∀ e, 0 < i → l[i - 1]? = some e → dueLess e d = true) ∧ (∀ k e, k < i → l[k]? = some e → e.Id ≠ d.Id)
def OpenOk (l : List DDue) : Prop := l.length ≤ 8 ∧ ∀ i, i < l.length → OpenAt l i
open Classical in
noncomputable def openOk (l : List DDue) : Bool := decide (OpenOk l)
theorem openOk_true {l : List DDue} (h : OpenOk l) : openOk l = true := by simp [openOk, h]
theorem openOk_false {l : List DDue} (h : ¬ OpenOk l) : openOk l = false := by simp [openOk, h]
theorem openOk_iff {l : List DDue} : openOk l = true ↔ OpenOk l := by simp [openOk]
noncomputable def jobsOk2 (j : DJobs) : Bool := inb j.Index 0 2000 && (timeOk j.Time && ((j.Holder == 0 || schedOk j.Holder) && (inb j.Epoch 0 1000 && (inb j.Until 0 1001000 && openOk j.Open))))

noncomputable def staleIn (v : DView) (index : Int) : Bool := jobsOk2 v.Jobs && decide (v.Jobs.Index < index)
noncomputable def guessOf (v : DView) (now : Int) : Int := if jobsOk2 v.Jobs && timeOk now then max v.Jobs.Time now else -1


end Go.G8
