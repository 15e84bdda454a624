/-
  What TopPick reckons of a place, and desk.Pick's own test: the same. (Plain.)
-/
import Derived.Test.YtplomeacjbkgnabPick2
namespace Go.Proofs.Ytplomeacjbkgnab
open Go.RowKit

/-- a job does not keep a place for a stay's car -/
def jobFree (p : Ch.Place) (s : Ch.Stay) (j : Ch.Job) : Bool := !decide (j = ⟨s.ticket, false⟩) || !decide (Ch.front s.home = p)

/-- a stay leaves a place free -/
def stayFree (js : List Ch.Job) (p : Ch.Place) (s : Ch.Stay) : Bool := (!decide (s.home = p) && !decide (s.home = Ch.front p)) && js.all (jobFree p s)

/-- free, when so many stays have been looked at -/
def freeTo (l : List Ch.Stay) (js : List Ch.Job) (f : Bool) (p : Ch.Place) (k : Nat) : Bool := f && (l.take k).all (stayFree js p)

/-- free, when so many jobs have been looked at, too -/
def freeJobs (js : List Ch.Job) (f : Bool) (p : Ch.Place) (s : Ch.Stay) (n : Nat) : Bool := f && (js.take n).all (jobFree p s)

theorem jobsFree_eq (js : List Ch.Job) (p : Ch.Place) (s : Ch.Stay) : js.all (jobFree p s) = !(decide (Ch.front s.home = p) && decide ((⟨s.ticket, false⟩ : Ch.Job) ∈ js)) := by
  induction js with
  | nil => simp
  | cons j js ih =>
    rw [List.all_cons, ih]
    unfold jobFree
    by_cases h1 : Ch.front s.home = p
    · by_cases h2 : j = ⟨s.ticket, false⟩
      · simp [h1, h2]
      · have h3 : ¬ ((⟨s.ticket, false⟩ : Ch.Job) = j) := fun e => h2 e.symm
        simp [h1, h2, h3]
    · simp [h1]

theorem staysFree_eq (l : List Ch.Stay) (js : List Ch.Job) (p : Ch.Place) : l.all (stayFree js p) = (!hasB l p.level p.side p.depth && !hasB l p.level p.side 0 && !waitsB l js p.level p.side p.depth) := by
  unfold hasB waitsB
  induction l with
  | nil => rfl
  | cons s l ih =>
    rw [List.all_cons, ih, List.any_cons, List.any_cons, List.any_cons]
    unfold stayFree waitB
    rw [jobsFree_eq]
    have e1 : (⟨p.level, p.side, p.depth⟩ : Ch.Place) = p := rfl
    have e2 : (⟨p.level, p.side, 0⟩ : Ch.Place) = Ch.front p := rfl
    rw [e1, e2]
    cases decide (s.home = p) <;> cases decide (s.home = Ch.front p) <;> cases decide (Ch.front s.home = p) <;> cases decide ((⟨s.ticket, false⟩ : Ch.Job) ∈ js) <;> simp

theorem free_do (l : List Ch.Stay) (js : List Ch.Job) (levels : List Ch.Size) (s : Ch.Size) (p : Ch.Place) : freeTo l js (Ch.fits s (levels.getD (p.level - 1).toNat default)) p l.length = doP l js levels s p := by
  unfold freeTo doP
  rw [List.take_of_length_le (Nat.le_refl _), staysFree_eq]
  simp only [Bool.and_assoc]

theorem freeTo_step {l : List Ch.Stay} {js : List Ch.Job} {f : Bool} {p : Ch.Place} {k : Nat} {s : Ch.Stay} (hs : l[k]? = some s) : freeTo l js f p (k + 1) = freeJobs js (freeTo l js f p k && (!decide (s.home = p) && !decide (s.home = Ch.front p))) p s js.length := by
  unfold freeTo freeJobs
  rw [List.take_add_one, hs, List.take_of_length_le (Nat.le_refl _)]
  simp only [Option.toList_some, List.all_append, List.all_cons, List.all_nil, Bool.and_true, stayFree, Bool.and_assoc]

theorem freeJobs_step {js : List Ch.Job} {f : Bool} {p : Ch.Place} {s : Ch.Stay} {n : Nat} {j : Ch.Job} (hj : js[n]? = some j) : freeJobs js f p s (n + 1) = (freeJobs js f p s n && (!decide (j = ⟨s.ticket, false⟩) || !decide (Ch.front s.home = p))) := by
  unfold freeJobs
  rw [List.take_add_one, hj]
  simp only [Option.toList_some, List.all_append, List.all_cons, List.all_nil, Bool.and_true, jobFree, Bool.and_assoc]
end Go.Proofs.Ytplomeacjbkgnab
