/-
  The walks of package desk: who has a place, what is waited for.
-/
import Derived.Test.YtplomeacjbkgnaaDoorBookCheck2
namespace Go.Proofs.YtplomeacjbkgnaaDoor
open Go.RowKit

/-- does somebody have this place? (the place's numbers one by one) -/
def hasB (l : List Ch.Stay) (a b c : Int) : Bool := l.any fun s => decide (s.home = ⟨a, b, c⟩)

theorem hasB_home (last : Int) (l : List Ch.Stay) (js : List Ch.Job) (p : Ch.Place) : Ch.hasHome ⟨last, l, js⟩ p = hasB l p.level p.side p.depth := rfl

/-- is a stay's car to be put away behind this place? -/
def waitB (js : List Ch.Job) (a b c : Int) (s : Ch.Stay) : Bool := !decide (s.home = ⟨a, b, c⟩) && decide (Ch.front s.home = ⟨a, b, c⟩) && decide ((⟨s.ticket, false⟩ : Ch.Job) ∈ js)

def waitsB (l : List Ch.Stay) (js : List Ch.Job) (a b c : Int) : Bool := l.any (waitB js a b c)

theorem waitsB_waits (last : Int) (l : List Ch.Stay) (js : List Ch.Job) (p : Ch.Place) : Ch.waits ⟨last, l, js⟩ p = waitsB l js p.level p.side p.depth := by
  unfold Ch.waits waitsB
  congr 1
  funext s
  unfold waitB
  simp only [List.contains_eq_mem]
  rfl

end Go.Proofs.YtplomeacjbkgnaaDoor
