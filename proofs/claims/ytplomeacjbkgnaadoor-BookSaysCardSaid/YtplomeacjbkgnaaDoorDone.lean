/-
  The walk of desk.Done.
-/
import Derived.Test.YtplomeacjbkgnaaDoorPark
import Derived.Test.YtplomeacjbkgnaaDoorDelete
namespace Go.Proofs.YtplomeacjbkgnaaDoor
open Go.RowKit

/-- is a job over, when this one is? -/
def jobOver (jt : Int) (jf ov : Bool) (x : Ch.Job) : Bool := decide (x = ⟨jt, jf⟩) || (ov && x.ticket == jt)

theorem jobOver_kept (j : Ch.Job) (gone : Bool) : (fun x => !jobOver j.ticket j.fetch (j.fetch || gone) x) = fun x => !(x == j || ((j.fetch || gone) && x.ticket == j.ticket)) := by
  funext x
  unfold jobOver
  congr 2

theorem owns_kept {S : Nat → Prop} {w w' : World} {base e size : Nat} {v : Value} {n : Nat} {xs : List Value} (h : w.ownsRow base e size v n xs) (k : Kept S w w') (hn : ∀ b, v.ownBlock = some b → ¬ S b) : w'.ownsRow base e size v n xs := by
  refine ⟨h.1, ?_⟩
  rcases h.2 with h2 | ⟨g, cap, cur, rfl, hb, hg, hnc, hc, hs, ht⟩
  · exact .inl h2
  · refine .inr ⟨g, cap, cur, rfl, hb, ?_, hnc, hc, hs, ht⟩
    have hlt : g < w.heap.size := by
      rcases Nat.lt_or_ge g w.heap.size with h1 | h1
      · exact h1
      · rw [Array.getElem?_eq_none h1] at hg; cases hg
    rw [k.block g hlt (hn g rfl)]; exact hg

theorem BookCell.kept {S : Nat → Prop} {w w' : World} {T : Nat} {x y z : Value} (h : BookCell w T x y z) (k : Kept S w w') (hn : ¬ S T) : BookCell w' T x y z := h.same (k.block T h.lt hn)

end Go.Proofs.YtplomeacjbkgnaaDoor
