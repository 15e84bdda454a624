/-
  The walk of LightActs, once more: a light list is short.
-/
import Derived.Test.YtplomeacjbkgnaaAct
namespace Go.Proofs.Ytplomeacjbkgnaa
open Go.RowKit

/-- a list of acts is light, or not: it is told; a light one is short -/
def ToldN (w : World) (n : Nat) (m : Int) (e : Ending) (w' : World) : Prop := ∃ b, e = .returned (.bool b) ∧ (b = true → (n : Int) ≤ m) ∧ Ext w w'

set_option maxRecDepth 100000 in
set_option maxHeartbeats 2000000 in
theorem lightActs_len (m : Int) (a : Option Addr) (n cap : Nat) (l : List RAct) (w : World) (h : Sl w 12 ractCells l a n cap) (hg : ∀ x ∈ l, x.Good) :
    Calls Try.prog 49 #[.slice a n cap, vi m] w (ToldN w n m) := by
  by_cases hm : (n : Int) ≤ m
  · refine (lightActs_any m a n cap l w h hg).mono ?_
    rintro e w' ⟨b, rfl, hx⟩
    exact ⟨b, rfl, fun _ => hm, hx⟩
  · have hm' : m < (n : Int) := by omega
    clear h hg hm
    go_enter Try.func49, Try.ntmps49
    go_wp2
    go_ret
    exact ⟨false, rfl, (fun h => by cases h), (by simp (maxDischargeDepth := 60))⟩

end Go.Proofs.Ytplomeacjbkgnaa
