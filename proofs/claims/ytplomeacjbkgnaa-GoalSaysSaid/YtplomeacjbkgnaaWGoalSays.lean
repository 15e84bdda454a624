/-
  The walk of GoalSays.
-/
import Derived.Test.YtplomeacjbkgnaaGoal
namespace Go.Proofs.Ytplomeacjbkgnaa
open Go.RowKit

set_option maxRecDepth 100000 in
set_option maxHeartbeats 2000000 in
theorem goalSays_walk (g : Ch.Goal) (s : Ch.Sensed) (w : World) : Calls Try.prog 5 #[goalA g, sensedA s] w fun e w' => e = .returned (.bool true) ∧ Ext w w' := by
  have F1 : Ch.nextOf ⟨1, 3⟩ ⟨1, 0, false, 0, 0, 0, false, false, false⟩ = (117, false) := rfl
  go_enter Try.func5, Try.ntmps5
  go_wp2_with (first
    | (go_at_call 27; (with_reducible refine (next_f _ _ _ _ _ _ _ _ _ _ _ _).mono ?_); rintro e w1 ⟨rfl, o1, n1, rfl⟩)
    | (go_at_call 28; (with_reducible refine (rnext_f _ _ _ _ _ _ _ _ _ _ _ _).mono ?_); rintro e w1 ⟨rfl, o1, n1, rfl⟩)
    | go_in)
  all_goals
    go_ret
    exact ⟨by simp, (by simp (maxDischargeDepth := 60))⟩
end Go.Proofs.Ytplomeacjbkgnaa
