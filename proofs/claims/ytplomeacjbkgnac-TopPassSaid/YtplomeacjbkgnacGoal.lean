/-
  The walks of goal.Next and of the reference's NextOf: both answer what the plain model's 'nextOf' says.
-/
import Derived.Test.YtplomeacjbkgnacGuard
namespace Go.Proofs.Ytplomeacjbkgnac
open Go.RowKit

abbrev nextV (x : Int × Bool) : Value := .tuple #[.int .u8 x.1, .bool x.2]

set_option maxRecDepth 100000 in
set_option maxHeartbeats 4000000 in
theorem next_any (g : Ch.Goal) (s : Ch.Sensed) (w : World) :
    Calls Try.prog 29 #[goalA g, sensedA s] w fun e w' => e = .returned (nextV (Ch.nextOf g s)) ∧ Ext w w' := by
  obtain ⟨height, ext, door, people, lift, bay, here, tl, tr⟩ := s
  obtain ⟨kind, n⟩ := g
  go_enter Try.func29, Try.ntmps29
  go_wp2
  all_goals
    go_ret2
    refine ⟨?_, (by simp (maxDischargeDepth := 60))⟩
    first | (simp_all [Ch.nextOf, Ch.toward, Ch.once]; done) | (simp_all [Ch.nextOf, Ch.toward, Ch.once]; omega) | (simp only [beq_iff_eq] at *; subst_vars; simp [Ch.nextOf, Ch.toward, Ch.once]; grind)


theorem next_f (k n h x p l b : Int) (d e f g : Bool) (w : World) :
    Calls Try.prog 29 #[.agg #[vi k, vi n], .agg #[vi h, vi x, .bool d, vi p, vi l, vi b, .bool e, .bool f, .bool g]] w fun e' w' => e' = .returned (nextV (Ch.nextOf ⟨k, n⟩ ⟨h, x, d, p, l, b, e, f, g⟩)) ∧ Ext w w' := next_any ⟨k, n⟩ ⟨h, x, d, p, l, b, e, f, g⟩ w

end Go.Proofs.Ytplomeacjbkgnac
