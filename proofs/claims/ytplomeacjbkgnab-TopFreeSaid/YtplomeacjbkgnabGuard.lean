/-
  The walks of guard.May and of the reference's May: both answer what the plain model's 'may' says.
-/
import Derived.Test.YtplomeacjbkgnabBase
import Derived.Deep.Light
namespace Go.Proofs.Ytplomeacjbkgnab
open Go.RowKit

abbrev sensedA (s : Ch.Sensed) : Value := .agg #[vi s.height, vi s.ext, .bool s.door, vi s.people, vi s.lift, vi s.bay, .bool s.here, .bool s.toLeft, .bool s.toRight]

theorem w64_wrap (n : Int) : Ch.w64 n = wrap64 n := by
  unfold Ch.w64 wrap64
  simp

set_option maxHeartbeats 4000000 in
theorem may_any (c : Int) (s : Ch.Sensed) (w : World) :
    Calls Try.prog 41 #[.int .u8 c, sensedA s] w fun e w' => e = .returned (.bool (Ch.may c s)) ∧ Ext w w' := by
  obtain ⟨height, ext, door, people, lift, bay, here, tl, tr⟩ := s
  go_enter Try.func41, Try.ntmps41
  go_wp2
  all_goals
    go_ret
    go_light
    refine ⟨?_, (by simp (maxDischargeDepth := 60))⟩
    first | (simp_all [Ch.may, Ch.mayStretch, Ch.level, Ch.shut, w64_wrap]; done) | (refine congrArg (fun b => Ending.returned (.bool b)) ?_; simp only [beq_iff_eq] at *; subst_vars; simp [Ch.may, Ch.mayStretch, Ch.level, w64_wrap]; grind)


theorem may_f (c h x p l b : Int) (d e f g : Bool) (w : World) :
    Calls Try.prog 41 #[.int .u8 c, .agg #[vi h, vi x, .bool d, vi p, vi l, vi b, .bool e, .bool f, .bool g]] w fun e' w' => e' = .returned (.bool (Ch.may c ⟨h, x, d, p, l, b, e, f, g⟩)) ∧ Ext w w' := may_any c ⟨h, x, d, p, l, b, e, f, g⟩ w

end Go.Proofs.Ytplomeacjbkgnab
