/-
  The walk of GuardSays.
-/
import Derived.Test.YtplomeacjbkgnaaGuard
namespace Go.Proofs.Ytplomeacjbkgnaa
open Go.RowKit

set_option maxRecDepth 100000 in
set_option maxHeartbeats 2000000 in
theorem guardSays_walk (c : Int) (s : Ch.Sensed) (w : World) (hx : I64 s.ext) : Calls Try.prog 4 #[.int .u8 c, sensedA s] w fun e w' => e = .returned (.bool true) ∧ Ext w w' := by
  have h0 := hx.1
  have h1 := hx.2
  clear hx
  have F1 : Ch.may 45 ⟨0, 0, false, 0, 0, 0, false, false, false⟩ = true := rfl
  have F2 : Ch.may 117 ⟨0, 0, true, 0, 0, 0, false, false, false⟩ = false := rfl
  go_enter Try.func4, Try.ntmps4
  go_wp2_with (first
    | (go_at_call 24; (with_reducible refine (may_f _ _ _ _ _ _ _ _ _ _ _).mono ?_); rintro e w1 ⟨rfl, o1, n1, rfl⟩))
  (refine wp_region_ext (by kernel_rfl) (by kernel_rfl) ?_; (repeat (first | go_big_quiet_step ((first | (intro _; go_at_call 24; exact ext_callF (by intro _ _; simp) (may_f _ _ _ _ _ _ _ _ _ _ _)) | (intro _; go_at_call 25; exact ext_callF (by intro _ _; simp) (rmay_f _ _ _ _ _ _ _ _ _ _ _ h0 h1)))) | quiet_step ((first | (intro _; go_at_call 24; exact ext_callF (by intro _ _; simp) (may_f _ _ _ _ _ _ _ _ _ _ _)) | (intro _; go_at_call 25; exact ext_callF (by intro _ _; simp) (rmay_f _ _ _ _ _ _ _ _ _ _ _ h0 h1)))))); refine wpQuiet_nil ?_; intro _ hw'; obtain ⟨oq, nq, hw''⟩ := hw'; subst hw'')
  go_wp2
  go_ret
  exact ⟨by simp, (by simp (maxDischargeDepth := 60))⟩
end Go.Proofs.Ytplomeacjbkgnaa
