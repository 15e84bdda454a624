/-
  The walks of guard.May and of the reference's May: both answer what the plain model's 'may' says.
-/
import Derived.Test.YtplomeacjbkgnaaBase
import Derived.Deep.Light
namespace Go.Proofs.Ytplomeacjbkgnaa
open Go.RowKit
abbrev sensedA (s : Ch.Sensed) : Value := .agg #[vi s.height, vi s.ext, .bool s.door, vi s.people, vi s.lift, vi s.bay, .bool s.here, .bool s.toLeft, .bool s.toRight]

theorem w64_wrap (n : Int) : Ch.w64 n = wrap64 n := by
  unfold Ch.w64 wrap64
  simp

set_option maxHeartbeats 4000000 in
theorem may_any (c : Int) (s : Ch.Sensed) (w : World) :
    Calls Try.prog 24 #[.int .u8 c, sensedA s] w fun e w' => e = .returned (.bool (Ch.may c s)) ∧ Ext w w' := by
  obtain ⟨height, ext, door, people, lift, bay, here, tl, tr⟩ := s
  go_enter Try.func24, Try.ntmps24
  go_wp2
  all_goals
    go_ret
    go_light
    refine ⟨?_, (by simp (maxDischargeDepth := 60))⟩
    first | (simp_all [Ch.may, Ch.mayStretch, Ch.level, Ch.shut, w64_wrap]; done) | (refine congrArg (fun b => Ending.returned (.bool b)) ?_; simp only [beq_iff_eq] at *; subst_vars; simp [Ch.may, Ch.mayStretch, Ch.level, Ch.shut, w64_wrap]; grind)

set_option maxRecDepth 100000 in
set_option maxHeartbeats 4000000 in
theorem rmay_any (c : Int) (s : Ch.Sensed) (w : World) (h0 : -9223372036854775808 ≤ s.ext) (h1 : s.ext ≤ 9223372036854775807) :
    Calls Try.prog 25 #[.int .u8 c, sensedA s] w fun e w' => e = .returned (.bool (Ch.may c s)) ∧ Ext w w' := by
  obtain ⟨height, ext, door, people, lift, bay, here, tl, tr⟩ := s
  have H0 := Lib.hid h0
  have H1 := Lib.hid h1
  clear h0 h1
  go_enter Try.func25, Try.ntmps25
  go_wp2
  all_goals
    go_ret
    go_light
    refine ⟨?_, (by simp (maxDischargeDepth := 60))⟩
    refine congrArg (fun b => Ending.returned (.bool b)) ?_
    first | (simp_all [Ch.may, Ch.mayStretch, Ch.level, Ch.shut]; done) | (simp only [beq_iff_eq] at *; subst_vars; have h0 := H0.out; have h1 := H1.out; clear H0 H1; first | (simp [Ch.may, Ch.mayStretch, Ch.level, Ch.w64]; done) | (simp [Ch.may, Ch.mayStretch, Ch.level, Ch.w64]; grind))

theorem may_f (c h x p l b : Int) (d e f g : Bool) (w : World) :
    Calls Try.prog 24 #[.int .u8 c, .agg #[vi h, vi x, .bool d, vi p, vi l, vi b, .bool e, .bool f, .bool g]] w fun e' w' => e' = .returned (.bool (Ch.may c ⟨h, x, d, p, l, b, e, f, g⟩)) ∧ Ext w w' := may_any c ⟨h, x, d, p, l, b, e, f, g⟩ w
theorem rmay_f (c h x p l b : Int) (d e f g : Bool) (w : World) (h0 : -9223372036854775808 ≤ x) (h1 : x ≤ 9223372036854775807) :
    Calls Try.prog 25 #[.int .u8 c, .agg #[vi h, vi x, .bool d, vi p, vi l, vi b, .bool e, .bool f, .bool g]] w fun e' w' => e' = .returned (.bool (Ch.may c ⟨h, x, d, p, l, b, e, f, g⟩)) ∧ Ext w w' := rmay_any c ⟨h, x, d, p, l, b, e, f, g⟩ w h0 h1
end Go.Proofs.Ytplomeacjbkgnaa
