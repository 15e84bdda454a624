/-
  'GoalSays' holds: for every input the law's Go text answers true, and leaves the input as it was. No conditions.
-/
import Derived.Test.YtplomeacjbkgnaaRows
import Derived.Test.YtplomeacjbkgnaaRead
import Derived.Test.YtplomeacjbkgnaaWGoalSays
namespace Go.Proofs.Ytplomeacjbkgnaa
open Go.ChangeShapes Go.WideShapes Go.ChangeAt Go.RowKit

set_option maxRecDepth 100000 in
theorem goalSays_lifted (os : Os) (started : os.Started) (H : Type) (enc : TypeId × Value → H) :
    ReturnsInHanded {} Try.checked os 5 .any (Rows.goalSaysSpec.pre6 enc Try.prog Try.f5 Rows.goalSaysRow.domain false) (Rows.goalSaysSpec.post enc Try.prog Try.f5 false true false false) := by
  refine returnsInHanded_of_change (C := Try.checked) own started (by kernel_rfl) Try.func5
    (ChangeSpec.witness6 (enc := enc) (C := Try.checked) false ⟨#[], #[.agg #[.int .i64 0, .int .i64 0], .agg #[.int .i64 0, .int .i64 0, .bool false, .int .i64 0, .int .i64 0, .int .i64 0, .bool false, .bool false, .bool false]], []⟩ 8 (by kernel_rfl) (by kernel_rfl) (by kernel_rfl) (by kernel_rfl)) ?_
  intro W base args ds gs before hval0 hW hcnd _
  have hval : ∀ (j : Nat) t v, Try.f5.params[j]? = some t → args[j]? = some v → Value.okWide Try.prog W .any base t v := hval0
  refine law_contract (tb := 4) laidOut Try.underlying4 (by kernel_rfl) rfl (fun ds hd => ?_) (by kernel_rfl) hW ?_
  · match ds, hd with
    | [_, _], _ => rfl
  obtain ⟨p, q, hA0, hV, rfl, hfz, hnd⟩ := hW
  have hA : DataW.TrodAll enc Try.prog W 0 (fun _ => true) true Try.f5.params.toList args.toList ds p := hA0
  rw [Try.params5] at hA hval
  obtain ⟨v0, vs0, d0, ds0, p0, q0, hargs, rfl, rfl, h0, r0⟩ := trodAll_cons hA
  obtain ⟨v1, vs1, d1, ds1, p1, q1, rfl, rfl, rfl, h1, r1⟩ := trodAll_cons r0
  obtain ⟨rfl, rfl, rfl⟩ := trodAll_nil r1
  obtain rfl : args = #[v0, v1] := by cases args; simp_all
  obtain ⟨x0, e0, g0⟩ := rd_goal (rd_of_trod h0)
  obtain rfl := arg_struct (by kernel_rfl) (hval 0 _ v0 rfl rfl) e0
  obtain ⟨x1, e1, g1⟩ := rd_sensed (rd_of_trod h1)
  obtain rfl := arg_struct (by kernel_rfl) (hval 1 _ v1 rfl rfl) e1
  exact goalSays_walk x0 x1 W

theorem goalSays_over : Rows.goalSaysRow.holds Try.pinned (OpenSpec.ofChange Rows.goalSaysSpec) :=
  OpenClaim.holds_of_wide 5 Try.f5 rfl rfl rfl rfl rfl rfl rfl ⟨rfl, rfl, rfl, rfl, rfl⟩ rfl rfl rfl rfl rfl (by kernel_rfl) Try.func5 (by kernel_rfl)
    (of_decide_eq_true (by kernel_rfl)) (by unfold Func.isWrapper; first | (rw [if_pos (by decide +kernel)]; kernel_rfl) | (rw [if_neg (by decide +kernel)]; exact ⟨rfl, rfl⟩))
    (fun os started H enc _ => goalSays_lifted os started H enc)

/-- THE STATEMENT -/
theorem goalSays_proved : Rows.GoalSaysSaid := goalSays_over
#print axioms goalSays_proved
end Go.Proofs.Ytplomeacjbkgnaa
