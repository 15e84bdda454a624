/-
  'TopOver' holds: for every input the law's Go text answers true, and leaves the input as it was. No conditions.
-/
import Derived.Test.YtplomeacjbkgnabRows
import Derived.Test.YtplomeacjbkgnabRead
import Derived.Test.YtplomeacjbkgnabReadBook
import Derived.Test.YtplomeacjbkgnabWTopOver
namespace Go.Proofs.Ytplomeacjbkgnab
open Go.ChangeShapes Go.WideShapes Go.ChangeAt Go.RowKit

set_option maxRecDepth 100000 in
theorem topOver_lifted (os : Os) (started : os.Started) (H : Type) (enc : TypeId × Value → H) :
    ReturnsInHanded {} Try.checked os 7 .any (Rows.topOverSpec.pre6 enc Try.prog Try.f7 Rows.topOverRow.domain false) (Rows.topOverSpec.post enc Try.prog Try.f7 false true false false) := by
  refine returnsInHanded_of_change (C := Try.checked) own started (by kernel_rfl) Try.func7
    (ChangeSpec.witness6 (enc := enc) (C := Try.checked) false ⟨#[], #[.agg #[.int .i64 0, .slice none 0 0, .slice none 0 0], .int .i64 0, .agg #[.int .i64 0, .bool false], .bool false], []⟩ 8 (by kernel_rfl) (by kernel_rfl) (by kernel_rfl) (by kernel_rfl)) ?_
  intro W base args ds gs before hval0 hW hcnd _
  have hval : ∀ (j : Nat) t v, Try.f7.params[j]? = some t → args[j]? = some v → Value.okWide Try.prog W .any base t v := hval0
  refine law_contract (tb := 4) laidOut Try.underlying4 (by kernel_rfl) rfl (fun ds hd => ?_) (by kernel_rfl) hW ?_
  · match ds, hd with
    | [_, _, _, _], _ => rfl
  obtain ⟨p, q, hA0, hV, rfl, hfz, hnd⟩ := hW
  have hA : DataW.TrodAll enc Try.prog W 0 (fun _ => true) true Try.f7.params.toList args.toList ds p := hA0
  rw [Try.params7] at hA hval
  obtain ⟨v0, vs0, d0, ds0, p0, q0, hargs, rfl, rfl, h0, r0⟩ := trodAll_cons hA
  obtain ⟨v1, vs1, d1, ds1, p1, q1, rfl, rfl, rfl, h1, r1⟩ := trodAll_cons r0
  obtain ⟨v2, vs2, d2, ds2, p2, q2, rfl, rfl, rfl, h2, r2⟩ := trodAll_cons r1
  obtain ⟨v3, vs3, d3, ds3, p3, q3, rfl, rfl, rfl, h3, r3⟩ := trodAll_cons r2
  obtain ⟨rfl, rfl, rfl⟩ := trodAll_nil r3
  obtain rfl : args = #[v0, v1, v2, v3] := by cases args; simp_all
  obtain ⟨last0, a0, n0, c0, a0', n0', c0', l0, js0, e0, s0, s0', g0, _⟩ := rd_book (rd_of_trod h0)
  obtain rfl := arg_struct (by kernel_rfl) (hval 0 _ v0 rfl rfl) e0
  obtain ⟨x1, rfl⟩ := okWide_int Try.underlying3 (hval 1 _ v1 rfl rfl)
  obtain ⟨_, e1, g1⟩ := rd_int Try.underlying3 (rd_of_trod h1)
  obtain rfl : x1 = _ := by simpa [Value.cells] using e1
  obtain ⟨x2, e2, g2⟩ := rd_job (rd_of_trod h2)
  obtain rfl := arg_struct (by kernel_rfl) (hval 2 _ v2 rfl rfl) e2
  obtain ⟨x3, rfl⟩ := okWide_bool Try.underlying4 (hval 3 _ v3 rfl rfl)
  exact topOver_walk _ _ _ _ _ _ _ _ _ _ _ _ _ _ s0 s0'

theorem topOver_over : Rows.topOverRow.holds Try.pinned (OpenSpec.ofChange Rows.topOverSpec) :=
  OpenClaim.holds_of_wide 7 Try.f7 rfl rfl rfl rfl rfl rfl rfl ⟨rfl, rfl, rfl, rfl, rfl⟩ rfl rfl rfl rfl rfl (by kernel_rfl) Try.func7 (by kernel_rfl)
    (of_decide_eq_true (by kernel_rfl)) (by unfold Func.isWrapper; first | (rw [if_pos (by decide +kernel)]; kernel_rfl) | (rw [if_neg (by decide +kernel)]; exact ⟨rfl, rfl⟩))
    (fun os started H enc _ => topOver_lifted os started H enc)

/-- THE STATEMENT -/
theorem topOver_proved : Rows.TopOverSaid := topOver_over
#print axioms topOver_proved
end Go.Proofs.Ytplomeacjbkgnab
