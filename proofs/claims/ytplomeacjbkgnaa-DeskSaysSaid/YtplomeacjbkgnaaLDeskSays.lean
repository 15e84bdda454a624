/-
  'DeskSays' holds: for every input the law's Go text answers true, and leaves the input as it was. No conditions.
-/
import Derived.Test.YtplomeacjbkgnaaRows
import Derived.Test.YtplomeacjbkgnaaRead
import Derived.Test.YtplomeacjbkgnaaReadBook
import Derived.Test.YtplomeacjbkgnaaWDeskSays
namespace Go.Proofs.Ytplomeacjbkgnaa
open Go.ChangeShapes Go.WideShapes Go.ChangeAt Go.RowKit

set_option maxRecDepth 100000 in
theorem deskSays_lifted (os : Os) (started : os.Started) (H : Type) (enc : TypeId × Value → H) :
    ReturnsInHanded {} Try.checked os 8 .any (Rows.deskSaysSpec.pre6 enc Try.prog Try.f8 Rows.deskSaysRow.domain false) (Rows.deskSaysSpec.post enc Try.prog Try.f8 false true false false) := by
  refine returnsInHanded_of_change (C := Try.checked) own started (by kernel_rfl) Try.func8
    (ChangeSpec.witness6 (enc := enc) (C := Try.checked) false ⟨#[], #[.agg #[.int .i64 0, .slice none 0 0, .slice none 0 0], .slice none 0 0, .agg #[.int .i64 0, .int .i64 0, .int .i64 0, .int .i64 0], .agg #[.int .i64 0, .bool false], .bool false], []⟩ 8 (by kernel_rfl) (by kernel_rfl) (by kernel_rfl) (by kernel_rfl)) ?_
  intro W base args ds gs before hval0 hW hcnd _
  have hval : ∀ (j : Nat) t v, Try.f8.params[j]? = some t → args[j]? = some v → Value.okWide Try.prog W .any base t v := hval0
  refine law_contract (tb := 4) laidOut Try.underlying4 (by kernel_rfl) rfl (fun ds hd => ?_) (by kernel_rfl) hW ?_
  · match ds, hd with
    | [_, _, _, _, _], _ => rfl
  obtain ⟨p, q, hA0, hV, rfl, hfz, hnd⟩ := hW
  have hA : DataW.TrodAll enc Try.prog W 0 (fun _ => true) true Try.f8.params.toList args.toList ds p := hA0
  rw [Try.params8] at hA hval
  obtain ⟨v0, vs0, d0, ds0, p0, q0, hargs, rfl, rfl, h0, r0⟩ := trodAll_cons hA
  obtain ⟨v1, vs1, d1, ds1, p1, q1, rfl, rfl, rfl, h1, r1⟩ := trodAll_cons r0
  obtain ⟨v2, vs2, d2, ds2, p2, q2, rfl, rfl, rfl, h2, r2⟩ := trodAll_cons r1
  obtain ⟨v3, vs3, d3, ds3, p3, q3, rfl, rfl, rfl, h3, r3⟩ := trodAll_cons r2
  obtain ⟨v4, vs4, d4, ds4, p4, q4, rfl, rfl, rfl, h4, r4⟩ := trodAll_cons r3
  obtain ⟨rfl, rfl, rfl⟩ := trodAll_nil r4
  obtain rfl : args = #[v0, v1, v2, v3, v4] := by cases args; simp_all
  obtain ⟨last0, a0, n0, c0, a0', n0', c0', l0, js0, e0, s0, s0', g0, _⟩ := rd_book (rd_of_trod h0)
  obtain rfl := arg_struct (by kernel_rfl) (hval 0 _ v0 rfl rfl) e0
  obtain ⟨a1, n1, c1, rfl⟩ := okWide_slice Try.underlying40 (hval 1 _ v1 rfl rfl)
  obtain ⟨x1, _, _, _, e1, s1, g1⟩ := rd_list (c := 3) sizeCells I64S (by decide) (fun _ => rfl) Try.underlying40 (by kernel_rfl) (fun ecs h => rd_size h) (rd_of_trod h1)
  simp only [Value.cells, List.cons.injEq, Value.slice.injEq, and_true] at e1
  obtain ⟨rfl, rfl, rfl⟩ := e1
  obtain ⟨x2, e2, g2⟩ := rd_car (rd_of_trod h2)
  obtain rfl := arg_struct (by kernel_rfl) (hval 2 _ v2 rfl rfl) e2
  obtain ⟨x3, e3, g3⟩ := rd_job (rd_of_trod h3)
  obtain rfl := arg_struct (by kernel_rfl) (hval 3 _ v3 rfl rfl) e3
  obtain ⟨x4, rfl⟩ := okWide_bool Try.underlying4 (hval 4 _ v4 rfl rfl)
  exact deskSays_walk _ _ _ _ _ _ _ _ _ _ _ _ _ _ _ _ _ _ _ _ _ s0 s0' s1

theorem deskSays_over : Rows.deskSaysRow.holds Try.pinned (OpenSpec.ofChange Rows.deskSaysSpec) :=
  OpenClaim.holds_of_wide 8 Try.f8 rfl rfl rfl rfl rfl rfl rfl ⟨rfl, rfl, rfl, rfl, rfl⟩ rfl rfl rfl rfl rfl (by kernel_rfl) Try.func8 (by kernel_rfl)
    (of_decide_eq_true (by kernel_rfl)) (by unfold Func.isWrapper; first | (rw [if_pos (by decide +kernel)]; kernel_rfl) | (rw [if_neg (by decide +kernel)]; exact ⟨rfl, rfl⟩))
    (fun os started H enc _ => deskSays_lifted os started H enc)

/-- THE STATEMENT -/
theorem deskSays_proved : Rows.DeskSaysSaid := deskSays_over
#print axioms deskSays_proved
end Go.Proofs.Ytplomeacjbkgnaa
