/-
  'PlantSays' holds: for every input the law's Go text answers true, and leaves the input as it was. No conditions.
-/
import Derived.Test.YtplomeacjbkgnaaRows
import Derived.Test.YtplomeacjbkgnaaRead
import Derived.Test.YtplomeacjbkgnaaWPlantSays
namespace Go.Proofs.Ytplomeacjbkgnaa
open Go.ChangeShapes Go.WideShapes Go.ChangeAt Go.RowKit

set_option maxRecDepth 100000 in
theorem plantSays_lifted (os : Os) (started : os.Started) (H : Type) (enc : TypeId × Value → H) :
    ReturnsInHanded {} Try.checked os 9 .any (Rows.plantSaysSpec.pre6 enc Try.prog Try.f9 Rows.plantSaysRow.domain false) (Rows.plantSaysSpec.post enc Try.prog Try.f9 false true false false) := by
  refine returnsInHanded_of_change (C := Try.checked) own started (by kernel_rfl) Try.func9
    (ChangeSpec.witness6 (enc := enc) (C := Try.checked) false ⟨#[], #[.int .i64 0, .slice none 0 0], []⟩ 8 (by kernel_rfl) (by kernel_rfl) (by kernel_rfl) (by kernel_rfl)) ?_
  intro W base args ds gs before hval0 hW hcnd _
  have hval : ∀ (j : Nat) t v, Try.f9.params[j]? = some t → args[j]? = some v → Value.okWide Try.prog W .any base t v := hval0
  refine law_contract (tb := 4) laidOut Try.underlying4 (by kernel_rfl) rfl (fun ds hd => ?_) (by kernel_rfl) hW ?_
  · match ds, hd with
    | [_, _], _ => rfl
  obtain ⟨p, q, hA0, hV, rfl, hfz, hnd⟩ := hW
  have hA : DataW.TrodAll enc Try.prog W 0 (fun _ => true) true Try.f9.params.toList args.toList ds p := hA0
  rw [Try.params9] at hA hval
  obtain ⟨v0, vs0, d0, ds0, p0, q0, hargs, rfl, rfl, h0, r0⟩ := trodAll_cons hA
  obtain ⟨v1, vs1, d1, ds1, p1, q1, rfl, rfl, rfl, h1, r1⟩ := trodAll_cons r0
  obtain ⟨rfl, rfl, rfl⟩ := trodAll_nil r1
  obtain rfl : args = #[v0, v1] := by cases args; simp_all
  obtain ⟨x0, rfl⟩ := okWide_int Try.underlying3 (hval 0 _ v0 rfl rfl)
  obtain ⟨_, e0, g0⟩ := rd_int Try.underlying3 (rd_of_trod h0)
  obtain rfl : x0 = _ := by simpa [Value.cells] using e0
  obtain ⟨a1, n1, c1, rfl⟩ := okWide_slice Try.underlying63 (hval 1 _ v1 rfl rfl)
  obtain ⟨x1, _, _, _, e1, s1, g1⟩ := rd_list (c := 12) ractCells RAct.Good (by decide) (fun _ => rfl) Try.underlying63 (by kernel_rfl) (fun ecs h => rd_act h) (rd_of_trod h1)
  simp only [Value.cells, List.cons.injEq, Value.slice.injEq, and_true] at e1
  obtain ⟨rfl, rfl, rfl⟩ := e1
  exact plantSays_walk x0 s1 g1

theorem plantSays_over : Rows.plantSaysRow.holds Try.pinned (OpenSpec.ofChange Rows.plantSaysSpec) :=
  OpenClaim.holds_of_wide 9 Try.f9 rfl rfl rfl rfl rfl rfl rfl ⟨rfl, rfl, rfl, rfl, rfl⟩ rfl rfl rfl rfl rfl (by kernel_rfl) Try.func9 (by kernel_rfl)
    (of_decide_eq_true (by kernel_rfl)) (by unfold Func.isWrapper; first | (rw [if_pos (by decide +kernel)]; kernel_rfl) | (rw [if_neg (by decide +kernel)]; exact ⟨rfl, rfl⟩))
    (fun os started H enc _ => plantSays_lifted os started H enc)

/-- THE STATEMENT -/
theorem plantSays_proved : Rows.PlantSaysSaid := plantSays_over
#print axioms plantSays_proved
end Go.Proofs.Ytplomeacjbkgnaa
