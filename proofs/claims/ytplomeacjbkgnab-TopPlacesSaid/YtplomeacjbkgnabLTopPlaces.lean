/-
  'TopPlaces' holds: for every input the law's Go text answers true, and leaves the input as it was. No conditions.
-/
import Derived.Test.YtplomeacjbkgnabRows
import Derived.Test.YtplomeacjbkgnabRead
import Derived.Test.YtplomeacjbkgnabWTopPlaces
namespace Go.Proofs.Ytplomeacjbkgnab
open Go.ChangeShapes Go.WideShapes Go.ChangeAt Go.RowKit

set_option maxRecDepth 100000 in
theorem topPlaces_lifted (os : Os) (started : os.Started) (H : Type) (enc : TypeId × Value → H) :
    ReturnsInHanded {} Try.checked os 3 .any (Rows.topPlacesSpec.pre6 enc Try.prog Try.f3 Rows.topPlacesRow.domain false) (Rows.topPlacesSpec.post enc Try.prog Try.f3 false true false false) := by
  refine returnsInHanded_of_change (C := Try.checked) own started (by kernel_rfl) Try.func3
    (ChangeSpec.witness6 (enc := enc) (C := Try.checked) false ⟨#[], #[.int .i64 0], []⟩ 8 (by kernel_rfl) (by kernel_rfl) (by kernel_rfl) (by kernel_rfl)) ?_
  intro W base args ds gs before hval0 hW hcnd _
  have hval : ∀ (j : Nat) t v, Try.f3.params[j]? = some t → args[j]? = some v → Value.okWide Try.prog W .any base t v := hval0
  refine law_contract (tb := 4) laidOut Try.underlying4 (by kernel_rfl) rfl (fun ds hd => ?_) (by kernel_rfl) hW ?_
  · match ds, hd with
    | [_], _ => rfl
  obtain ⟨p, q, hA0, hV, rfl, hfz, hnd⟩ := hW
  have hA : DataW.TrodAll enc Try.prog W 0 (fun _ => true) true Try.f3.params.toList args.toList ds p := hA0
  rw [Try.params3] at hA hval
  obtain ⟨v0, vs0, d0, ds0, p0, q0, hargs, rfl, rfl, h0, r0⟩ := trodAll_cons hA
  obtain ⟨rfl, rfl, rfl⟩ := trodAll_nil r0
  obtain rfl : args = #[v0] := by cases args; simp_all
  obtain ⟨x0, rfl⟩ := okWide_int Try.underlying3 (hval 0 _ v0 rfl rfl)
  obtain ⟨_, e0, g0⟩ := rd_int Try.underlying3 (rd_of_trod h0)
  obtain rfl : x0 = _ := by simpa [Value.cells] using e0
  exact topPlaces_walk x0 W

theorem topPlaces_over : Rows.topPlacesRow.holds Try.pinned (OpenSpec.ofChange Rows.topPlacesSpec) :=
  OpenClaim.holds_of_wide 3 Try.f3 rfl rfl rfl rfl rfl rfl rfl ⟨rfl, rfl, rfl, rfl, rfl⟩ rfl rfl rfl rfl rfl (by kernel_rfl) Try.func3 (by kernel_rfl)
    (of_decide_eq_true (by kernel_rfl)) (by unfold Func.isWrapper; first | (rw [if_pos (by decide +kernel)]; kernel_rfl) | (rw [if_neg (by decide +kernel)]; exact ⟨rfl, rfl⟩))
    (fun os started H enc _ => topPlaces_lifted os started H enc)

/-- THE STATEMENT -/
theorem topPlaces_proved : Rows.TopPlacesSaid := topPlaces_over
#print axioms topPlaces_proved
end Go.Proofs.Ytplomeacjbkgnab
