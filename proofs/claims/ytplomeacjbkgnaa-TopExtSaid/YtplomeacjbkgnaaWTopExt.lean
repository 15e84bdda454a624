/-
  The walk of TopExt.
-/
import Derived.Test.YtplomeacjbkgnaaTower
namespace Go.Proofs.Ytplomeacjbkgnaa
open Go.RowKit

set_option maxRecDepth 100000 in
set_option maxHeartbeats 1000000 in
theorem topExt_ok (la sa da lb sb db : Int) (w : World) (Ea : errV (Ch.placeFault ⟨la, sa, da⟩ 4) = .nilIface) (Eb : errV (Ch.placeFault ⟨lb, sb, db⟩ 4) = .nilIface)
    (h0 : sa = 0 ∨ sa = 1) (h1 : da = 0 ∨ da = 1) (h2 : sb = 0 ∨ sb = 1) (h3 : db = 0 ∨ db = 1) :
    Calls Try.prog 11 #[.agg #[vi la, vi sa, vi da], .agg #[vi lb, vi sb, vi db]] w fun e w' => e = .returned (.bool true) ∧ Ext w w' := by
  have X00 : ∀ l, Ch.extOf ⟨l, 0, 0⟩ = -1 := fun _ => rfl
  have X01 : ∀ l, Ch.extOf ⟨l, 0, 1⟩ = -2 := fun _ => rfl
  have X10 : ∀ l, Ch.extOf ⟨l, 1, 0⟩ = 1 := fun _ => rfl
  have X11 : ∀ l, Ch.extOf ⟨l, 1, 1⟩ = 2 := fun _ => rfl
  rcases h0 with rfl | rfl <;> rcases h1 with rfl | rfl <;> rcases h2 with rfl | rfl <;> rcases h3 with rfl | rfl <;>
  · go_enter Try.func11, Try.ntmps11
    go_wp2_with (first
      | (go_at_call 37; (with_reducible refine (checkPlace_f _ _ _ _ _).mono ?_); rintro e w1 ⟨rfl, o1, n1, rfl⟩)
      | (go_at_call 40; (with_reducible refine (front_f _ _ _ _).mono ?_); rintro e w1 ⟨rfl, o1, n1, rfl⟩)
      | (go_at_call 46; (with_reducible refine (ext_f _ _ _ _ (by decide) (by decide)).mono ?_); rintro e w1 ⟨rfl, o1, n1, rfl⟩))
    go_ret
    exact ⟨rfl, (by simp (maxDischargeDepth := 60))⟩

set_option maxRecDepth 100000 in
set_option maxHeartbeats 1000000 in
theorem topExt_no (la sa da lb sb db : Int) (w : World) (h : (errV (Ch.placeFault ⟨la, sa, da⟩ 4) = .iface 133 (vi 1)) ∨ (errV (Ch.placeFault ⟨la, sa, da⟩ 4) = .nilIface ∧ errV (Ch.placeFault ⟨lb, sb, db⟩ 4) = .iface 133 (vi 1))) :
    Calls Try.prog 11 #[.agg #[vi la, vi sa, vi da], .agg #[vi lb, vi sb, vi db]] w fun e w' => e = .returned (.bool true) ∧ Ext w w' := by
  have X00 : ∀ l, Ch.extOf ⟨l, 0, 0⟩ = -1 := fun _ => rfl
  rcases h with Ea | ⟨Ea, Eb⟩ <;>
  · go_enter Try.func11, Try.ntmps11
    go_wp2_with (first
      | (go_at_call 37; (with_reducible refine (checkPlace_f _ _ _ _ _).mono ?_); rintro e w1 ⟨rfl, o1, n1, rfl⟩)
      | (go_at_call 46; (with_reducible refine (ext_f _ _ _ _ (by decide) (by decide)).mono ?_); rintro e w1 ⟨rfl, o1, n1, rfl⟩))
    go_ret
    exact ⟨rfl, (by simp (maxDischargeDepth := 60))⟩

theorem topExt_walk (a b : Ch.Place) (w : World) : Calls Try.prog 11 #[placeA a, placeA b] w fun e w' => e = .returned (.bool true) ∧ Ext w w' := by
  by_cases ha : Ch.placeFault a 4 = 0
  · by_cases hb : Ch.placeFault b 4 = 0
    · have ga := place_ok.1 ha
      have gb := place_ok.1 hb
      exact topExt_ok _ _ _ _ _ _ w (by show errV (Ch.placeFault a 4) = _; rw [ha]; rfl) (by show errV (Ch.placeFault b 4) = _; rw [hb]; rfl) (by omega) (by omega) (by omega) (by omega)
    · exact topExt_no _ _ _ _ _ _ w (.inr ⟨by show errV (Ch.placeFault a 4) = _; rw [ha]; rfl, by show errV (Ch.placeFault b 4) = _; rw [place_bad hb]; rfl⟩)
  · exact topExt_no _ _ _ _ _ _ w (.inl (by show errV (Ch.placeFault a 4) = _; rw [place_bad ha]; rfl))
end Go.Proofs.Ytplomeacjbkgnaa
