/-
  The walks of package tower, and of the reference's first chapter.
-/
import Derived.Test.YtplomeacjbkgnacBase
import Derived.Deep.Light
namespace Go.Proofs.Ytplomeacjbkgnac
open Go.RowKit

/-- an error, by its number (0: none) -/
def errV (n : Int) : Value := if n = 0 then .nilIface else .iface 71 (vi n)

@[simp] theorem errV_0 : errV 0 = .nilIface := rfl

theorem errV_pos {n : Int} (h : n ≠ 0) : errV n = .iface 71 (vi n) := by simp [errV, h]

theorem place_ok {p : Ch.Place} {n : Int} : Ch.placeFault p n = 0 ↔ (1 ≤ p.level ∧ p.level ≤ n ∧ 0 ≤ p.side ∧ p.side ≤ 1 ∧ 0 ≤ p.depth ∧ p.depth ≤ 1) := by
  unfold Ch.placeFault
  split <;> simp <;> omega

theorem place_bad {p : Ch.Place} {n : Int} (h : ¬ Ch.placeFault p n = 0) : Ch.placeFault p n = 1 := by
  unfold Ch.placeFault at *
  split <;> simp_all

theorem ret_err {n m : Int} (h : n = m) : Ending.returned (errV n) = .returned (errV m) := by rw [h]


set_option maxRecDepth 100000 in
set_option maxHeartbeats 1000000 in
theorem checkPlace_any (p : Ch.Place) (n : Int) (w : World) : Calls Try.prog 14 #[placeA p, vi n] w fun e w' => e = .returned (errV (Ch.placeFault p n)) ∧ Ext w w' := by
  obtain ⟨a, b, c⟩ := p
  go_enter Try.func14, Try.ntmps14
  go_wp2
  all_goals
    go_ret
    go_light
    refine ⟨?_, (by simp (maxDischargeDepth := 60))⟩
    simp only [Ch.placeFault]
    first | (rw [if_pos (by omega)]; rfl) | (rw [if_neg (by omega)]; rfl)


theorem ext_any (p : Ch.Place) (w : World) (h0 : 0 ≤ p.depth) (h1 : p.depth ≤ 1) : Calls Try.prog 45 #[placeA p] w fun e w' => e = .returned (vi (Ch.extOf p)) ∧ Ext w w' := by
  go_enter Try.func45, Try.ntmps45
  go_wp2
  all_goals
    go_ret
    go_light
    rename_i hx
    refine ⟨?_, (by simp (maxDischargeDepth := 60))⟩
    simp at hx
    simp [Ch.extOf, hx]


theorem front_any (p : Ch.Place) (w : World) : Calls Try.prog 16 #[placeA p] w fun e w' => e = .returned (placeA (Ch.front p)) ∧ Ext w w' := by
  go_enter Try.func16, Try.ntmps16
  go_wp2
  refine bodyPost_ret (v := placeA (Ch.front p)) (by simp [results, Try.results16, go_sem, Ch.front]) rfl ⟨rfl, (by simp (maxDischargeDepth := 60))⟩


/-! ### the same, at structs written out -/


theorem checkPlace_f (a b c n : Int) (w : World) : Calls Try.prog 14 #[.agg #[vi a, vi b, vi c], vi n] w fun e w' => e = .returned (errV (Ch.placeFault ⟨a, b, c⟩ n)) ∧ Ext w w' := checkPlace_any ⟨a, b, c⟩ n w


theorem ext_f (a b c : Int) (w : World) (h0 : 0 ≤ c) (h1 : c ≤ 1) : Calls Try.prog 45 #[.agg #[vi a, vi b, vi c]] w fun e w' => e = .returned (vi (Ch.extOf ⟨a, b, c⟩)) ∧ Ext w w' := ext_any ⟨a, b, c⟩ w h0 h1


theorem front_f (a b c : Int) (w : World) : Calls Try.prog 16 #[.agg #[vi a, vi b, vi c]] w fun e w' => e = .returned (.agg #[vi a, vi b, vi 0]) ∧ Ext w w' := front_any ⟨a, b, c⟩ w


end Go.Proofs.Ytplomeacjbkgnac
