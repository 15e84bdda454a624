/-
  The walks of package tower, and of the reference's first chapter.
-/
import Derived.Test.YtplomeacjbkgnaaDoorBase
import Derived.Deep.Light
namespace Go.Proofs.YtplomeacjbkgnaaDoor
open Go.RowKit

/-- an error, by its number (0: none) -/
def errV (n : Int) : Value := if n = 0 then .nilIface else .iface 23 (vi n)

@[simp] theorem errV_0 : errV 0 = .nilIface := rfl

theorem errV_pos {n : Int} (h : n ≠ 0) : errV n = .iface 23 (vi n) := by simp [errV, h]

theorem place_ok {p : Ch.Place} {n : Int} : Ch.placeFault p n = 0 ↔ (1 ≤ p.level ∧ p.level ≤ n ∧ 0 ≤ p.side ∧ p.side ≤ 1 ∧ 0 ≤ p.depth ∧ p.depth ≤ 1) := by
  unfold Ch.placeFault
  split <;> simp <;> omega

theorem place_bad {p : Ch.Place} {n : Int} (h : ¬ Ch.placeFault p n = 0) : Ch.placeFault p n = 1 := by
  unfold Ch.placeFault at *
  split <;> simp_all

theorem ret_err {n m : Int} (h : n = m) : Ending.returned (errV n) = .returned (errV m) := by rw [h]

set_option maxRecDepth 100000 in
set_option maxHeartbeats 1000000 in
theorem checkSize_any (s : Ch.Size) (w : World) : Calls Tryd.prog 49 #[sizeA s] w fun e w' => e = .returned (errV (Ch.sizeFault s)) ∧ Ext w w' := by
  obtain ⟨a, b, c⟩ := s
  go_enter Tryd.func49, Tryd.ntmps49
  go_wp2
  go_rounds 4
  all_goals
    go_ret
    go_light
    refine ⟨?_, (by simp (maxDischargeDepth := 60))⟩
    simp only [Ch.sizeFault]
    first | (rw [if_pos (by omega)]; rfl) | (rw [if_neg (by omega)]; rfl)

set_option maxRecDepth 100000 in
set_option maxHeartbeats 1000000 in
theorem rsizeFault_any (s : Ch.Size) (w : World) : Calls Tryd.prog 37 #[sizeA s] w fun e w' => e = .returned (vi (Ch.sizeFault s)) ∧ Ext w w' := by
  obtain ⟨a, b, c⟩ := s
  go_enter Tryd.func37, Tryd.ntmps37
  go_wp2
  all_goals
    go_ret
    go_light
    refine ⟨?_, (by simp (maxDischargeDepth := 60))⟩
    simp only [Ch.sizeFault]
    first | (rw [if_pos (by omega)]; rfl) | (rw [if_neg (by omega)]; rfl)


set_option maxRecDepth 100000 in
set_option maxHeartbeats 1000000 in
theorem checkPlace_any (p : Ch.Place) (n : Int) (w : World) : Calls Tryd.prog 39 #[placeA p, vi n] w fun e w' => e = .returned (errV (Ch.placeFault p n)) ∧ Ext w w' := by
  obtain ⟨a, b, c⟩ := p
  go_enter Tryd.func39, Tryd.ntmps39
  go_wp2
  all_goals
    go_ret
    go_light
    refine ⟨?_, (by simp (maxDischargeDepth := 60))⟩
    simp only [Ch.placeFault]
    first | (rw [if_pos (by omega)]; rfl) | (rw [if_neg (by omega)]; rfl)

set_option maxRecDepth 100000 in
set_option maxHeartbeats 1000000 in
theorem rplaceFault_any (p : Ch.Place) (n : Int) (w : World) : Calls Tryd.prog 23 #[placeA p, vi n] w fun e w' => e = .returned (vi (Ch.placeFault p n)) ∧ Ext w w' := by
  obtain ⟨a, b, c⟩ := p
  go_enter Tryd.func23, Tryd.ntmps23
  go_wp2
  all_goals
    go_ret
    go_light
    refine ⟨?_, (by simp (maxDischargeDepth := 60))⟩
    simp only [Ch.placeFault]
    first | (rw [if_pos (by omega)]; rfl) | (rw [if_neg (by omega)]; rfl)




/-! ### the same, at structs written out -/

theorem checkSize_f (a b c : Int) (w : World) : Calls Tryd.prog 49 #[.agg #[vi a, vi b, vi c]] w fun e w' => e = .returned (errV (Ch.sizeFault ⟨a, b, c⟩)) ∧ Ext w w' := checkSize_any ⟨a, b, c⟩ w

theorem rsizeFault_f (a b c : Int) (w : World) : Calls Tryd.prog 37 #[.agg #[vi a, vi b, vi c]] w fun e w' => e = .returned (vi (Ch.sizeFault ⟨a, b, c⟩)) ∧ Ext w w' := rsizeFault_any ⟨a, b, c⟩ w


theorem checkPlace_f (a b c n : Int) (w : World) : Calls Tryd.prog 39 #[.agg #[vi a, vi b, vi c], vi n] w fun e w' => e = .returned (errV (Ch.placeFault ⟨a, b, c⟩ n)) ∧ Ext w w' := checkPlace_any ⟨a, b, c⟩ n w

theorem rplaceFault_f (a b c n : Int) (w : World) : Calls Tryd.prog 23 #[.agg #[vi a, vi b, vi c], vi n] w fun e w' => e = .returned (vi (Ch.placeFault ⟨a, b, c⟩ n)) ∧ Ext w w' := rplaceFault_any ⟨a, b, c⟩ n w




end Go.Proofs.YtplomeacjbkgnaaDoor
