/-
  The walks of tower.CheckCar, tower.Check, and of the reference's CarFault, LevelsFault.
-/
import Derived.Test.YtplomeacjbkgnaaDoorTower
namespace Go.Proofs.YtplomeacjbkgnaaDoor
open Go.RowKit

set_option maxRecDepth 100000 in
set_option maxHeartbeats 1000000 in
theorem checkCar_f (x a b c : Int) (w : World) : Calls Tryd.prog 38 #[.agg #[vi x, vi a, vi b, vi c]] w fun e w' => e = .returned (errV (Ch.carFault ⟨x, ⟨a, b, c⟩⟩)) ∧ Ext w w' := by
  go_enter Tryd.func38, Tryd.ntmps38
  go_wp2_with (go_at_call 49; (with_reducible refine (checkSize_f _ _ _ _).mono ?_); rintro e w1 ⟨rfl, o1, n1, rfl⟩)
  all_goals
    go_ret
    go_light
    refine ⟨?_, (by simp (maxDischargeDepth := 60))⟩
    simp only [Ch.carFault]
    first | (rw [if_pos (by omega)]; rfl) | (rw [if_neg (by omega)]; rfl) | (rw [if_neg (by omega)])

theorem checkCar_any (c : Ch.Car) (w : World) : Calls Tryd.prog 38 #[carA c] w fun e w' => e = .returned (errV (Ch.carFault c)) ∧ Ext w w' := checkCar_f _ _ _ _ w

set_option maxRecDepth 100000 in
set_option maxHeartbeats 1000000 in
theorem rcarFault_f (x a b c : Int) (w : World) : Calls Tryd.prog 22 #[.agg #[vi x, vi a, vi b, vi c]] w fun e w' => e = .returned (vi (Ch.carFault ⟨x, ⟨a, b, c⟩⟩)) ∧ Ext w w' := by
  go_enter Tryd.func22, Tryd.ntmps22
  go_wp2_with (go_at_call 37; (with_reducible refine (rsizeFault_f _ _ _ _).mono ?_); rintro e w1 ⟨rfl, o1, n1, rfl⟩)
  all_goals
    go_ret
    go_light
    refine ⟨?_, (by simp (maxDischargeDepth := 60))⟩
    simp only [Ch.carFault]
    first | (rw [if_pos (by omega)]; rfl) | (rw [if_neg (by omega)]; rfl) | (rw [if_neg (by omega)])

theorem rcarFault_any (c : Ch.Car) (w : World) : Calls Tryd.prog 22 #[carA c] w fun e w' => e = .returned (vi (Ch.carFault c)) ∧ Ext w w' := rcarFault_f _ _ _ _ w

theorem levels_step {last s : Ch.Size} {l : List Ch.Size} {k : Nat} (hs : l[k]? = some s) (h0 : Ch.sizeFault s = 0) (h1 : Ch.fits s last = true) : Ch.levelsFaultFrom last (l.drop k) = Ch.levelsFaultFrom last (l.drop (k + 1)) := by
  have hk : k < l.length := by
    by_cases h : k < l.length
    · exact h
    · rw [List.getElem?_eq_none (by omega)] at hs; cases hs
  rw [List.drop_eq_getElem_cons hk]
  rw [List.getElem?_eq_getElem hk] at hs
  cases hs
  simp [Ch.levelsFaultFrom, h0, h1]

theorem levels_size {last s : Ch.Size} {l : List Ch.Size} {k : Nat} (hs : l[k]? = some s) (h0 : Ch.sizeFault s = 1) : Ch.levelsFaultFrom last (l.drop k) = 1 := by
  have hk : k < l.length := by
    by_cases h : k < l.length
    · exact h
    · rw [List.getElem?_eq_none (by omega)] at hs; cases hs
  rw [List.drop_eq_getElem_cons hk]
  rw [List.getElem?_eq_getElem hk] at hs
  cases hs
  simp [Ch.levelsFaultFrom, h0]

theorem levels_fits {last s : Ch.Size} {l : List Ch.Size} {k : Nat} (hs : l[k]? = some s) (h0 : Ch.sizeFault s = 0) (h1 : Ch.fits s last = false) : Ch.levelsFaultFrom last (l.drop k) = 3 := by
  have hk : k < l.length := by
    by_cases h : k < l.length
    · exact h
    · rw [List.getElem?_eq_none (by omega)] at hs; cases hs
  rw [List.drop_eq_getElem_cons hk]
  rw [List.getElem?_eq_getElem hk] at hs
  cases hs
  simp [Ch.levelsFaultFrom, h0, h1]

theorem size_bad {s : Ch.Size} (h : ¬ Ch.sizeFault s = 0) : Ch.sizeFault s = 1 := by
  unfold Ch.sizeFault at *
  split <;> simp_all

end Go.Proofs.YtplomeacjbkgnaaDoor
