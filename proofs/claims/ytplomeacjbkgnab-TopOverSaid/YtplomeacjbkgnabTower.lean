/-
  The walks of package tower, and of the reference's first chapter.
-/
import Derived.Test.YtplomeacjbkgnabBase
import Derived.Deep.Light
namespace Go.Proofs.Ytplomeacjbkgnab
open Go.RowKit

/-- an error, by its number (0: none) -/
def errV (n : Int) : Value := if n = 0 then .nilIface else .iface 100 (vi n)

@[simp] theorem errV_0 : errV 0 = .nilIface := rfl

theorem errV_pos {n : Int} (h : n ≠ 0) : errV n = .iface 100 (vi n) := by simp [errV, h]

theorem place_ok {p : Ch.Place} {n : Int} : Ch.placeFault p n = 0 ↔ (1 ≤ p.level ∧ p.level ≤ n ∧ 0 ≤ p.side ∧ p.side ≤ 1 ∧ 0 ≤ p.depth ∧ p.depth ≤ 1) := by
  unfold Ch.placeFault
  split <;> simp <;> omega

theorem place_bad {p : Ch.Place} {n : Int} (h : ¬ Ch.placeFault p n = 0) : Ch.placeFault p n = 1 := by
  unfold Ch.placeFault at *
  split <;> simp_all

theorem ret_err {n m : Int} (h : n = m) : Ending.returned (errV n) = .returned (errV m) := by rw [h]

set_option maxRecDepth 100000 in
set_option maxHeartbeats 1000000 in
theorem checkSize_any (s : Ch.Size) (w : World) : Calls Try.prog 48 #[sizeA s] w fun e w' => e = .returned (errV (Ch.sizeFault s)) ∧ Ext w w' := by
  obtain ⟨a, b, c⟩ := s
  go_enter Try.func48, Try.ntmps48
  go_wp2
  go_rounds 4
  all_goals
    go_ret
    go_light
    refine ⟨?_, (by simp (maxDischargeDepth := 60))⟩
    simp only [Ch.sizeFault]
    first | (rw [if_pos (by omega)]; rfl) | (rw [if_neg (by omega)]; rfl)


theorem fits_any (s r : Ch.Size) (w : World) : Calls Try.prog 17 #[sizeA s, sizeA r] w fun e w' => e = .returned (.bool (Ch.fits s r)) ∧ Ext w w' := by
  obtain ⟨a, b, c⟩ := s
  obtain ⟨a', b', c'⟩ := r
  go_enter Try.func17, Try.ntmps17
  go_wp2
  all_goals
    go_ret
    go_light
    refine ⟨?_, (by simp (maxDischargeDepth := 60))⟩
    refine congrArg (fun b => Ending.returned (.bool b)) ?_
    simp only [Ch.fits]
    grind


set_option maxRecDepth 100000 in
set_option maxHeartbeats 1000000 in
theorem checkPlace_any (p : Ch.Place) (n : Int) (w : World) : Calls Try.prog 15 #[placeA p, vi n] w fun e w' => e = .returned (errV (Ch.placeFault p n)) ∧ Ext w w' := by
  obtain ⟨a, b, c⟩ := p
  go_enter Try.func15, Try.ntmps15
  go_wp2
  all_goals
    go_ret
    go_light
    refine ⟨?_, (by simp (maxDischargeDepth := 60))⟩
    simp only [Ch.placeFault]
    first | (rw [if_pos (by omega)]; rfl) | (rw [if_neg (by omega)]; rfl)


theorem front_any (p : Ch.Place) (w : World) : Calls Try.prog 16 #[placeA p] w fun e w' => e = .returned (placeA (Ch.front p)) ∧ Ext w w' := by
  go_enter Try.func16, Try.ntmps16
  go_wp2
  refine bodyPost_ret (v := placeA (Ch.front p)) (by simp [results, Try.results16, go_sem, Ch.front]) rfl ⟨rfl, (by simp (maxDischargeDepth := 60))⟩

theorem spare_any (n : Int) (w : World) : Calls Try.prog 14 #[vi n] w fun e w' => e = .returned (placeA (Ch.spare n)) ∧ Ext w w' := by
  go_enter Try.func14, Try.ntmps14
  go_wp2
  refine bodyPost_ret (v := placeA (Ch.spare n)) (by simp [results, Try.results14, go_sem, Ch.spare]) rfl ⟨rfl, (by simp (maxDischargeDepth := 60))⟩

/-! ### the same, at structs written out -/

theorem checkSize_f (a b c : Int) (w : World) : Calls Try.prog 48 #[.agg #[vi a, vi b, vi c]] w fun e w' => e = .returned (errV (Ch.sizeFault ⟨a, b, c⟩)) ∧ Ext w w' := checkSize_any ⟨a, b, c⟩ w


theorem fits_f (a b c a' b' c' : Int) (w : World) : Calls Try.prog 17 #[.agg #[vi a, vi b, vi c], .agg #[vi a', vi b', vi c']] w fun e w' => e = .returned (.bool (Ch.fits ⟨a, b, c⟩ ⟨a', b', c'⟩)) ∧ Ext w w' := fits_any ⟨a, b, c⟩ ⟨a', b', c'⟩ w


theorem checkPlace_f (a b c n : Int) (w : World) : Calls Try.prog 15 #[.agg #[vi a, vi b, vi c], vi n] w fun e w' => e = .returned (errV (Ch.placeFault ⟨a, b, c⟩ n)) ∧ Ext w w' := checkPlace_any ⟨a, b, c⟩ n w


theorem front_f (a b c : Int) (w : World) : Calls Try.prog 16 #[.agg #[vi a, vi b, vi c]] w fun e w' => e = .returned (.agg #[vi a, vi b, vi 0]) ∧ Ext w w' := front_any ⟨a, b, c⟩ w

theorem spare_f (n : Int) (w : World) : Calls Try.prog 14 #[vi n] w fun e w' => e = .returned (.agg #[vi n, vi 1, vi 0]) ∧ Ext w w' := spare_any n w

end Go.Proofs.Ytplomeacjbkgnab
