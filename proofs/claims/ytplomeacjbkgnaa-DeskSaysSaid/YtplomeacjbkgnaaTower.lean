/-
  The walks of package tower, and of the reference's first chapter.
-/
import Derived.Test.YtplomeacjbkgnaaBase
import Derived.Deep.Light
namespace Go.Proofs.Ytplomeacjbkgnaa
open Go.RowKit

/-- an error, by its number (0: none) -/
def errV (n : Int) : Value := if n = 0 then .nilIface else .iface 133 (vi n)

@[simp] theorem errV_0 : errV 0 = .nilIface := rfl

theorem errV_pos {n : Int} (h : n ≠ 0) : errV n = .iface 133 (vi n) := by simp [errV, h]

theorem place_ok {p : Ch.Place} {n : Int} : Ch.placeFault p n = 0 ↔ (1 ≤ p.level ∧ p.level ≤ n ∧ 0 ≤ p.side ∧ p.side ≤ 1 ∧ 0 ≤ p.depth ∧ p.depth ≤ 1) := by
  unfold Ch.placeFault
  split <;> simp <;> omega

theorem place_bad {p : Ch.Place} {n : Int} (h : ¬ Ch.placeFault p n = 0) : Ch.placeFault p n = 1 := by
  unfold Ch.placeFault at *
  split <;> simp_all

theorem ret_err {n m : Int} (h : n = m) : Ending.returned (errV n) = .returned (errV m) := by rw [h]

set_option maxRecDepth 100000 in
set_option maxHeartbeats 1000000 in
theorem checkSize_any (s : Ch.Size) (w : World) : Calls Try.prog 31 #[sizeA s] w fun e w' => e = .returned (errV (Ch.sizeFault s)) ∧ Ext w w' := by
  obtain ⟨a, b, c⟩ := s
  go_enter Try.func31, Try.ntmps31
  go_wp2
  go_rounds 4
  all_goals
    go_ret
    go_light
    refine ⟨?_, (by simp (maxDischargeDepth := 60))⟩
    simp only [Ch.sizeFault]
    first | (rw [if_pos (by omega)]; rfl) | (rw [if_neg (by omega)]; rfl)

set_option maxRecDepth 100000 in
set_option maxHeartbeats 1000000 in
theorem rsizeFault_any (s : Ch.Size) (w : World) : Calls Try.prog 32 #[sizeA s] w fun e w' => e = .returned (vi (Ch.sizeFault s)) ∧ Ext w w' := by
  obtain ⟨a, b, c⟩ := s
  go_enter Try.func32, Try.ntmps32
  go_wp2
  all_goals
    go_ret
    go_light
    refine ⟨?_, (by simp (maxDischargeDepth := 60))⟩
    simp only [Ch.sizeFault]
    first | (rw [if_pos (by omega)]; rfl) | (rw [if_neg (by omega)]; rfl)

theorem fits_any (s r : Ch.Size) (w : World) : Calls Try.prog 38 #[sizeA s, sizeA r] w fun e w' => e = .returned (.bool (Ch.fits s r)) ∧ Ext w w' := by
  obtain ⟨a, b, c⟩ := s
  obtain ⟨a', b', c'⟩ := r
  go_enter Try.func38, Try.ntmps38
  go_wp2
  all_goals
    go_ret
    go_light
    refine ⟨?_, (by simp (maxDischargeDepth := 60))⟩
    refine congrArg (fun b => Ending.returned (.bool b)) ?_
    simp only [Ch.fits]
    grind

theorem rfits_any (s r : Ch.Size) (w : World) : Calls Try.prog 39 #[sizeA s, sizeA r] w fun e w' => e = .returned (.bool (Ch.fits s r)) ∧ Ext w w' := by
  obtain ⟨a, b, c⟩ := s
  obtain ⟨a', b', c'⟩ := r
  go_enter Try.func39, Try.ntmps39
  go_wp2
  all_goals
    go_ret
    go_light
    refine ⟨?_, (by simp (maxDischargeDepth := 60))⟩
    refine congrArg (fun b => Ending.returned (.bool b)) ?_
    simp only [Ch.fits]
    grind

set_option maxRecDepth 100000 in
set_option maxHeartbeats 1000000 in
theorem checkPlace_any (p : Ch.Place) (n : Int) (w : World) : Calls Try.prog 37 #[placeA p, vi n] w fun e w' => e = .returned (errV (Ch.placeFault p n)) ∧ Ext w w' := by
  obtain ⟨a, b, c⟩ := p
  go_enter Try.func37, Try.ntmps37
  go_wp2
  all_goals
    go_ret
    go_light
    refine ⟨?_, (by simp (maxDischargeDepth := 60))⟩
    simp only [Ch.placeFault]
    first | (rw [if_pos (by omega)]; rfl) | (rw [if_neg (by omega)]; rfl)

set_option maxRecDepth 100000 in
set_option maxHeartbeats 1000000 in
theorem rplaceFault_any (p : Ch.Place) (n : Int) (w : World) : Calls Try.prog 20 #[placeA p, vi n] w fun e w' => e = .returned (vi (Ch.placeFault p n)) ∧ Ext w w' := by
  obtain ⟨a, b, c⟩ := p
  go_enter Try.func20, Try.ntmps20
  go_wp2
  all_goals
    go_ret
    go_light
    refine ⟨?_, (by simp (maxDischargeDepth := 60))⟩
    simp only [Ch.placeFault]
    first | (rw [if_pos (by omega)]; rfl) | (rw [if_neg (by omega)]; rfl)

theorem ext_any (p : Ch.Place) (w : World) (h0 : 0 ≤ p.depth) (h1 : p.depth ≤ 1) : Calls Try.prog 46 #[placeA p] w fun e w' => e = .returned (vi (Ch.extOf p)) ∧ Ext w w' := by
  go_enter Try.func46, Try.ntmps46
  go_wp2
  all_goals
    go_ret
    go_light
    rename_i hx
    refine ⟨?_, (by simp (maxDischargeDepth := 60))⟩
    simp at hx
    simp [Ch.extOf, hx]

theorem rext_any (p : Ch.Place) (w : World) (h0 : 0 ≤ p.depth) (h1 : p.depth ≤ 1) : Calls Try.prog 47 #[placeA p] w fun e w' => e = .returned (vi (Ch.extOf p)) ∧ Ext w w' := by
  go_enter Try.func47, Try.ntmps47
  go_wp2
  all_goals
    go_ret
    go_light
    rename_i hx
    refine ⟨?_, (by simp (maxDischargeDepth := 60))⟩
    simp at hx
    simp [Ch.extOf, hx]
    try omega

theorem front_any (p : Ch.Place) (w : World) : Calls Try.prog 40 #[placeA p] w fun e w' => e = .returned (placeA (Ch.front p)) ∧ Ext w w' := by
  go_enter Try.func40, Try.ntmps40
  go_wp2
  refine bodyPost_ret (v := placeA (Ch.front p)) (by simp [results, Try.results40, go_sem, Ch.front]) rfl ⟨rfl, (by simp (maxDischargeDepth := 60))⟩

theorem spare_any (n : Int) (w : World) : Calls Try.prog 41 #[vi n] w fun e w' => e = .returned (placeA (Ch.spare n)) ∧ Ext w w' := by
  go_enter Try.func41, Try.ntmps41
  go_wp2
  refine bodyPost_ret (v := placeA (Ch.spare n)) (by simp [results, Try.results41, go_sem, Ch.spare]) rfl ⟨rfl, (by simp (maxDischargeDepth := 60))⟩

theorem rspare_any (n : Int) (w : World) : Calls Try.prog 42 #[vi n] w fun e w' => e = .returned (placeA (Ch.spare n)) ∧ Ext w w' := by
  go_enter Try.func42, Try.ntmps42
  go_wp2
  refine bodyPost_ret (v := placeA (Ch.spare n)) (by simp [results, Try.results42, go_sem, Ch.spare]) rfl ⟨rfl, (by simp (maxDischargeDepth := 60))⟩
/-! ### the same, at structs written out -/

theorem checkSize_f (a b c : Int) (w : World) : Calls Try.prog 31 #[.agg #[vi a, vi b, vi c]] w fun e w' => e = .returned (errV (Ch.sizeFault ⟨a, b, c⟩)) ∧ Ext w w' := checkSize_any ⟨a, b, c⟩ w

theorem rsizeFault_f (a b c : Int) (w : World) : Calls Try.prog 32 #[.agg #[vi a, vi b, vi c]] w fun e w' => e = .returned (vi (Ch.sizeFault ⟨a, b, c⟩)) ∧ Ext w w' := rsizeFault_any ⟨a, b, c⟩ w

theorem fits_f (a b c a' b' c' : Int) (w : World) : Calls Try.prog 38 #[.agg #[vi a, vi b, vi c], .agg #[vi a', vi b', vi c']] w fun e w' => e = .returned (.bool (Ch.fits ⟨a, b, c⟩ ⟨a', b', c'⟩)) ∧ Ext w w' := fits_any ⟨a, b, c⟩ ⟨a', b', c'⟩ w

theorem rfits_f (a b c a' b' c' : Int) (w : World) : Calls Try.prog 39 #[.agg #[vi a, vi b, vi c], .agg #[vi a', vi b', vi c']] w fun e w' => e = .returned (.bool (Ch.fits ⟨a, b, c⟩ ⟨a', b', c'⟩)) ∧ Ext w w' := rfits_any ⟨a, b, c⟩ ⟨a', b', c'⟩ w

theorem checkPlace_f (a b c n : Int) (w : World) : Calls Try.prog 37 #[.agg #[vi a, vi b, vi c], vi n] w fun e w' => e = .returned (errV (Ch.placeFault ⟨a, b, c⟩ n)) ∧ Ext w w' := checkPlace_any ⟨a, b, c⟩ n w

theorem rplaceFault_f (a b c n : Int) (w : World) : Calls Try.prog 20 #[.agg #[vi a, vi b, vi c], vi n] w fun e w' => e = .returned (vi (Ch.placeFault ⟨a, b, c⟩ n)) ∧ Ext w w' := rplaceFault_any ⟨a, b, c⟩ n w

theorem ext_f (a b c : Int) (w : World) (h0 : 0 ≤ c) (h1 : c ≤ 1) : Calls Try.prog 46 #[.agg #[vi a, vi b, vi c]] w fun e w' => e = .returned (vi (Ch.extOf ⟨a, b, c⟩)) ∧ Ext w w' := ext_any ⟨a, b, c⟩ w h0 h1

theorem rext_f (a b c : Int) (w : World) (h0 : 0 ≤ c) (h1 : c ≤ 1) : Calls Try.prog 47 #[.agg #[vi a, vi b, vi c]] w fun e w' => e = .returned (vi (Ch.extOf ⟨a, b, c⟩)) ∧ Ext w w' := rext_any ⟨a, b, c⟩ w h0 h1

theorem front_f (a b c : Int) (w : World) : Calls Try.prog 40 #[.agg #[vi a, vi b, vi c]] w fun e w' => e = .returned (.agg #[vi a, vi b, vi 0]) ∧ Ext w w' := front_any ⟨a, b, c⟩ w

theorem spare_f (n : Int) (w : World) : Calls Try.prog 41 #[vi n] w fun e w' => e = .returned (.agg #[vi n, vi 1, vi 0]) ∧ Ext w w' := spare_any n w

theorem rspare_f (n : Int) (w : World) : Calls Try.prog 42 #[vi n] w fun e w' => e = .returned (.agg #[vi n, vi 1, vi 0]) ∧ Ext w w' := rspare_any n w
end Go.Proofs.Ytplomeacjbkgnaa
