/-
  The walks of the statements' own small functions on books: LightBook, One.
-/
import Derived.Test.YtplomeacjbkgnabPick2
namespace Go.Proofs.Ytplomeacjbkgnab
open Go.RowKit

set_option maxRecDepth 100000 in
set_option maxHeartbeats 1000000 in
theorem lightBook_any (bb : Bool) (last : Int) (a1 : Option Addr) (m1 c1 : Nat) (a2 : Option Addr) (m2 c2 : Nat) (w : World) (hb : Hid (decide (m1 ≤ 20 ∧ m2 ≤ 12) = bb)) :
    Calls Try.prog 36 #[bookA last a1 m1 c1 a2 m2 c2] w fun e w' => e = .returned (.bool bb) ∧ Ext w w' := by
  by_cases h1 : m1 ≤ 20
  · have i1 : (m1 : Int) ≤ 20 := by omega
    by_cases h2 : m2 ≤ 12
    · have i2 : (m2 : Int) ≤ 12 := by omega
      have HR : Hid (bb = true) := by unfold Hid; rw [← hb.out]; exact decide_eq_true ⟨h1, h2⟩
      clear h1 h2 hb
      go_enter Try.func36, Try.ntmps36
      go_wp2
      go_ret
      exact ⟨by rw [HR.out]; rfl, (by simp (maxDischargeDepth := 60))⟩
    · have i2 : decide ((m2 : Int) ≤ 12) = false := decide_eq_false (by omega)
      have i3 : ¬ ((m2 : Int) ≤ 12) := by omega
      have HR : Hid (bb = false) := by unfold Hid; rw [← hb.out]; exact decide_eq_false (fun h => h2 h.2)
      clear h1 h2 hb
      go_enter Try.func36, Try.ntmps36
      go_wp2
      go_ret
      exact ⟨by rw [HR.out, ← i2]; rfl, (by simp (maxDischargeDepth := 60))⟩
  · have i1 : (20 : Int) < (m1 : Int) := by omega
    have HR : Hid (bb = false) := by unfold Hid; rw [← hb.out]; exact decide_eq_false (fun h => h1 h.1)
    clear h1 hb
    go_enter Try.func36, Try.ntmps36
    go_wp2
    go_ret
    exact ⟨by rw [HR.out]; rfl, (by simp (maxDischargeDepth := 60))⟩

set_option maxRecDepth 100000 in
set_option maxHeartbeats 1000000 in
theorem one_any (w : World) : Calls Try.prog 40 #[] w fun e w' => ∃ b, e = .returned (.slice (some ⟨b, 0, none⟩) 1 1) ∧ Sl w' 3 sizeCells [⟨99, 99, 99⟩] (some ⟨b, 0, none⟩) 1 1 ∧ Ext w w' := by
  go_enter Try.func40, Try.ntmps40
  go_wp2
  go_ret
  refine ⟨w.heap.size, rfl, ⟨rfl, Nat.le_refl _, by decide, fun _ => ⟨w.heap.size, 0, rfl, ?_⟩⟩, (by simp (maxDischargeDepth := 60))⟩
  intro i x hx j y hy
  match i, hx with
  | 0, hx =>
    cases hx
    match j, hy with
    | 0, hy => cases hy; simp [go_sem]
    | 1, hy => cases hy; simp [go_sem]
    | 2, hy => cases hy; simp [go_sem]
end Go.Proofs.Ytplomeacjbkgnab
