/-
  The walk of 'same': an error held against its number.
-/
import Derived.Test.YtplomeacjbkgnaaTower
namespace Go.Proofs.Ytplomeacjbkgnaa
open Go.RowKit

set_option maxRecDepth 100000 in
set_option maxHeartbeats 1000000 in
theorem same_yes (n : Int) (w : World) (h : 0 ≤ n) : Calls Try.prog 30 #[errV n, vi n] w fun e w' => e = .returned (.bool true) ∧ Ext w w' := by
  by_cases h0 : n = 0
  · subst h0
    show Calls _ _ #[.nilIface, vi 0] _ _
    go_enter Try.func30, Try.ntmps30
    go_wp2
    go_ret
    exact ⟨by simp, (by simp (maxDischargeDepth := 60))⟩
  · rw [errV_pos h0]
    have h1 : 0 < n := by omega
    have ht : ∀ w, (Instr.typeAssert (.iface 133 (vi n)) 47 133 true).run Try.prog w = .ok (.tuple #[vi n, .bool true]) w := fun w => by kernel_rfl
    clear h h0
    go_enter Try.func30, Try.ntmps30
    go_wp2
    go_ret
    exact ⟨by simp, (by simp (maxDischargeDepth := 60))⟩

theorem sizeFault_nn (s : Ch.Size) : 0 ≤ Ch.sizeFault s := by unfold Ch.sizeFault; split <;> omega

theorem carFault_nn (c : Ch.Car) : 0 ≤ Ch.carFault c := by unfold Ch.carFault; split; omega; exact sizeFault_nn _

theorem placeFault_nn (p : Ch.Place) (n : Int) : 0 ≤ Ch.placeFault p n := by unfold Ch.placeFault; split <;> omega

theorem levelsFrom_nn (last : Ch.Size) : ∀ l, 0 ≤ Ch.levelsFaultFrom last l
  | [] => by simp [Ch.levelsFaultFrom]
  | s :: l => by
    have h := levelsFrom_nn last l
    have h2 := sizeFault_nn s
    unfold Ch.levelsFaultFrom
    split
    · exact h2
    · split
      · omega
      · exact h

theorem levelsFault_nn (l : List Ch.Size) : 0 ≤ Ch.levelsFault l := by
  unfold Ch.levelsFault
  split
  · omega
  · exact levelsFrom_nn _ _
end Go.Proofs.Ytplomeacjbkgnaa
