/-
  The walks of the statements' own small functions on books: LightBook, One.
-/
import Derived.Test.YtplomeacjbkgnaaPick2
import Derived.Test.YtplomeacjbkgnaaLevels
namespace Go.Proofs.Ytplomeacjbkgnaa
open Go.RowKit

set_option maxRecDepth 100000 in
set_option maxHeartbeats 1000000 in
theorem lightBook_any (bb : Bool) (last : Int) (a1 : Option Addr) (m1 c1 : Nat) (a2 : Option Addr) (m2 c2 : Nat) (w : World) (hb : Hid (decide (m1 ≤ 20 ∧ m2 ≤ 12) = bb)) :
    Calls Try.prog 64 #[bookA last a1 m1 c1 a2 m2 c2] w fun e w' => e = .returned (.bool bb) ∧ Ext w w' := by
  by_cases h1 : m1 ≤ 20
  · have i1 : (m1 : Int) ≤ 20 := by omega
    by_cases h2 : m2 ≤ 12
    · have i2 : (m2 : Int) ≤ 12 := by omega
      have HR : Hid (bb = true) := by unfold Hid; rw [← hb.out]; exact decide_eq_true ⟨h1, h2⟩
      clear h1 h2 hb
      go_enter Try.func64, Try.ntmps64
      go_wp2
      go_ret
      exact ⟨by rw [HR.out]; rfl, (by simp (maxDischargeDepth := 60))⟩
    · have i2 : decide ((m2 : Int) ≤ 12) = false := decide_eq_false (by omega)
      have i3 : ¬ ((m2 : Int) ≤ 12) := by omega
      have HR : Hid (bb = false) := by unfold Hid; rw [← hb.out]; exact decide_eq_false (fun h => h2 h.2)
      clear h1 h2 hb
      go_enter Try.func64, Try.ntmps64
      go_wp2
      go_ret
      exact ⟨by rw [HR.out, ← i2]; rfl, (by simp (maxDischargeDepth := 60))⟩
  · have i1 : (20 : Int) < (m1 : Int) := by omega
    have HR : Hid (bb = false) := by unfold Hid; rw [← hb.out]; exact decide_eq_false (fun h => h1 h.1)
    clear h1 hb
    go_enter Try.func64, Try.ntmps64
    go_wp2
    go_ret
    exact ⟨by rw [HR.out]; rfl, (by simp (maxDischargeDepth := 60))⟩

theorem check_at (V : Value) (a : Option Addr) (n cap : Nat) (l : List Ch.Size) (w : World) (h : Sl w 3 sizeCells l a n cap) (hv : Hid (errV (Ch.levelsFault l) = V)) : Calls Try.prog 35 #[.slice a n cap] w fun e w' => e = .returned V ∧ Ext w w' := by
  have := check_any a n cap l w h
  rw [hv.out] at this
  exact this

theorem fits_at (F : Bool) (a b c a' b' c' : Int) (w : World) (hf : Hid (Ch.fits ⟨a, b, c⟩ ⟨a', b', c'⟩ = F)) : Calls Try.prog 38 #[.agg #[vi a, vi b, vi c], .agg #[vi a', vi b', vi c']] w fun e w' => e = .returned (.bool F) ∧ Ext w w' := by
  have := fits_f a b c a' b' c' w
  rw [hf.out] at this
  exact this

theorem levels_len {l : List Ch.Size} (h : Ch.levelsFault l = 0) : 1 ≤ l.length ∧ l.length ≤ 4 := by
  unfold Ch.levelsFault at h
  split at h
  · cases h
  · omega

theorem errV_ne {n : Int} (h : ¬ n = 0) : ∃ E, Hid (errV n = .iface 133 (vi E)) := ⟨n, by unfold Hid errV; rw [if_neg h]⟩

theorem put3_far {a : World} {R b o : Nat} {x y z v : Value} (h : b ≠ R) (c : a.cell? ⟨b, o, none⟩ = some v) : (((a.setCell ⟨R, 0, none⟩ x).setCell ⟨R, 1, none⟩ y).setCell ⟨R, 2, none⟩ z).cell? ⟨b, o, none⟩ = some v := by
  have n : ∀ i, (⟨R, i, none⟩ : Addr) ≠ ⟨b, o, none⟩ := by intro i e; cases e; exact h rfl
  rw [World.cell?_setCell_other (h := n 2), World.cell?_setCell_other (h := n 1), World.cell?_setCell_other (h := n 0)]
  exact c

end Go.Proofs.Ytplomeacjbkgnaa
