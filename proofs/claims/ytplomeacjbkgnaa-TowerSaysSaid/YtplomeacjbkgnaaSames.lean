/-
  The walks of the reference's SameGoals, SamePlaces: two slices of structs, as lists, are they one?
-/
import Derived.Test.YtplomeacjbkgnaaBase
namespace Go.Proofs.Ytplomeacjbkgnaa
open Go.RowKit

set_option maxRecDepth 100000 in
set_option maxHeartbeats 400000 in
theorem sameGoals_any (a1 a2 : Option Addr) (n1 c1 n2 c2 : Nat) (l1 l2 : List Ch.Goal) (w : World) (h1 : Sl w 2 goalCells l1 a1 n1 c1) (h2 : Sl w 2 goalCells l2 a2 n2 c2) :
    Calls Try.prog 13 #[.slice a1 n1 c1, .slice a2 n2 c2] w fun e w' => e = .returned (.bool (decide (l1 = l2))) ∧ Ext w w' := by
  have e1 := h1.len
  have e2 := h2.len
  have b1 := h1.bound
  have b2 := h2.bound
  by_cases hn : n1 = n2
  · subst hn
    have E1 := Lib.hid e1
    have E2 := Lib.hid e2
    have F1 := Lib.hid h1
    have F2 := Lib.hid h2
    clear e1 e2 h1 h2
    go_enter Try.func13, Try.ntmps13
    go_wp2
    go_loopw [5] (fun i wr => ∃ k : Nat, k ≤ n1 ∧ i = .int .i64 k ∧ Hid (l1.take k = l2.take k) ∧ Ext w wr) (fun i _ => n1 - (intOf i).toNat)
    case atStart => exact ⟨0, by omega, rfl, by simp [Hid], by simp⟩
    case round =>
      obtain ⟨k, hk, rfl, HT, o, m, rfl⟩ := hrel
      by_cases hlt : k < n1
      · obtain ⟨p1, o1, u1, rfl, x1, g1⟩ := F1.out.get hlt
        obtain ⟨p2, o2, u2, rfl, x2, g2⟩ := F2.out.get hlt
        have X1 := Lib.hid x1
        have X2 := Lib.hid x2
        have d1 := at2 g1
        have d2 := at2 g2
        have q1 := cell_lt d1.1
        have q2 := cell_lt d2.1
        clear g1 g2 x1 x2
        by_cases hu : u1 = u2
        · have HU := Lib.hid hu
          have hq : ∀ w, (Go.binOp .neq 36 (goalA u1) (goalA u2)).run Try.prog w = .ok (.bool false) w := fun w => by rw [neqStruct w (eqGoal w 9998 u1 u2)]; simp [hu]
          clear hu
          go_wp2
          (refine wp_region_ext (by kernel_rfl) (by kernel_rfl) ?_; (repeat (first | go_big_quiet_step (fail) | quiet_step (fail))); refine wpQuiet_nil ?_; intro _ hw'; obtain ⟨oq, nq, hw''⟩ := hw'; subst hw'')
          go_wp2
          go_roundw
          case rel => exact ⟨k + 1, by omega, by go_num, by show List.take _ _ = List.take _ _; rw [List.take_add_one, List.take_add_one, X1.out, X2.out, HT.out, HU.out], by simp⟩
          case measure => simp [intOf]; omega
        · have HU := Lib.hid hu
          have hq : ∀ w, (Go.binOp .neq 36 (goalA u1) (goalA u2)).run Try.prog w = .ok (.bool true) w := fun w => by rw [neqStruct w (eqGoal w 9998 u1 u2)]; simp [hu]
          clear hu
          go_wp2
          (refine wp_region_ext (by kernel_rfl) (by kernel_rfl) ?_; (repeat (first | go_big_quiet_step (fail) | quiet_step (fail))); refine wpQuiet_nil ?_; intro _ hw'; obtain ⟨oq, nq, hw''⟩ := hw'; subst hw'')
          go_wp2
          go_ret
          refine ⟨?_, by simp⟩
          have : l1 ≠ l2 := fun h => HU.out (by have a := X1.out; have b := X2.out; rw [h] at a; exact Option.some.inj (a.symm.trans b))
          simp [this]
      · go_wp2
        go_ret
        have : l1 = l2 := by (have h := HT.out; rw [List.take_of_length_le (by have := E1.out; omega), List.take_of_length_le (by have := E2.out; omega)] at h; exact h)
        exact ⟨by simp [this], by simp⟩
  · have hne : l1 ≠ l2 := fun h => hn (by rw [← e1, ← e2, h])
    clear h1 h2 e1 e2
    go_enter Try.func13, Try.ntmps13
    go_wp2
    go_ret
    exact ⟨by simp [hne], by simp⟩

theorem sameGoals_yes (a1 a2 : Option Addr) (n1 c1 n2 c2 : Nat) (l1 l2 : List Ch.Goal) (w : World) (h1 : Sl w 2 goalCells l1 a1 n1 c1) (h2 : Sl w 2 goalCells l2 a2 n2 c2) (e : l1 = l2) :
    Calls Try.prog 13 #[.slice a1 n1 c1, .slice a2 n2 c2] w fun e w' => e = .returned (.bool true) ∧ Ext w w' := by
  have := sameGoals_any a1 a2 n1 c1 n2 c2 l1 l2 w h1 h2
  simpa [e] using this

set_option maxRecDepth 100000 in
set_option maxHeartbeats 400000 in
theorem samePlaces_any (a1 a2 : Option Addr) (n1 c1 n2 c2 : Nat) (l1 l2 : List Ch.Place) (w : World) (h1 : Sl w 3 placeCells l1 a1 n1 c1) (h2 : Sl w 3 placeCells l2 a2 n2 c2) :
    Calls Try.prog 43 #[.slice a1 n1 c1, .slice a2 n2 c2] w fun e w' => e = .returned (.bool (decide (l1 = l2))) ∧ Ext w w' := by
  have e1 := h1.len
  have e2 := h2.len
  have b1 := h1.bound
  have b2 := h2.bound
  by_cases hn : n1 = n2
  · subst hn
    have E1 := Lib.hid e1
    have E2 := Lib.hid e2
    have F1 := Lib.hid h1
    have F2 := Lib.hid h2
    clear e1 e2 h1 h2
    go_enter Try.func43, Try.ntmps43
    go_wp2
    go_loopw [5] (fun i wr => ∃ k : Nat, k ≤ n1 ∧ i = .int .i64 k ∧ Hid (l1.take k = l2.take k) ∧ Ext w wr) (fun i _ => n1 - (intOf i).toNat)
    case atStart => exact ⟨0, by omega, rfl, by simp [Hid], by simp⟩
    case round =>
      obtain ⟨k, hk, rfl, HT, o, m, rfl⟩ := hrel
      by_cases hlt : k < n1
      · obtain ⟨p1, o1, u1, rfl, x1, g1⟩ := F1.out.get hlt
        obtain ⟨p2, o2, u2, rfl, x2, g2⟩ := F2.out.get hlt
        have X1 := Lib.hid x1
        have X2 := Lib.hid x2
        have d1 := at3 g1
        have d2 := at3 g2
        have q1 := cell_lt d1.1
        have q2 := cell_lt d2.1
        clear g1 g2 x1 x2
        by_cases hu : u1 = u2
        · have HU := Lib.hid hu
          have hq : ∀ w, (Go.binOp .neq 23 (placeA u1) (placeA u2)).run Try.prog w = .ok (.bool false) w := fun w => by rw [neqStruct w (eqPlace w 9998 u1 u2)]; simp [hu]
          clear hu
          go_wp2
          (refine wp_region_ext (by kernel_rfl) (by kernel_rfl) ?_; (repeat (first | go_big_quiet_step (fail) | quiet_step (fail))); refine wpQuiet_nil ?_; intro _ hw'; obtain ⟨oq, nq, hw''⟩ := hw'; subst hw'')
          go_wp2
          go_roundw
          case rel => exact ⟨k + 1, by omega, by go_num, by show List.take _ _ = List.take _ _; rw [List.take_add_one, List.take_add_one, X1.out, X2.out, HT.out, HU.out], by simp⟩
          case measure => simp [intOf]; omega
        · have HU := Lib.hid hu
          have hq : ∀ w, (Go.binOp .neq 23 (placeA u1) (placeA u2)).run Try.prog w = .ok (.bool true) w := fun w => by rw [neqStruct w (eqPlace w 9998 u1 u2)]; simp [hu]
          clear hu
          go_wp2
          (refine wp_region_ext (by kernel_rfl) (by kernel_rfl) ?_; (repeat (first | go_big_quiet_step (fail) | quiet_step (fail))); refine wpQuiet_nil ?_; intro _ hw'; obtain ⟨oq, nq, hw''⟩ := hw'; subst hw'')
          go_wp2
          go_ret
          refine ⟨?_, by simp⟩
          have : l1 ≠ l2 := fun h => HU.out (by have a := X1.out; have b := X2.out; rw [h] at a; exact Option.some.inj (a.symm.trans b))
          simp [this]
      · go_wp2
        go_ret
        have : l1 = l2 := by (have h := HT.out; rw [List.take_of_length_le (by have := E1.out; omega), List.take_of_length_le (by have := E2.out; omega)] at h; exact h)
        exact ⟨by simp [this], by simp⟩
  · have hne : l1 ≠ l2 := fun h => hn (by rw [← e1, ← e2, h])
    clear h1 h2 e1 e2
    go_enter Try.func43, Try.ntmps43
    go_wp2
    go_ret
    exact ⟨by simp [hne], by simp⟩

theorem samePlaces_yes (a1 a2 : Option Addr) (n1 c1 n2 c2 : Nat) (l1 l2 : List Ch.Place) (w : World) (h1 : Sl w 3 placeCells l1 a1 n1 c1) (h2 : Sl w 3 placeCells l2 a2 n2 c2) (e : l1 = l2) :
    Calls Try.prog 43 #[.slice a1 n1 c1, .slice a2 n2 c2] w fun e w' => e = .returned (.bool true) ∧ Ext w w' := by
  have := samePlaces_any a1 a2 n1 c1 n2 c2 l1 l2 w h1 h2
  simpa [e] using this

end Go.Proofs.Ytplomeacjbkgnaa
