/-
  The walks of package plant: a step; people walk, cars arrive and leave, it stalls; a new machine.
-/
import Derived.Test.YtplomeacjbkgnaaPlantDo2
import Derived.Test.YtplomeacjbkgnaaPlantDo3
import Derived.Test.YtplomeacjbkgnaaPlantHas
namespace Go.Proofs.Ytplomeacjbkgnaa
open Go.RowKit

theorem Did.ret {pb mb : Nat} {w : World} {p q : Ch.Plant} {r : Value} {e : Ending} {w' : World} (h : Did pb mb w p r e w') (hq : p = q) : Did pb mb w q r e w' := hq ▸ h

/-- a map of one byte to a number: what the two entries say -/
theorem stall_any {pb mb : Nat} {p : Ch.Plant} {w : World} (h : PlantAt w pb mb p) (n : Int) :
    Calls Try.prog 124 #[.pointer (some ⟨pb, 0, none⟩), vi n] w (Did pb mb w (p.setStall n).1 (errV (p.setStall n).2)) := by
  obtain ⟨c0, c1, c2, c3, c4, c5, c6, c7, c8, c9⟩ := h.cells
  have hb := cell_lt c1
  have HP := Lib.hid h
  have fz := block_free h.blk
  clear h
  go_enter Try.func124, Try.ntmps124
  go_wp2
  all_goals
    go_ret
    go_light
    unfold Ch.Plant.setStall
    first
    | (rw [if_pos (by omega)]; exact ⟨rfl, HP.out, Kept.refl _ _⟩)
    | (rw [if_neg (by omega)]; exact ⟨rfl, HP.out.set 8 _ (by simp) rfl, (Kept.refl _ _).setCell (Or.inl (Or.inl rfl)) _⟩)

set_option maxRecDepth 100000 in
set_option maxHeartbeats 2000000 in
theorem leave_any {pb mb : Nat} {p : Ch.Plant} {w : World} (h : PlantAt w pb mb p) :
    Calls Try.prog 122 #[.pointer (some ⟨pb, 0, none⟩)] w (Did pb mb w p.leave.1 (.tuple #[vi p.leave.2.1, errV p.leave.2.2])) := by
  obtain ⟨c0, c1, c2, c3, c4, c5, c6, c7, c8, c9⟩ := h.cells
  have hb := cell_lt c1
  have HP := Lib.hid h
  have fz := block_free h.blk
  clear h
  cases hd : p.door
  · rw [hd] at c3
    have HL : Hid (p.leave = (p, 0, 7)) := by unfold Hid Ch.Plant.leave; rw [if_pos (Or.inl hd)]
    clear hd
    go_enter Try.func122, Try.ntmps122
    go_wp2
    go_ret2
    rw [HL.out]
    exact ⟨rfl, HP.out, Kept.refl _ _⟩
  · rw [hd] at c3
    by_cases hy : p.bay = 0
    · have e1 : (p.bay == 0) = true := by simpa using hy
      have HL : Hid (p.leave = (p, 0, 7)) := by unfold Hid Ch.Plant.leave; rw [if_pos (Or.inr hy)]
      clear hd hy
      go_enter Try.func122, Try.ntmps122
      go_wp2
      go_ret2
      rw [HL.out]
      exact ⟨rfl, HP.out, Kept.refl _ _⟩
    · have e1 : (p.bay == 0) = false := by simpa using hy
      have HL : Hid (p.leave = ({ p with bay := 0 }, p.bay, 0)) := by unfold Hid Ch.Plant.leave; rw [if_neg (by simp [hd, hy])]
      clear hd hy
      go_enter Try.func122, Try.ntmps122
      go_wp2
      go_ret2
      rw [HL.out]
      exact ⟨rfl, HP.out.set 6 _ (by simp) rfl, (Kept.refl _ _).setCell (Or.inl (Or.inl rfl)) _⟩

set_option maxRecDepth 100000 in
set_option maxHeartbeats 2000000 in
theorem walk_any {pb mb : Nat} {p : Ch.Plant} {w : World} (h : PlantAt w pb mb p) (hp : p.WF) (n : Int) :
    Calls Try.prog 119 #[.pointer (some ⟨pb, 0, none⟩), vi n] w (Did pb mb w (p.walk n).1 (errV (p.walk n).2)) := by
  obtain ⟨c0, c1, c2, c3, c4, c5, c6, c7, c8, c9⟩ := h.cells
  have hb := cell_lt c1
  have HP := Lib.hid h
  have fz := block_free h.blk
  have h1 := hp.pe1
  have h2 := hp.pe2
  clear h
  by_cases hr : n < -9 ∨ 9 < n
  · have HL : Hid (p.walk n = (p, 1)) := by unfold Hid Ch.Plant.walk; rw [if_pos hr]
    have HR := Lib.hid hr
    clear hr
    go_enter Try.func119, Try.ntmps119
    go_wp2
    all_goals
      first
      | (exfalso; have := HR.out; omega)
      | (go_ret; rw [HL.out]; exact ⟨rfl, HP.out, Kept.refl _ _⟩)
  · have r1 : -9 ≤ n := by omega
    have r2 : n ≤ 9 := by omega
    cases hd : p.door
    · rw [hd] at c3
      have HL : Hid (p.walk n = (p, 7)) := by unfold Hid Ch.Plant.walk; rw [if_neg hr, if_pos hd]
      clear hr hd
      go_enter Try.func119, Try.ntmps119
      go_wp2
      go_ret
      rw [HL.out]
      exact ⟨rfl, HP.out, Kept.refl _ _⟩
    · rw [hd] at c3
      have HL : Hid (p.walk n = ({ p with people := Ch.clamp (p.people + n) 9 }, 0)) := by unfold Hid Ch.Plant.walk; rw [if_neg hr, if_neg (by simp [hd])]
      have i1 : IntKind.i64.wrap (p.people + n) = p.people + n := IntWalk.i64_in _ (by omega)
      clear hr hd
      go_enter Try.func119, Try.ntmps119
      go_wp2
      all_goals
        go_ret
        rw [HL.out]
        exact ⟨rfl, HP.out.set 4 _ (by simp [Ch.clamp]; omega) rfl, (Kept.refl _ _).setCell (Or.inl (Or.inl rfl)) _⟩

set_option maxRecDepth 100000 in
set_option maxHeartbeats 2000000 in
theorem arrive_any {pb mb : Nat} {p : Ch.Plant} {w : World} (h : PlantAt w pb mb p) (hp : p.WF) (n : Int) :
    Calls Try.prog 114 #[.pointer (some ⟨pb, 0, none⟩), vi n] w (Did pb mb w (p.arrive n).1 (errV (p.arrive n).2)) := by
  obtain ⟨c0, c1, c2, c3, c4, c5, c6, c7, c8, c9⟩ := h.cells
  have hb := cell_lt c1
  have HP := Lib.hid h
  have fz := block_free h.blk
  clear h
  by_cases hr : n < 1 ∨ 999 < n
  · have HL : Hid (p.arrive n = (p, 1)) := by unfold Hid Ch.Plant.arrive; rw [if_pos hr]
    have HR := Lib.hid hr
    clear hr
    go_enter Try.func114, Try.ntmps114
    go_wp2_with fail
    all_goals
      first
      | (exfalso; have := HR.out; omega)
      | (go_ret; rw [HL.out]; exact ⟨rfl, HP.out, Kept.refl _ _⟩)
  · have r1 : 1 ≤ n := by omega
    have r2 : n ≤ 999 := by omega
    by_cases hd : p.door = false ∨ p.bay ≠ 0
    · have HL : Hid (p.arrive n = (p, 7)) := by unfold Hid Ch.Plant.arrive; rw [if_neg hr, if_pos hd]
      cases hd1 : p.door
      · rw [hd1] at c3
        clear hr hd hd1
        go_enter Try.func114, Try.ntmps114
        go_wp2_with fail
        all_goals
          first
          | (exfalso; omega)
          | (go_ret; rw [HL.out]; exact ⟨rfl, HP.out, Kept.refl _ _⟩)
      · have hd2 : (p.bay != 0) = true := by simpa [hd1] using hd
        rw [hd1] at c3
        clear hr hd hd1
        go_enter Try.func114, Try.ntmps114
        go_wp2_with fail
        all_goals
          first
          | (exfalso; omega)
          | (go_ret; rw [HL.out]; exact ⟨rfl, HP.out, Kept.refl _ _⟩)
    · have hd1 : p.door = true := by
        cases hd1 : p.door
        · exact absurd (Or.inl hd1) hd
        · rfl
      have hd2 : (p.bay != 0) = false := by
        cases hd2 : (p.bay != 0)
        · rfl
        · exact absurd (Or.inr (by simpa using hd2)) hd
      rw [hd1] at c3
      cases hh : p.has n
      · have HL : Hid (p.arrive n = ({ p with bay := n }, 0)) := by unfold Hid Ch.Plant.arrive; rw [if_neg hr, if_neg hd, if_neg (by simp [hh])]
        have HH := Lib.hid hh
        clear hr hd hd1 hh
        go_enter Try.func114, Try.ntmps114
        go_wp2_with ((go_at_call 82; (with_reducible refine (has_any HP.out hp n).mono ?_); rintro e w1 ⟨he, o1, n1, rfl⟩; rw [HH.out] at he; subst he))
        all_goals
          first
          | (exfalso; omega)
          | (go_ret; rw [HL.out]; exact ⟨rfl, (HP.out.ext (by simp (maxDischargeDepth := 60))).set 6 _ (by simp) rfl, (Kept.of_ext (by simp (maxDischargeDepth := 60))).setCell (Or.inl (Or.inl rfl)) _⟩)
      · have HL : Hid (p.arrive n = (p, 6)) := by unfold Hid Ch.Plant.arrive; rw [if_neg hr, if_neg hd, if_pos hh]
        have HH := Lib.hid hh
        clear hr hd hd1 hh
        go_enter Try.func114, Try.ntmps114
        go_wp2_with ((go_at_call 82; (with_reducible refine (has_any HP.out hp n).mono ?_); rintro e w1 ⟨he, o1, n1, rfl⟩; rw [HH.out] at he; subst he))
        all_goals
          first
          | (exfalso; omega)
          | (go_ret; rw [HL.out]; exact ⟨rfl, HP.out.ext (by simp (maxDischargeDepth := 60)), Kept.of_ext (by simp (maxDischargeDepth := 60))⟩)

/-- a machine is made -/
def Made (w : World) (n : Int) (e : Ending) (w' : World) : Prop := ∃ pb mb, e = .returned (.tuple #[.pointer (some ⟨pb, 0, none⟩), .nilIface]) ∧ PlantAt w' pb mb (Ch.Plant.new n) ∧ Ext w w' ∧ w.heap.size ≤ pb ∧ w.heap.size ≤ mb

set_option maxRecDepth 100000 in
set_option maxHeartbeats 2000000 in
theorem new_any (n : Int) (w : World) (h1 : 1 ≤ n) (h2 : n ≤ 4) : Calls Try.prog 76 #[vi n] w (Made w n) := by
  have hmm := @run_makeMap Try.prog
  go_enter Try.func76, Try.ntmps76
  go_wp2
  go_ret2
  refine ⟨w.heap.size + 1, w.heap.size, rfl, ⟨?_, [], 0, ?_⟩, (by simp (maxDischargeDepth := 60)), by omega, by omega⟩
  · rw [alloc_at _ _ _ (by simp)]
    rfl
  · exact (Slots.made w).same ((MapKept.heap_alloc _ _).2 _ (by simp))

set_option maxRecDepth 100000 in
set_option maxHeartbeats 2000000 in
theorem new_bad (n : Int) (w : World) (h : n < 1 ∨ 4 < n) : Calls Try.prog 76 #[vi n] w fun e w' => e = .returned (.tuple #[.pointer none, errV 1]) ∧ Ext w w' := by
  have H := Lib.hid h
  clear h
  go_enter Try.func76, Try.ntmps76
  go_wp2
  all_goals
    first
    | (exfalso; have := H.out; omega)
    | (go_ret2; exact ⟨rfl, (by simp (maxDischargeDepth := 60))⟩)

end Go.Proofs.Ytplomeacjbkgnaa
