/-
  The walks of package book's looks: Find, Of; and of the library's Contains at jobs.
-/
import Derived.Test.YtplomeacjbkgnaaSlices
namespace Go.Proofs.Ytplomeacjbkgnaa
open Go.RowKit

abbrev bookA (last : Int) (a1 : Option Addr) (n1 c1 : Nat) (a2 : Option Addr) (n2 c2 : Nat) : Value := .agg #[vi last, .slice a1 n1 c1, .slice a2 n2 c2]

set_option maxRecDepth 100000 in
set_option maxHeartbeats 400000 in
theorem find1_any (s0 s1 s2 s3 s4 s5 s6 s7 t : Int) (B : Nat) (w : World) (hc : w.cell? ⟨B, 0, none⟩ = some (vi t)) :
    Calls Try.prog 141 #[.agg #[vi s0, vi s1, vi s2, vi s3, vi s4, vi s5, vi s6, vi s7], .pointer (some ⟨B, 0, none⟩)] w fun e w' => e = .returned (.bool (s0 == t)) ∧ Ext w w' := by
  have hB := cell_lt hc
  go_enter Try.func141, Try.ntmps141
  go_wp2
  go_ret
  exact ⟨rfl, (by simp (maxDischargeDepth := 60))⟩

set_option maxRecDepth 100000 in
set_option maxHeartbeats 400000 in
theorem of1_any (s0 s1 s2 s3 s4 s5 s6 s7 t : Int) (B : Nat) (w : World) (hc : w.cell? ⟨B, 0, none⟩ = some (vi t)) :
    Calls Try.prog 138 #[.agg #[vi s0, vi s1, vi s2, vi s3, vi s4, vi s5, vi s6, vi s7], .pointer (some ⟨B, 0, none⟩)] w fun e w' => e = .returned (.bool (s1 == t)) ∧ Ext w w' := by
  have hB := cell_lt hc
  go_enter Try.func138, Try.ntmps138
  go_wp2
  go_ret
  exact ⟨rfl, (by simp (maxDischargeDepth := 60))⟩

theorem find_pred (t : Int) (B : Nat) (w : World) (hc : w.cell? ⟨B, 0, none⟩ = some (vi t)) : StayPred w 141 #[.pointer (some ⟨B, 0, none⟩)] (fun s => s.ticket == t) where
  enters := fun args w => by kernel_rfl
  answers := fun s W ⟨o, n, hW⟩ => by
    subst hW
    exact find1_any _ _ _ _ _ _ _ _ t B _ (by rw [plus_cell _ _ _ _ _ _ (cell_lt hc)]; exact hc)

theorem of_pred (t : Int) (B : Nat) (w : World) (hc : w.cell? ⟨B, 0, none⟩ = some (vi t)) : StayPred w 138 #[.pointer (some ⟨B, 0, none⟩)] (fun s => s.car.id == t) where
  enters := fun args w => by kernel_rfl
  answers := fun s W ⟨o, n, hW⟩ => by
    subst hW
    exact of1_any _ _ _ _ _ _ _ _ t B _ (by rw [plus_cell _ _ _ _ _ _ (cell_lt hc)]; exact hc)

set_option maxRecDepth 100000 in
set_option maxHeartbeats 1000000 in
theorem find_any (last t : Int) (a1 : Option Addr) (n1 c1 : Nat) (a2 : Option Addr) (n2 c2 : Nat) (l : List Ch.Stay) (w : World) (h : Sl w 8 stayCells l a1 n1 c1) :
    Calls Try.prog 108 #[bookA last a1 n1 c1 a2 n2 c2, vi t] w fun e w' => e = .returned (vi (Ch.indexOf (fun s => s.ticket == t) l)) ∧ Ext w w' := by
  have HF := Lib.hid h
  clear h
  go_enter Try.func108, Try.ntmps108
  go_wp2_with fail
  refine (indexStay_any _ _ _ l _ _ _ _ (Sl.below HF.out (Ext.below (by simp (maxDischargeDepth := 60)))) (find_pred t _ _ (by simp [go_sem]))).mono ?_
  rintro e w1 ⟨rfl, o1, n1, rfl⟩
  go_wp2_with fail
  go_ret
  exact ⟨rfl, (by simp (maxDischargeDepth := 60))⟩

set_option maxRecDepth 100000 in
set_option maxHeartbeats 1000000 in
theorem of_any (last t : Int) (a1 : Option Addr) (n1 c1 : Nat) (a2 : Option Addr) (n2 c2 : Nat) (l : List Ch.Stay) (w : World) (h : Sl w 8 stayCells l a1 n1 c1) :
    Calls Try.prog 105 #[bookA last a1 n1 c1 a2 n2 c2, vi t] w fun e w' => e = .returned (vi (Ch.indexOf (fun s => s.car.id == t) l)) ∧ Ext w w' := by
  have HF := Lib.hid h
  clear h
  go_enter Try.func105, Try.ntmps105
  go_wp2_with fail
  refine (indexStay_any _ _ _ l _ _ _ _ (Sl.below HF.out (Ext.below (by simp (maxDischargeDepth := 60)))) (of_pred t _ _ (by simp [go_sem]))).mono ?_
  rintro e w1 ⟨rfl, o1, n1, rfl⟩
  go_wp2_with fail
  go_ret
  exact ⟨rfl, (by simp (maxDischargeDepth := 60))⟩
end Go.Proofs.Ytplomeacjbkgnaa
