/-
  The walks of package plant: the shuttle is stretched; cars are grabbed, and put down.
-/
import Derived.Test.YtplomeacjbkgnaaPlantDo
namespace Go.Proofs.Ytplomeacjbkgnaa
open Go.RowKit

set_option maxRecDepth 100000 in
set_option maxHeartbeats 2000000 in
theorem stretch_any {pb mb : Nat} {p : Ch.Plant} {w : World} (h : PlantAt w pb mb p) (hp : p.WF) (n : Int) (hn : n = 1 ∨ n = -1) :
    Calls Try.prog 145 #[.pointer (some ⟨pb, 0, none⟩), vi n] w (Did pb mb w (p.stretch n) (.tuple #[])) := by
  obtain ⟨c0, c1, c2, c3, c4, c5, c6, c7, c8, c9⟩ := h.cells
  have hb := cell_lt c1
  have HP := Lib.hid h
  have fz := block_free h.blk
  have h1 := hp.ht1
  have h2 : p.height ≤ 12 := by have := hp.ht2; have := hp.lv2; omega
  have h3 := hp.ex1
  have h4 := hp.ex2
  have i1 : IntKind.i64.wrap (p.ext + n) = p.ext + n := IntWalk.i64_in _ (by omega)
  have b1 : -3 ≤ p.ext + n := by omega
  have b2 : p.ext + n ≤ 3 := by omega
  clear h hn
  by_cases hr : p.ext + n < -2 ∨ 2 < p.ext + n
  · have HR := Lib.hid hr
    have HS : Hid (p.stretch n = p) := by unfold Hid Ch.Plant.stretch; rw [if_pos hr]
    clear hr
    go_enter Try.func145, Try.ntmps145
    go_wp2_with fail
    all_goals
      first
      | (exfalso; have := HR.out; omega)
      | (refine bodyPost_ret (results_none rfl _ _ _) rfl ?_; rw [HS.out]; exact ⟨rfl, HP.out.ext (by simp (maxDischargeDepth := 60)), Kept.of_ext (by simp (maxDischargeDepth := 60))⟩)
  · have r1 : -2 ≤ p.ext + n := by omega
    have r2 : p.ext + n ≤ 2 := by omega
    have HS : Hid (p.stretch n = { p with hurt := p.hurt || (p.ext + n != 0 && (p.place (p.ext + n)).isNone) || (p.lift != 0 && p.full (p.ext + n)), ext := p.ext + n }) := by unfold Hid Ch.Plant.stretch; rw [if_neg hr]
    clear hr
    cases hx : placeAt p.height (p.ext + n) with
    | none =>
      have HX := Lib.hid hx
      have HN : Hid ((p.place (p.ext + n)).isNone = true) := by unfold Hid; rw [place_at, hx]; rfl
      clear hx
      go_enter Try.func145, Try.ntmps145
      go_wp2_with (first | (go_at_call 158; (with_reducible refine (at_none _ _ _ _ (by assumption) (by omega) (by omega) (by omega) (by omega) HX.out).mono ?_); rintro e w1 ⟨rfl, o1, n1, rfl⟩) | (go_at_call 150; (with_reducible refine (full_any (HP.out.ext (by simp (maxDischargeDepth := 60))) _ h1 h2 (by omega) (by omega)).mono ?_); rintro e w1 ⟨rfl, o1, n1, rfl⟩))
      all_goals
        go_end0
        go_light
        rw [HS.out]
        have hn' := HN.out
        refine ⟨rfl, ?_, ?_⟩
        case refine_1 =>
          first
          | refine PlantAt.ext (PlantAt.set (PlantAt.set (q := { p with hurt := p.hurt || (p.ext + n != 0 && (p.place (p.ext + n)).isNone) || (p.lift != 0 && p.full (p.ext + n)) }) (HP.out.ext (w' := w.plus o1 n1) (by simp (maxDischargeDepth := 60))) 9 _ ?_ rfl) 2 _ ?_ rfl) (Ext.alloc (Ext.refl _) _)
          | refine PlantAt.set (PlantAt.set (q := { p with hurt := p.hurt || (p.ext + n != 0 && (p.place (p.ext + n)).isNone) || (p.lift != 0 && p.full (p.ext + n)) }) (HP.out.ext ?_) 9 _ ?_ rfl) 2 _ ?_ rfl
          all_goals first | (simp (maxDischargeDepth := 60); done) | (simp [*]; done) | (simp [*]; omega)
        case refine_2 =>
          first
          | exact (((Kept.of_ext (w' := w.plus o1 n1) (by simp (maxDischargeDepth := 60))).setCell (Or.inl (Or.inl rfl)) _).setCell (Or.inl (Or.inl rfl)) _).ext (Ext.alloc (Ext.refl _) _)
          | refine Kept.setCell (Kept.setCell (Kept.of_ext ?_) (Or.inl (Or.inl rfl)) _) (Or.inl (Or.inl rfl)) _; exact (by simp (maxDischargeDepth := 60))
    | some x =>
      obtain ⟨a, b, c⟩ := x
      have HX := Lib.hid hx
      have HN : Hid ((p.place (p.ext + n)).isNone = false) := by unfold Hid; rw [place_at, hx]; rfl
      clear hx
      go_enter Try.func145, Try.ntmps145
      go_wp2_with (first | (go_at_call 158; (with_reducible refine (at_some _ _ _ a b c _ (by assumption) (by omega) (by omega) (by omega) (by omega) HX.out).mono ?_); rintro e w1 ⟨rfl, o1, n1, rfl⟩) | (go_at_call 150; (with_reducible refine (full_any (HP.out.ext (by simp (maxDischargeDepth := 60))) _ h1 h2 (by omega) (by omega)).mono ?_); rintro e w1 ⟨rfl, o1, n1, rfl⟩))
      all_goals
        go_end0
        go_light
        rw [HS.out]
        have hn' := HN.out
        refine ⟨rfl, ?_, ?_⟩
        case refine_1 =>
          first
          | refine PlantAt.ext (PlantAt.set (PlantAt.set (q := { p with hurt := p.hurt || (p.ext + n != 0 && (p.place (p.ext + n)).isNone) || (p.lift != 0 && p.full (p.ext + n)) }) (HP.out.ext (w' := w.plus o1 n1) (by simp (maxDischargeDepth := 60))) 9 _ ?_ rfl) 2 _ ?_ rfl) (Ext.alloc (Ext.refl _) _)
          | refine PlantAt.set (PlantAt.set (q := { p with hurt := p.hurt || (p.ext + n != 0 && (p.place (p.ext + n)).isNone) || (p.lift != 0 && p.full (p.ext + n)) }) (HP.out.ext ?_) 9 _ ?_ rfl) 2 _ ?_ rfl
          all_goals first | (simp (maxDischargeDepth := 60); done) | (simp [*]; done) | (simp [*]; omega)
        case refine_2 =>
          first
          | exact (((Kept.of_ext (w' := w.plus o1 n1) (by simp (maxDischargeDepth := 60))).setCell (Or.inl (Or.inl rfl)) _).setCell (Or.inl (Or.inl rfl)) _).ext (Ext.alloc (Ext.refl _) _)
          | refine Kept.setCell (Kept.setCell (Kept.of_ext ?_) (Or.inl (Or.inl rfl)) _) (Or.inl (Or.inl rfl)) _; exact (by simp (maxDischargeDepth := 60))

end Go.Proofs.Ytplomeacjbkgnaa
