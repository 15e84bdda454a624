/-
  The walks of package plant: what is done to the machine.
-/
import Derived.Test.YtplomeacjbkgnaaPlant
import Derived.Test.YtplomeacjbkgnaaKept
namespace Go.Proofs.Ytplomeacjbkgnaa
open Go.RowKit

/-! ### what is done to a machine -/

theorem PlantAt.set {w : World} {pb mb : Nat} {p q : Ch.Plant} (h : PlantAt w pb mb p) (i : Nat) (v : Value) (hq : (plantCells p mb).setIfInBounds i v = plantCells q mb) (hs : q.slots = p.slots) : PlantAt (w.setCell ⟨pb, i, none⟩ v) pb mb q := by
  refine ⟨?_, ?_⟩
  · rw [setCell_block h.blk, hq]
  · obtain ⟨l, c, hl⟩ := h.slots
    exact ⟨l, c, hs ▸ hl.same (setCell_other (fun e => h.ne e.symm))⟩

/-- the two blocks of a machine -/
abbrev Own (pb mb : Nat) : Nat → Prop := fun k => k = pb ∨ k = mb

/-- what becomes of a machine -/
def Did (pb mb : Nat) (w : World) (p' : Ch.Plant) (r : Value) (e : Ending) (w' : World) : Prop := e = .returned r ∧ PlantAt w' pb mb p' ∧ Kept (Own pb mb) w w'

set_option maxRecDepth 100000 in
set_option maxHeartbeats 2000000 in
theorem rise_any {pb mb : Nat} {p : Ch.Plant} {w : World} (h : PlantAt w pb mb p) (hp : p.WF) (n : Int) (hn : n = 1 ∨ n = -1) :
    Calls Try.prog 144 #[.pointer (some ⟨pb, 0, none⟩), vi n] w (Did pb mb w (p.rise n) (.tuple #[])) := by
  obtain ⟨c0, c1, c2, c3, c4, c5, c6, c7, c8, c9⟩ := h.cells
  have hb := cell_lt c1
  have HP := Lib.hid h
  have fz := block_free h.blk
  have h1 := hp.ht1
  have h2 := hp.ht2
  have h3 := hp.lv1
  have h4 := hp.lv2
  have i1 : IntKind.i64.wrap (p.height + n) = p.height + n := IntWalk.i64_in _ (by omega)
  have i2 : IntKind.i64.wrap (p.levels * 3) = p.levels * 3 := IntWalk.i64_in _ (by omega)
  clear h hn
  go_enter Try.func144, Try.ntmps144
  go_wp2_with (go_at_call 157; (with_reducible refine (open_any _ _ _ _ (by assumption) (by assumption)).mono ?_); rintro e w1 ⟨rfl, o1, n1, rfl⟩)
  all_goals
    generalize hW : World.setCell _ _ _ = wq
    have P1 : PlantAt wq pb mb { p with hurt := p.hurt || p.ext != 0 || p.openB } := by
      rw [← hW]
      first
      | exact HP.out.set 9 _ (by simp [Ch.Plant.openB, *]) rfl
      | exact (HP.out.ext (by simp (maxDischargeDepth := 60))).set 9 _ (by simp [Ch.Plant.openB, *]) rfl
    have K1 : Kept (Own pb mb) w wq := by
      rw [← hW]
      first
      | exact (Kept.refl _ _).setCell (Or.inl (Or.inl rfl)) _
      | exact (Kept.of_ext (by simp (maxDischargeDepth := 60))).setCell (Or.inl (Or.inl rfl)) _
    clear hW
    obtain ⟨d0, d1, d2, d3, d4, d5, d6, d7, d8, d9⟩ := P1.cells
    have hb' := cell_lt d1
    have fz' := block_free P1.blk
    have HP1 := Lib.hid P1
    have HK1 := Lib.hid K1
    clear P1 K1 c0 c1 c2 c3 c4 c5 c6 c7 c8 c9
    (refine wp_region_tail_ext 16 (by kernel_rfl) (by kernel_rfl) ?_; (simp only [List.take_succ_cons, List.take_zero, List.drop_succ_cons, List.drop_zero]); (repeat (first | go_big_quiet_step (fail) | quiet_step (fail))); refine wpQuiet_nil ?_; intro _ hw'; obtain ⟨oq, nq, hw''⟩ := hw'; subst hw'')
    go_wp2
    all_goals
      go_end0
      exact ⟨rfl, (HP1.out.ext (by simp (maxDischargeDepth := 60))).set 1 _ (by simp [Ch.Plant.rise, Ch.clamp]; omega) rfl, (HK1.out.ext (by simp (maxDischargeDepth := 60))).setCell (Or.inl (Or.inl rfl)) _⟩

set_option maxRecDepth 100000 in
set_option maxHeartbeats 2000000 in
theorem swing_any {pb mb : Nat} {p : Ch.Plant} {w : World} (h : PlantAt w pb mb p) (o : Bool) :
    Calls Try.prog 148 #[.pointer (some ⟨pb, 0, none⟩), .bool o] w (Did pb mb w (p.swing o) (.tuple #[])) := by
  obtain ⟨c0, c1, c2, c3, c4, c5, c6, c7, c8, c9⟩ := h.cells
  have hb := cell_lt c1
  have HP := Lib.hid h
  have fz := block_free h.blk
  clear h
  cases o
  all_goals
    go_enter Try.func148, Try.ntmps148
    go_wp2
    all_goals
      go_end0
      refine ⟨rfl, ?_, ((Kept.refl _ _).setCell (Or.inl (Or.inl rfl)) _).setCell (Or.inl (Or.inl rfl)) _⟩
      first
      | exact (HP.out.set (q := { p with hurt := (p.swing true).hurt }) 9 _ (by simp [Ch.Plant.swing, *]; done) rfl).set (q := p.swing true) 3 _ (by simp [Ch.Plant.swing]; done) rfl
      | exact (HP.out.set (q := { p with hurt := (p.swing false).hurt }) 9 _ (by simp [Ch.Plant.swing, *]; done) rfl).set (q := p.swing false) 3 _ (by simp [Ch.Plant.swing]; done) rfl

theorem pass_moved {p : Ch.Plant} {o : Bool} (h : p.height ≠ 0 ∨ p.ext ≠ 0) : p.pass o = { p with hurt := p.hurt || p.openB } := by unfold Ch.Plant.pass; rw [if_pos h]

theorem pass_keeps_in {p : Ch.Plant} (h : ¬ (p.height ≠ 0 ∨ p.ext ≠ 0)) (hl : p.lift ≠ 0) : p.pass true = { p with hurt := p.hurt || p.openB } := by unfold Ch.Plant.pass; rw [if_neg h, if_pos rfl, if_neg hl]

theorem pass_keeps_out {p : Ch.Plant} (h : ¬ (p.height ≠ 0 ∨ p.ext ≠ 0)) (hl : p.bay ≠ 0) : p.pass false = { p with hurt := p.hurt || p.openB } := by unfold Ch.Plant.pass; rw [if_neg h, if_neg (by decide), if_neg hl]

theorem pass_in {p : Ch.Plant} (h0 : p.height = 0) (h1 : p.ext = 0) (hl : p.lift = 0) : p.pass true = { p with hurt := p.hurt || p.openB, lift := p.bay, bay := 0 } := by unfold Ch.Plant.pass; rw [if_neg (by omega), if_pos rfl, if_pos hl]

theorem pass_out {p : Ch.Plant} (h0 : p.height = 0) (h1 : p.ext = 0) (hl : p.bay = 0) : p.pass false = { p with hurt := p.hurt || p.openB, bay := p.lift, lift := 0 } := by unfold Ch.Plant.pass; rw [if_neg (by omega), if_neg (by decide), if_pos hl]

set_option maxRecDepth 100000 in
set_option maxHeartbeats 2000000 in
theorem pass_any {pb mb : Nat} {p : Ch.Plant} {w : World} (h : PlantAt w pb mb p) (o : Bool) :
    Calls Try.prog 149 #[.pointer (some ⟨pb, 0, none⟩), .bool o] w (Did pb mb w (p.pass o) (.tuple #[])) := by
  obtain ⟨c0, c1, c2, c3, c4, c5, c6, c7, c8, c9⟩ := h.cells
  have hb := cell_lt c1
  have HP := Lib.hid h
  have fz := block_free h.blk
  clear h
  cases o
  all_goals
    go_enter Try.func149, Try.ntmps149
    go_upto_region 1 with (go_at_call 157; (with_reducible refine (open_any _ _ _ _ (by assumption) (by assumption)).mono ?_); rintro e w1 ⟨rfl, o1, n1, rfl⟩)
    all_goals
      generalize hW : World.setCell _ _ _ = wq
      have P1 : PlantAt wq pb mb { p with hurt := p.hurt || p.openB } := by
        rw [← hW]
        first
        | exact HP.out.set 9 _ (by simp [Ch.Plant.openB, *]; done) rfl
        | exact (HP.out.ext (by simp (maxDischargeDepth := 60))).set 9 _ (by simp [Ch.Plant.openB, *]; done) rfl
      have K1 : Kept (Own pb mb) w wq := by
        rw [← hW]
        first
        | exact (Kept.refl _ _).setCell (Or.inl (Or.inl rfl)) _
        | exact (Kept.of_ext (by simp (maxDischargeDepth := 60))).setCell (Or.inl (Or.inl rfl)) _
      clear hW
      obtain ⟨d0, d1, d2, d3, d4, d5, d6, d7, d8, d9⟩ := P1.cells
      have hb' := cell_lt d1
      have fz' := block_free P1.blk
      have HP1 := Lib.hid P1
      have HK1 := Lib.hid K1
      clear P1 K1 c0 c1 c2 c3 c4 c5 c6 c7 c8 c9
      go_wp2
      all_goals
        go_end0
        go_light
        refine ⟨rfl, ?_, ?_⟩
        case refine_2 =>
          first
          | exact HK1.out
          | exact (HK1.out.setCell (Or.inl (Or.inl rfl)) _).setCell (Or.inl (Or.inl rfl)) _
        case refine_1 =>
          try simp only [bne_iff_ne, ne_eq, beq_iff_eq, beq_eq_false_iff_ne, bne_eq_false_iff_eq] at *
          first
          | (rw [pass_moved (by omega)]; exact HP1.out)
          | (rw [pass_keeps_in (by omega) (by omega)]; exact HP1.out)
          | (rw [pass_keeps_out (by omega) (by omega)]; exact HP1.out)
          | (rw [pass_in (by omega) (by omega) (by omega)]; exact (HP1.out.set (q := { p with hurt := p.hurt || p.openB, lift := p.bay }) 5 _ (by simp) rfl).set 6 _ (by simp) rfl)
          | (rw [pass_out (by omega) (by omega) (by omega)]; exact (HP1.out.set (q := { p with hurt := p.hurt || p.openB, bay := p.lift }) 6 _ (by simp) rfl).set 5 _ (by simp) rfl)

end Go.Proofs.Ytplomeacjbkgnaa
