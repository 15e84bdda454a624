/-
  The walks of the reference's machine: what is done to it.
-/
import Derived.Test.YtplomeacjbkgnaaRPlant2
namespace Go.Proofs.Ytplomeacjbkgnaa
open Go.RowKit

theorem RPlantAt.set {w : World} {rb : Nat} {p q : Ch.Plant} (h : RPlantAt w rb p) (i : Nat) (v : Value) (hq : (rCells p).setIfInBounds i v = rCells q) : RPlantAt (w.setCell ⟨rb, i, none⟩ v) rb q :=
  ⟨by rw [setCell_block h.blk, hq]⟩

theorem slot_set (p : Ch.Plant) {a b c : Nat} (a4 : a ≤ 4) (hb : b ≤ 1) (hc : c ≤ 1) (v : Int) :
    (rCells p).setIfInBounds (7 + a * 4 + b * 2 + c) (vi v) = rCells { p with slots := Ch.setSlot p.slots ⟨(a : Int), (b : Int), (c : Int)⟩ v } := by
  have ha : a = 0 ∨ a = 1 ∨ a = 2 ∨ a = 3 ∨ a = 4 := by omega
  have hb : b = 0 ∨ b = 1 := by omega
  have hc : c = 0 ∨ c = 1 := by omega
  rcases ha with rfl | rfl | rfl | rfl | rfl <;> rcases hb with rfl | rfl <;> rcases hc with rfl | rfl <;> rfl

/-- what becomes of the reference's machine -/
def RDid (rb : Nat) (w : World) (p' : Ch.Plant) (r : Value) (e : Ending) (w' : World) : Prop := e = .returned r ∧ RPlantAt w' rb p' ∧ Kept (Is rb) w w'

set_option maxRecDepth 100000 in
set_option maxHeartbeats 2000000 in
theorem rstall_any {rb : Nat} {p : Ch.Plant} {w : World} (h : RPlantAt w rb p) (n : Int) :
    Calls Try.prog 125 #[.pointer (some ⟨rb, 0, none⟩), vi n] w (RDid rb w (p.setStall n).1 (vi (p.setStall n).2)) := by
  obtain ⟨c0, c1, c2, c3, c4, c5, c6, c7, c8⟩ := h.cells
  have hb := cell_lt c1
  have HP := Lib.hid h
  have fz := block_free h.blk
  clear h
  go_enter Try.func125, Try.ntmps125
  go_wp2
  all_goals
    go_ret
    go_light
    unfold Ch.Plant.setStall
    first
    | (rw [if_pos (by omega)]; exact ⟨rfl, HP.out, Kept.refl _ _⟩)
    | (rw [if_neg (by omega)]; exact ⟨rfl, HP.out.set 27 _ (by simp), (Kept.refl _ _).put 27 _⟩)

set_option maxRecDepth 100000 in
set_option maxHeartbeats 2000000 in
theorem rleave_any {rb : Nat} {p : Ch.Plant} {w : World} (h : RPlantAt w rb p) :
    Calls Try.prog 123 #[.pointer (some ⟨rb, 0, none⟩)] w (RDid rb w p.leave.1 (.tuple #[vi p.leave.2.1, vi p.leave.2.2])) := by
  obtain ⟨c0, c1, c2, c3, c4, c5, c6, c7, c8⟩ := h.cells
  have hb := cell_lt c1
  have HP := Lib.hid h
  have fz := block_free h.blk
  clear h
  cases hd : p.door
  · rw [hd] at c3
    have HL : Hid (p.leave = (p, 0, 7)) := by unfold Hid Ch.Plant.leave; rw [if_pos (Or.inl hd)]
    clear hd
    go_enter Try.func123, Try.ntmps123
    go_wp2
    go_ret2
    rw [HL.out]
    exact ⟨rfl, HP.out, Kept.refl _ _⟩
  · rw [hd] at c3
    by_cases hy : p.bay = 0
    · have e1 : (p.bay == 0) = true := by simpa using hy
      have HL : Hid (p.leave = (p, 0, 7)) := by unfold Hid Ch.Plant.leave; rw [if_pos (Or.inr hy)]
      clear hd hy
      go_enter Try.func123, Try.ntmps123
      go_wp2
      go_ret2
      rw [HL.out]
      exact ⟨rfl, HP.out, Kept.refl _ _⟩
    · have e1 : (p.bay == 0) = false := by simpa using hy
      have HL : Hid (p.leave = ({ p with bay := 0 }, p.bay, 0)) := by unfold Hid Ch.Plant.leave; rw [if_neg (by simp [hd, hy])]
      clear hd hy
      go_enter Try.func123, Try.ntmps123
      go_wp2
      go_ret2
      rw [HL.out]
      exact ⟨rfl, HP.out.set 6 _ (by simp), (Kept.refl _ _).put 6 _⟩

set_option maxRecDepth 100000 in
set_option maxHeartbeats 2000000 in
theorem rwalk_any {rb : Nat} {p : Ch.Plant} {w : World} (h : RPlantAt w rb p) (hp : p.WF) (n : Int) :
    Calls Try.prog 120 #[.pointer (some ⟨rb, 0, none⟩), vi n] w (RDid rb w (p.walk n).1 (vi (p.walk n).2)) := by
  obtain ⟨c0, c1, c2, c3, c4, c5, c6, c7, c8⟩ := h.cells
  have hb := cell_lt c1
  have HP := Lib.hid h
  have fz := block_free h.blk
  have h1 := hp.pe1
  have h2 := hp.pe2
  clear h
  by_cases hr : n < -9 ∨ 9 < n
  · have HL : Hid (p.walk n = (p, 1)) := by unfold Hid Ch.Plant.walk; rw [if_pos hr]
    have HR := Lib.hid hr
    clear hr
    go_enter Try.func120, Try.ntmps120
    go_wp2
    all_goals
      first
      | (exfalso; have := HR.out; omega)
      | (go_ret; rw [HL.out]; exact ⟨rfl, HP.out, Kept.refl _ _⟩)
  · have r1 : -9 ≤ n := by omega
    have r2 : n ≤ 9 := by omega
    cases hd : p.door
    · rw [hd] at c3
      have HL : Hid (p.walk n = (p, 7)) := by unfold Hid Ch.Plant.walk; rw [if_neg hr, if_pos hd]
      clear hr hd
      go_enter Try.func120, Try.ntmps120
      go_wp2
      go_ret
      rw [HL.out]
      exact ⟨rfl, HP.out, Kept.refl _ _⟩
    · rw [hd] at c3
      have HL : Hid (p.walk n = ({ p with people := Ch.clamp (p.people + n) 9 }, 0)) := by unfold Hid Ch.Plant.walk; rw [if_neg hr, if_neg (by simp [hd])]
      have i1 : IntKind.i64.wrap (p.people + n) = p.people + n := IntWalk.i64_in _ (by omega)
      clear hr hd
      go_enter Try.func120, Try.ntmps120
      go_wp2
      all_goals
        go_ret
        rw [HL.out]
        refine ⟨rfl, ?_, ?_⟩
        case refine_1 =>
          first
          | exact HP.out.set 4 _ (by simp [Ch.clamp]; omega)
          | exact (HP.out.set (q := { p with people := p.people + n }) 4 _ (by simp)).set 4 _ (by simp [Ch.clamp]; omega)
        case refine_2 =>
          first
          | exact (Kept.refl _ _).put 4 _
          | exact ((Kept.refl _ _).put 4 _).put 4 _

/-- a machine of the reference's is made -/
def RMade (w : World) (n : Int) (e : Ending) (w' : World) : Prop := ∃ rb, e = .returned (.tuple #[.pointer (some ⟨rb, 0, none⟩), vi 0]) ∧ RPlantAt w' rb (Ch.Plant.new n) ∧ Ext w w' ∧ w.heap.size ≤ rb

set_option maxRecDepth 100000 in
set_option maxHeartbeats 2000000 in
theorem rnew_any (n : Int) (w : World) (h1 : 1 ≤ n) (h2 : n ≤ 4) : Calls Try.prog 77 #[vi n] w (RMade w n) := by
  go_enter Try.func77, Try.ntmps77
  go_wp2
  go_ret2
  refine ⟨w.heap.size, rfl, ⟨?_⟩, (by simp (maxDischargeDepth := 60)), by omega⟩
  rw [alloc_at _ _ _ (by simp)]
  rfl

set_option maxRecDepth 100000 in
set_option maxHeartbeats 2000000 in
theorem rnew_bad (n : Int) (w : World) (h : n < 1 ∨ 4 < n) : Calls Try.prog 77 #[vi n] w fun e w' => e = .returned (.tuple #[.pointer none, vi 1]) ∧ Ext w w' := by
  have H := Lib.hid h
  clear h
  go_enter Try.func77, Try.ntmps77
  go_wp2
  all_goals
    first
    | (exfalso; have := H.out; omega)
    | (go_ret2; exact ⟨rfl, (by simp (maxDischargeDepth := 60))⟩)

end Go.Proofs.Ytplomeacjbkgnaa
