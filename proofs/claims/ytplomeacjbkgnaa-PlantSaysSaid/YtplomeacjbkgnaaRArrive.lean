/-
  The walks of the reference's Has and Arrive.
-/
import Derived.Test.YtplomeacjbkgnaaRWhere
import Derived.Test.YtplomeacjbkgnaaRPlantStep
namespace Go.Proofs.Ytplomeacjbkgnaa
open Go.RowKit

set_option maxRecDepth 100000 in
set_option maxHeartbeats 2000000 in
theorem rhas_at (hh : Bool) {rb : Nat} {p : Ch.Plant} {w : World} (h : RPlantAt w rb p) (hp : p.WF) (id : Int) (he : Hid (p.has id = hh)) :
    Calls Try.prog 83 #[.pointer (some ⟨rb, 0, none⟩), vi id] w fun e w' => e = .returned (.bool hh) ∧ Ext w w' := by
  obtain ⟨c0, c1, c2, c3, c4, c5, c6, c7, c8⟩ := h.cells
  have hb := cell_lt c1
  have HP := Lib.hid h
  clear h
  obtain ⟨x0, x1, x2, bb, HV⟩ : ∃ x0 x1 x2 bb, Hid (whereV (p.where_ id) = .tuple #[.agg #[vi x0, vi x1, vi x2], .bool bb]) := ⟨_, _, _, _, rfl⟩
  have HB : Hid ((bb || p.lift == id || p.bay == id) = hh) := by
    have e := HV.out
    unfold whereV at e
    simp only [Value.tuple.injEq, Array.mk.injEq, List.cons.injEq, Value.bool.injEq] at e
    unfold Hid
    rw [← he.out, Ch.has_where, e.2.1]
  cases bb
  all_goals
    go_enter Try.func83, Try.ntmps83
    go_wp2_with (go_at_call 81; (with_reducible refine (rwhere_any (HP.out.ext (by simp (maxDischargeDepth := 60))) hp _).mono ?_); rintro e w1 ⟨he1, o1, n1, rfl⟩; rw [HV.out] at he1; subst he1)
    all_goals
      go_ret
      go_light
      exact ⟨by rw [← HB.out]; simp [*], (by simp (maxDischargeDepth := 60))⟩

set_option maxRecDepth 100000 in
set_option maxHeartbeats 2000000 in
theorem rarrive_any {rb : Nat} {p : Ch.Plant} {w : World} (h : RPlantAt w rb p) (hp : p.WF) (n : Int) :
    Calls Try.prog 121 #[.pointer (some ⟨rb, 0, none⟩), vi n] w (RDid rb w (p.arrive n).1 (vi (p.arrive n).2)) := by
  obtain ⟨c0, c1, c2, c3, c4, c5, c6, c7, c8⟩ := h.cells
  have hb := cell_lt c1
  have HP := Lib.hid h
  have fz := block_free h.blk
  clear h
  by_cases hr : n < 1 ∨ 999 < n
  · have HL : Hid (p.arrive n = (p, 1)) := by unfold Hid Ch.Plant.arrive; rw [if_pos hr]
    have HR := Lib.hid hr
    clear hr
    go_enter Try.func121, Try.ntmps121
    go_wp2
    all_goals
      first
      | (exfalso; have := HR.out; omega)
      | (go_ret; rw [HL.out]; exact ⟨rfl, HP.out, Kept.refl _ _⟩)
  · have r1 : 1 ≤ n := by omega
    have r2 : n ≤ 999 := by omega
    by_cases hd : p.door = false ∨ p.bay ≠ 0
    · have HL : Hid (p.arrive n = (p, 7)) := by unfold Hid Ch.Plant.arrive; rw [if_neg hr, if_pos hd]
      have HD := Lib.hid hd
      clear hr hd
      go_enter Try.func121, Try.ntmps121
      go_wp2_with fail
      all_goals
        first
        | (go_ret; rw [HL.out]; exact ⟨rfl, HP.out, Kept.refl _ _⟩)
        | (exfalso; have := HD.out; simp_all; done)
    · have hd1 : p.door = true := by cases hq : p.door; exact absurd (Or.inl hq) hd; rfl
      have hd2 : (p.bay != 0) = false := by simpa using (fun e => hd (Or.inr e))
      rw [hd1] at c3
      cases hh : p.has n
      · have HL : Hid (p.arrive n = ({ p with bay := n }, 0)) := by unfold Hid Ch.Plant.arrive; rw [if_neg hr, if_neg hd, if_neg (by rw [hh]; simp)]
        have HH := Lib.hid hh
        clear hr hd hh hd1
        go_enter Try.func121, Try.ntmps121
        go_wp2_with (go_at_call 83; (with_reducible refine (rhas_at false (HP.out.ext (by simp (maxDischargeDepth := 60))) hp _ HH).mono ?_); rintro e w1 ⟨rfl, o1, n1, rfl⟩)
        go_ret
        rw [HL.out]
        exact ⟨rfl, (HP.out.ext (by simp (maxDischargeDepth := 60))).set 6 _ (by simp), Kept.put (Kept.of_ext (by simp (maxDischargeDepth := 60))) 6 _⟩
      · have HL : Hid (p.arrive n = (p, 6)) := by unfold Hid Ch.Plant.arrive; rw [if_neg hr, if_neg hd, if_pos hh]
        have HH := Lib.hid hh
        clear hr hd hh hd1
        go_enter Try.func121, Try.ntmps121
        go_wp2_with (go_at_call 83; (with_reducible refine (rhas_at true (HP.out.ext (by simp (maxDischargeDepth := 60))) hp _ HH).mono ?_); rintro e w1 ⟨rfl, o1, n1, rfl⟩)
        go_ret
        rw [HL.out]
        exact ⟨rfl, HP.out.ext (by simp (maxDischargeDepth := 60)), Kept.of_ext (by simp (maxDischargeDepth := 60))⟩
end Go.Proofs.Ytplomeacjbkgnaa
