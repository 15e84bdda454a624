/-
  The walks of package plan, and of the reference's plans: lists of goals, in new memory.
-/
import Derived.Test.YtplomeacjbkgnacTower
import Derived.Deep.RegionHeld3
import Derived.Deep.AppendLies
namespace Go.Proofs.Ytplomeacjbkgnac
open Go.RowKit

theorem infoGoal : (Try.prog.info? 63).map (fun i => (i.zero, i.size, i.bytes)) = some (some (.agg #[.int .i64 0, .int .i64 0]), 2, 16) := by kernel_rfl

/-- a new list of goals, in a world -/
def NewGoals (w : World) (l : List Ch.Goal) (e : Ending) (w' : World) : Prop := ∃ v, e = .returned v ∧ w'.ownsRow w.heap.size 63 2 v l.length (l.flatMap goalCells) ∧ Ext w w'

theorem NewGoals.sl {w : World} {l : List Ch.Goal} {e : Ending} {w' : World} (h : NewGoals w l e w') : ∃ a n c, e = .returned (.slice a n c) ∧ Sl w' 2 goalCells l a n c ∧ Ext w w' := by
  obtain ⟨v, rfl, ho, hx⟩ := h
  obtain ⟨a, c, rfl, hs⟩ := Sl.of_owns ho (by decide) (fun x => rfl)
  exact ⟨a, _, c, rfl, hs, hx⟩

theorem to_any (h : Int) (w : World) : Calls Try.prog 28 #[vi h] w (NewGoals w (Ch.ahead h)) := by
  go_enter Try.func28, Try.ntmps28
  go_wp2
  go_ret
  exact ⟨_, rfl, owns_new w 63 2 3 #[vi 2, vi 0, vi 5, vi 0, vi 1, vi h] rfl (by unfold maxLen; omega), by simp⟩



set_option maxRecDepth 100000 in
set_option maxHeartbeats 4000000 in
theorem there_any (p : Ch.Place) (k : Int) (w : World) (h0 : 0 ≤ p.depth) (h1 : p.depth ≤ 1) (h2 : 1 ≤ p.level) (h3 : p.level ≤ 4) : Calls Try.prog 30 #[placeA p, vi k] w (NewGoals w (Ch.there p k)) := by
  obtain ⟨i0, hi, hz0, hz1, hz2⟩ := info_parts infoGoal
  have hw : IntKind.i64.wrap (p.level * 3) = p.level * 3 := IntWalk.i64_in _ (by omega)
  have hw' : IntKind.i64.wrap (3 * p.level) = p.level * 3 := by rw [Int.mul_comm]; exact IntWalk.i64_in _ (by omega)
  go_enter Try.func30, Try.ntmps30
  go_wp2_with fail
  go_region_held3 (fun w' => w'.cell? ⟨w.heap.size, 0, none⟩ = some (vi p.level) ∧ w'.cell? ⟨w.heap.size, 1, none⟩ = some (vi p.side) ∧ w'.cell? ⟨w.heap.size, 2, none⟩ = some (vi p.depth))
    (first | go_keep | ((try dsimp only); (repeat' apply And.intro) <;> (simp (disch := (first | assumption | (simp; done) | (simp; omega))) [plus_cell, go_sem]; done)))
    (first
      | (go_at_call 28; refine (to_any _ _).mono ?_; rintro e w1 ⟨v1, rfl, hown1, o1, n1, rfl⟩)
      | (go_at_call 45; refine (ext_any p _ h0 h1).mono ?_; rintro e w1 ⟨rfl, o2, n2, rfl⟩)
      | (refine step_append_lies _ rfl _ _ _ rfl w.heap.size 63 i0 _ 2 16 Try.underlying30 hi hz0 hz1 hz2 rfl (by decide) v1 3 _ rfl (owns_base (owns_alloc (owns_more hown1 _ _) _) (by simp)) _ 3 3 [vi 2, vi (Ch.extOf p), vi k, vi 0, vi 2, vi 0] rfl rfl (World.news_of_block (alloc_at _ _ _ (by simp))) (by simp [Value.oneCell']) (by decide) (by unfold maxLen; omega) (by omega) (by first | omega | (simp; done) | (simp; omega)) _ rfl ?_; intro gg cap w3 hown3 hgrow hat hlt; obtain ⟨o3, n3, rfl⟩ := ext_grown (w := (w.alloc (.cells #[vi p.level, vi p.side, vi p.depth] 35)).drew) (by simp (maxDischargeDepth := 60)) hgrow (owns_block hown1)))
  go_wp2
  go_ret
  exact ⟨_, rfl, by simpa [Ch.there, Ch.ahead, goalCells] using hown3, (by simp (maxDischargeDepth := 60))⟩


set_option maxRecDepth 100000 in
set_option maxHeartbeats 1000000 in
theorem takeIn_any (w : World) : Calls Try.prog 10 #[] w (NewGoals w Ch.takeIn) := by
  obtain ⟨i0, hi, hz0, hz1, hz2⟩ := info_parts infoGoal
  go_enter Try.func10, Try.ntmps10
  go_wp2_with (first
    | (go_at_call 28; refine (to_any _ _).mono ?_; rintro e w1 ⟨v1, rfl, hown1, o1, n1, rfl⟩)
    | (at_builtin; refine wpList_append_lies _ rfl _ _ _ rfl w.heap.size 63 i0 _ 2 16 Try.underlying30 hi hz0 hz1 hz2 rfl (by decide) v1 3 _ rfl (owns_alloc hown1 _) _ 1 1 [vi 7, vi 0] rfl rfl (World.news_of_block (alloc_at _ _ _ (by simp))) (by simp [Value.oneCell']) (by decide) (by unfold maxLen; omega) (by omega) (by first | omega | (simp; done) | (simp; omega)) _ rfl ?_; intro gg cap w3 hown3 hgrow hat hlt; obtain ⟨o3, n3, rfl⟩ := ext_grown (w := w) (by simp (maxDischargeDepth := 60)) hgrow (owns_block hown1)))
  go_ret
  exact ⟨_, rfl, by simpa [Ch.takeIn, Ch.ahead, goalCells] using hown3, (by simp (maxDischargeDepth := 60))⟩


set_option maxRecDepth 100000 in
set_option maxHeartbeats 1000000 in
theorem giveOut_any (w : World) : Calls Try.prog 9 #[] w (NewGoals w Ch.giveOut) := by
  obtain ⟨i0, hi, hz0, hz1, hz2⟩ := info_parts infoGoal
  go_enter Try.func9, Try.ntmps9
  go_wp2_with (first
    | (go_at_call 28; refine (to_any _ _).mono ?_; rintro e w1 ⟨v1, rfl, hown1, o1, n1, rfl⟩)
    | (at_builtin; refine wpList_append_lies _ rfl _ _ _ rfl w.heap.size 63 i0 _ 2 16 Try.underlying30 hi hz0 hz1 hz2 rfl (by decide) v1 3 _ rfl (owns_alloc hown1 _) _ 2 2 [vi 8, vi 0, vi 6, vi 0] rfl rfl (World.news_of_block (alloc_at _ _ _ (by simp))) (by simp [Value.oneCell']) (by decide) (by unfold maxLen; omega) (by omega) (by first | omega | (simp; done) | (simp; omega)) _ rfl ?_; intro gg cap w3 hown3 hgrow hat hlt; obtain ⟨o3, n3, rfl⟩ := ext_grown (w := w) (by simp (maxDischargeDepth := 60)) hgrow (owns_block hown1)))
  go_ret
  exact ⟨_, rfl, by simpa [Ch.giveOut, Ch.ahead, goalCells] using hown3, (by simp (maxDischargeDepth := 60))⟩




theorem fetch_any (p : Ch.Place) (w : World) (h0 : 0 ≤ p.depth) (h1 : p.depth ≤ 1) (h2 : 1 ≤ p.level) (h3 : p.level ≤ 4) : Calls Try.prog 17 #[placeA p] w (NewGoals w (Ch.fetch p)) := by
  go_enter Try.func17, Try.ntmps17
  go_wp2_with (go_at_call 30; refine (there_any p _ _ h0 h1 h2 h3).mono ?_; rintro e w1 ⟨v1, rfl, hown1, o1, n1, rfl⟩)
  go_ret
  exact ⟨_, rfl, owns_base hown1 (by simp), (by simp (maxDischargeDepth := 60))⟩

theorem bring_any (p : Ch.Place) (w : World) (h0 : 0 ≤ p.depth) (h1 : p.depth ≤ 1) (h2 : 1 ≤ p.level) (h3 : p.level ≤ 4) : Calls Try.prog 18 #[placeA p] w (NewGoals w (Ch.bring p)) := by
  go_enter Try.func18, Try.ntmps18
  go_wp2_with (go_at_call 30; refine (there_any p _ _ h0 h1 h2 h3).mono ?_; rintro e w1 ⟨v1, rfl, hown1, o1, n1, rfl⟩)
  go_ret
  exact ⟨_, rfl, owns_base hown1 (by simp), (by simp (maxDischargeDepth := 60))⟩
end Go.Proofs.Ytplomeacjbkgnac
