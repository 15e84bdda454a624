/-
  The walk of PlanSays.
-/
import Derived.Test.YtplomeacjbkgnaaPlan
import Derived.Test.YtplomeacjbkgnaaSames
namespace Go.Proofs.Ytplomeacjbkgnaa
open Go.RowKit

set_option maxRecDepth 100000 in
set_option maxHeartbeats 2000000 in
theorem plans_any (w : World) : Calls Try.prog 12 #[] w fun e w' => e = .returned (.bool true) ∧ Ext w w' := by
  go_enter Try.func12, Try.ntmps12
  go_wp2_with (go_at_call 14; refine (takeIn_any _).mono ?_; intro e w1 hn; obtain ⟨a1, m1, c1, rfl, hs, o1, n1, rfl⟩ := hn.sl; have e1 := hs.len; have hm : m1 = 4 := e1.symm; clear e1; subst hm; obtain ⟨p, q, u, rfl, hu, du⟩ := hs.get (k := 3) (by decide); have hu' : (⟨7, 0⟩ : Ch.Goal) = u := Option.some.inj hu; clear hu; subst hu'; have du := at2 du)
  go_ret
  exact ⟨by simp, (by simp (maxDischargeDepth := 60))⟩

set_option maxRecDepth 100000 in
set_option maxHeartbeats 1500000 in
theorem planSays_walk (p : Ch.Place) (w : World) : Calls Try.prog 3 #[placeA p] w fun e w' => e = .returned (.bool true) ∧ Ext w w' := by
  by_cases hp : Ch.placeFault p 4 = 0
  · obtain ⟨h2, h3, _, _, h0, h1⟩ := place_ok.1 hp
    have hp' : Ch.placeFault ⟨p.level, p.side, p.depth⟩ 4 = 0 := hp
    clear hp
    go_enter Try.func3, Try.ntmps3
    go_wp2_with (first | (go_at_call 12; (with_reducible refine (plans_any _).mono ?_); rintro e w1 ⟨rfl, o1, n1, rfl⟩) | (go_at_call 14; (with_reducible refine (takeIn_any _).mono ?_); intro e w1 hn; obtain ⟨a1, m1, c1, rfl, hs, o1, n1, rfl⟩ := hn.sl; (try simp only [plus_plus, Array.append_assoc] at hs)) | (go_at_call 15; (with_reducible refine (rTakeIn_any _).mono ?_); intro e w1 hn; obtain ⟨a1, m1, c1, rfl, hs, o1, n1, rfl⟩ := hn.sl; (try simp only [plus_plus, Array.append_assoc] at hs)) | (go_at_call 16; (with_reducible refine (giveOut_any _).mono ?_); intro e w1 hn; obtain ⟨a1, m1, c1, rfl, hs, o1, n1, rfl⟩ := hn.sl; (try simp only [plus_plus, Array.append_assoc] at hs)) | (go_at_call 17; (with_reducible refine (rGiveOut_any _).mono ?_); intro e w1 hn; obtain ⟨a1, m1, c1, rfl, hs, o1, n1, rfl⟩ := hn.sl; (try simp only [plus_plus, Array.append_assoc] at hs)) | (go_at_call 18; (with_reducible refine (welcome_any _).mono ?_); intro e w1 hn; obtain ⟨a1, m1, c1, rfl, hs, o1, n1, rfl⟩ := hn.sl; (try simp only [plus_plus, Array.append_assoc] at hs)) | (go_at_call 19; (with_reducible refine (rWelcome_any _).mono ?_); intro e w1 hn; obtain ⟨a1, m1, c1, rfl, hs, o1, n1, rfl⟩ := hn.sl; (try simp only [plus_plus, Array.append_assoc] at hs)) | (go_at_call 13; (with_reducible refine (sameGoals_yes _ _ _ _ _ _ _ _ _ (by first | assumption | exact Sl.pre (by assumption) ⟨_, by simp only [Array.append_assoc]; rfl⟩ | exact Sl.ext (by assumption) _ _) (by first | assumption | exact Sl.pre (by assumption) ⟨_, by simp only [Array.append_assoc]; rfl⟩ | exact Sl.ext (by assumption) _ _) (by first | rfl | (simp [Ch.fetch, Ch.bring]; done))).mono ?_); rintro e w1 ⟨rfl, o1, n1, rfl⟩))
    go_region_held3 (fun w' => w'.cell? ⟨w.heap.size, 0, none⟩ = some (vi p.level) ∧ w'.cell? ⟨w.heap.size, 1, none⟩ = some (vi p.side) ∧ w'.cell? ⟨w.heap.size, 2, none⟩ = some (vi p.depth))
      (first | go_keep | ((try dsimp only); (repeat' apply And.intro) <;> (simp (disch := (first | assumption | (simp; done) | (simp; omega))) [plus_cell, go_sem]; done)))
      (first | (go_at_call 20; (with_reducible refine (rplaceFault_f _ _ _ _ _).mono ?_); rintro e w1 ⟨rfl, o1, n1, rfl⟩) | (go_at_call 21; (with_reducible refine (fetch_any p _ h0 h1 h2 h3).mono ?_); intro e w1 hn; obtain ⟨a1, m1, c1, rfl, hs, o1, n1, rfl⟩ := hn.sl; (try simp only [plus_plus, Array.append_assoc] at hs)) | (go_at_call 23; (with_reducible refine (bring_any p _ h0 h1 h2 h3).mono ?_); intro e w1 hn; obtain ⟨a1, m1, c1, rfl, hs, o1, n1, rfl⟩ := hn.sl; (try simp only [plus_plus, Array.append_assoc] at hs)) | (go_at_call 22; (with_reducible refine (rthere_any p _ _ h0 h1 h2 h3).mono ?_); intro e w1 hn; obtain ⟨a1, m1, c1, rfl, hs, o1, n1, rfl⟩ := hn.sl; (try simp only [plus_plus, Array.append_assoc] at hs)) | (go_at_call 13; (with_reducible refine (sameGoals_yes _ _ _ _ _ _ _ _ _ (by first | assumption | exact Sl.pre (by assumption) ⟨_, by simp only [Array.append_assoc]; rfl⟩ | exact Sl.ext (by assumption) _ _) (by first | assumption | exact Sl.pre (by assumption) ⟨_, by simp only [Array.append_assoc]; rfl⟩ | exact Sl.ext (by assumption) _ _) (by first | rfl | (simp [Ch.fetch, Ch.bring]; done))).mono ?_); rintro e w1 ⟨rfl, o1, n1, rfl⟩))
    go_wp2
    go_ret
    exact ⟨by simp, (by simp (maxDischargeDepth := 60))⟩
  · have hp' : Ch.placeFault ⟨p.level, p.side, p.depth⟩ 4 = 1 := place_bad hp
    clear hp
    go_enter Try.func3, Try.ntmps3
    go_wp2_with (first | (go_at_call 12; (with_reducible refine (plans_any _).mono ?_); rintro e w1 ⟨rfl, o1, n1, rfl⟩) | (go_at_call 14; (with_reducible refine (takeIn_any _).mono ?_); intro e w1 hn; obtain ⟨a1, m1, c1, rfl, hs, o1, n1, rfl⟩ := hn.sl; (try simp only [plus_plus, Array.append_assoc] at hs)) | (go_at_call 15; (with_reducible refine (rTakeIn_any _).mono ?_); intro e w1 hn; obtain ⟨a1, m1, c1, rfl, hs, o1, n1, rfl⟩ := hn.sl; (try simp only [plus_plus, Array.append_assoc] at hs)) | (go_at_call 16; (with_reducible refine (giveOut_any _).mono ?_); intro e w1 hn; obtain ⟨a1, m1, c1, rfl, hs, o1, n1, rfl⟩ := hn.sl; (try simp only [plus_plus, Array.append_assoc] at hs)) | (go_at_call 17; (with_reducible refine (rGiveOut_any _).mono ?_); intro e w1 hn; obtain ⟨a1, m1, c1, rfl, hs, o1, n1, rfl⟩ := hn.sl; (try simp only [plus_plus, Array.append_assoc] at hs)) | (go_at_call 18; (with_reducible refine (welcome_any _).mono ?_); intro e w1 hn; obtain ⟨a1, m1, c1, rfl, hs, o1, n1, rfl⟩ := hn.sl; (try simp only [plus_plus, Array.append_assoc] at hs)) | (go_at_call 19; (with_reducible refine (rWelcome_any _).mono ?_); intro e w1 hn; obtain ⟨a1, m1, c1, rfl, hs, o1, n1, rfl⟩ := hn.sl; (try simp only [plus_plus, Array.append_assoc] at hs)) | (go_at_call 13; (with_reducible refine (sameGoals_yes _ _ _ _ _ _ _ _ _ (by first | assumption | exact Sl.pre (by assumption) ⟨_, by simp only [Array.append_assoc]; rfl⟩ | exact Sl.ext (by assumption) _ _) (by first | assumption | exact Sl.pre (by assumption) ⟨_, by simp only [Array.append_assoc]; rfl⟩ | exact Sl.ext (by assumption) _ _) (by first | rfl | (simp [Ch.fetch, Ch.bring]; done))).mono ?_); rintro e w1 ⟨rfl, o1, n1, rfl⟩))
    generalize hW : World.plus _ _ _ = wq
    have c0 : wq.cell? ⟨w.heap.size, 0, none⟩ = some (vi p.level) := by rw [← hW]; simp [go_sem]
    have c1 : wq.cell? ⟨w.heap.size, 1, none⟩ = some (vi p.side) := by rw [← hW]; simp [go_sem]
    have c2 : wq.cell? ⟨w.heap.size, 2, none⟩ = some (vi p.depth) := by rw [← hW]; simp [go_sem]
    have hx : Ext w wq := by rw [← hW]; exact (by simp (maxDischargeDepth := 60))
    have hz : w.heap.size < wq.heap.size := by rw [← hW]; simp; omega
    clear hW
    (refine wp_region_ext (by kernel_rfl) (by kernel_rfl) ?_; (repeat (first | go_big_quiet_step ((intro _; go_at_call 20; exact ext_callF (by intro _ _; simp) (rplaceFault_f _ _ _ _ _))) | quiet_step ((intro _; go_at_call 20; exact ext_callF (by intro _ _; simp) (rplaceFault_f _ _ _ _ _))))); refine wpQuiet_nil ?_; intro _ hw'; obtain ⟨oq, nq, hw''⟩ := hw'; subst hw'')
    go_wp2
    go_ret
    exact ⟨by simp, hx.plus _ _⟩
end Go.Proofs.Ytplomeacjbkgnaa
