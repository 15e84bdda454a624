/-
  The walks of the statements' own functions run, calm and but.
-/
import Derived.Test.YtplomeacjbkgnacTopOut
import Derived.Test.YtplomeacjbkgnacGuard
import Derived.Test.YtplomeacjbkgnacGoal
import Derived.Test.YtplomeacjbkgnacPlan
import Derived.Test.YtplomeacjbkgnacFetchLaw
namespace Go.Proofs.Ytplomeacjbkgnac
open Go.RowKit

theorem Sl.kept {α : Type} {w w' : World} {c : Nat} {enc : α → List Value} {l : List α} {a : Option Addr} {n cap : Nat} {S : Nat → Prop} (h : Sl w c enc l a n cap) (k : Kept S w w') (hs : ∀ b o, a = some ⟨b, o, none⟩ → ¬ S b) : Sl w' c enc l a n cap := by
  refine ⟨h.1, h.2.1, h.2.2.1, fun h0 => ?_⟩
  obtain ⟨b, o, rfl, hc⟩ := h.2.2.2 h0
  refine ⟨b, o, rfl, fun i x hx j y hy => ?_⟩
  have h1 := hc i x hx j y hy
  have hlt := cell_lt h1
  have h2 := k.block b hlt (hs b o rfl)
  simp only [World.cell?, h2]
  simpa only [World.cell?] using h1

theorem Sl.head {α : Type} {w : World} {c : Nat} {enc : α → List Value} {x : α} {l : List α} {a : Option Addr} {n cap : Nat} (h : Sl w c enc (x :: l) a n cap) : 0 < n ∧ ∃ b o, a = some ⟨b, o, none⟩ ∧ ∀ j y, (enc x)[j]? = some y → w.cell? ⟨b, o + j, none⟩ = some y := by
  have hn : 0 < n := by have := h.1; simp at this; omega
  refine ⟨hn, ?_⟩
  obtain ⟨b, o, rfl, hc⟩ := h.2.2.2 hn
  refine ⟨b, o, rfl, fun j y hy => ?_⟩
  have := hc 0 x rfl j y hy
  simpa using this

theorem Sl.tail {α : Type} {w : World} {c : Nat} {enc : α → List Value} {x : α} {l : List α} {b o : Nat} {n cap : Nat} (h : Sl w c enc (x :: l) (some ⟨b, o, none⟩) n cap) : Sl w c enc l (some ⟨b, o + c, none⟩) (n - 1) (cap - 1) := by
  have hl := h.1
  simp at hl
  refine ⟨by omega, by have := h.2.1; omega, by have := h.2.2.1; omega, fun h0 => ⟨b, o + c, rfl, fun i y hy j z hz => ?_⟩⟩
  obtain ⟨b', o', e, hc⟩ := h.2.2.2 (by omega)
  cases e
  have := hc (i + 1) y (by simpa using hy) j z hz
  rw [show o + c + i * c + j = o + (i + 1) * c + j by rw [Nat.add_mul]; omega]
  exact this

/-- a list without elements lies anywhere -/
theorem Sl.none_left {α : Type} {w : World} {c : Nat} {enc : α → List Value} {x : α} {a : Option Addr} {n cap : Nat} (h : Sl w c enc [x] a n cap) (a' : Option Addr) : Sl w c enc [] a' (n - 1) (cap - 1) := by
  have hl := h.1
  simp at hl
  exact ⟨by simp; omega, by omega, by have := h.2.2.1; omega, fun h0 => by omega⟩

/-- how it stands with goals that are run -/
structure RunAt (w wr : World) (pb mb : Nat) (p : Ch.Plant) (gl : List Ch.Goal) (tk k : Nat) (q : Ch.Plant) (r : List Ch.Goal) (a : Option Addr) (n c : Nat) : Prop where
  sl : Sl wr 2 goalCells r a n c
  ne : ∀ b o, a = some ⟨b, o, none⟩ → b ≠ pb ∧ b ≠ mb
  at_ : PlantAt wr pb mb q
  wf : q.WF
  run : Ch.runGoals (tk - k) q r = Ch.runGoals tk p gl
  kept : Kept (Own pb mb) w wr

theorem run_pop {n : Nat} {p : Ch.Plant} {g : Ch.Goal} {r : List Ch.Goal} (h : (Ch.nextOf g p.sense).2 = true) {tk k : Nat} (hk : k < tk) (hn : n = tk - (k + 1)) : Ch.runGoals (tk - k) p (g :: r) = Ch.runGoals n p r := by
  rw [show tk - k = n + 1 by omega]; exact Ch.run_done h

theorem run_act {n : Nat} {p : Ch.Plant} {g : Ch.Goal} {r : List Ch.Goal} (h : (Ch.nextOf g p.sense).2 = false) {tk k : Nat} (hk : k < tk) (hn : n = tk - (k + 1)) : Ch.runGoals (tk - k) p (g :: r) = Ch.runGoals n (p.tick1 (Ch.nextOf g p.sense).1) (g :: r) := by
  rw [show tk - k = n + 1 by omega]
  exact Ch.run_do (c := (Ch.nextOf g p.sense).1) (by rw [← h])

set_option maxRecDepth 100000 in
set_option maxHeartbeats 4000000 in
theorem run_any {pb mb : Nat} {p : Ch.Plant} {w : World} (h : PlantAt w pb mb p) (hp : p.WF) (gl : List Ch.Goal) (a : Option Addr) (n c : Nat) (hs : Sl w 2 goalCells gl a n c) (hne : ∀ b o, a = some ⟨b, o, none⟩ → b ≠ pb ∧ b ≠ mb) (tk : Nat) (ht : tk ≤ 1000) :
    Calls Try.prog 11 #[.pointer (some ⟨pb, 0, none⟩), .slice a n c, vi tk] w (Did pb mb w (Ch.runGoals tk p gl).1 (.bool (Ch.runGoals tk p gl).2)) := by
  have R0 : RunAt w w pb mb p gl tk 0 p gl a n c := ⟨hs, hne, h, hp, rfl, Kept.refl _ _⟩
  have HR0 := Lib.hid R0
  clear R0 h hs hne
  go_enter Try.func11, Try.ntmps11
  go_wp2
  go_loopw [1, 7] (fun v i wr => ∃ (k : Nat) (q : Ch.Plant) (r : List Ch.Goal) (a : Option Addr) (n c : Nat), k ≤ tk ∧ i = .int .i64 k ∧ v = .slice a n c ∧ RunAt w wr pb mb p gl tk k q r a n c) (fun _ i _ => tk - (intOf i).toNat)
  case atStart => exact ⟨0, _, _, _, _, _, by omega, rfl, rfl, HR0.out⟩
  case round =>
    obtain ⟨k, q, r, a, n, c, hk, rfl, rfl, hr⟩ := hrel
    have hwf := hr.wf
    have hbd := hr.sl.bound
    have HR := Lib.hid hr
    by_cases hlt : k < tk
    · cases r with
      | nil =>
        have hn0 : n = 0 := by have := hr.sl.len; simpa using this.symm
        subst hn0
        have HE : Hid (Ch.runGoals tk p gl = (q, true)) := by unfold Hid; rw [← hr.run]; exact Ch.run_nil _ _
        clear hr
        go_wp2
        go_ret
        rw [HE.out]
        exact ⟨rfl, HR.out.at_, HR.out.kept⟩
      | cons g r =>
        obtain ⟨hn, b, o, rfl, hc⟩ := hr.sl.head
        have hc := at2 hc
        have hbl := cell_lt hc.1
        clear hr
        cases hd : (Ch.nextOf g q.sense).2
        · have HD := Lib.hid hd
          have hd' : (Ch.nextOf ⟨g.kind, g.n⟩ ⟨q.height, q.ext, q.door, q.people, q.lift, q.bay, q.full q.ext, q.full (q.ext - 1), q.full (q.ext + 1)⟩).2 = false := hd
          clear hd
          cases hm : Ch.may (Ch.nextOf g q.sense).1 q.sense
          · have HM := Lib.hid hm
            have hm' : Ch.may (Ch.nextOf ⟨g.kind, g.n⟩ ⟨q.height, q.ext, q.door, q.people, q.lift, q.bay, q.full q.ext, q.full (q.ext - 1), q.full (q.ext + 1)⟩).1 ⟨q.height, q.ext, q.door, q.people, q.lift, q.bay, q.full q.ext, q.full (q.ext - 1), q.full (q.ext + 1)⟩ = false := hm
            clear hm
            go_wp2_with (go_at_call 8; (with_reducible refine (sense_any HR.out.at_ hwf).mono ?_); rintro e ws ⟨rfl, oS, nS, rfl⟩)
            (refine wp_region_ext (by kernel_rfl) (by kernel_rfl) ?_; (repeat (first | go_big_quiet_step ((intro _; go_at_call 29; exact ext_callG (next_f _ _ _ _ _ _ _ _ _ _ _ _) (by rintro w' ⟨o', n', rfl⟩; exact ⟨_, n', by first | (simp only [plus_plus]; rfl) | (simp only [plus_plus, Array.append_assoc]; rfl) | rfl⟩))) | quiet_step ((intro _; go_at_call 29; exact ext_callG (next_f _ _ _ _ _ _ _ _ _ _ _ _) (by rintro w' ⟨o', n', rfl⟩; exact ⟨_, n', by first | (simp only [plus_plus]; rfl) | (simp only [plus_plus, Array.append_assoc]; rfl) | rfl⟩))))); refine wpQuiet_nil ?_; intro _ hw'; obtain ⟨oq, nq, hw''⟩ := hw'; subst hw'')
            go_wp2_with (go_at_call 23; (with_reducible refine (may_f _ _ _ _ _ _ _ _ _ _ _).mono ?_); rintro e w1 ⟨rfl, o1, n1, rfl⟩)
            go_roundw
            case rel =>
              refine ⟨k + 1, q, g :: r, _, _, _, by omega, by go_num, rfl, HR.out.sl.below (Ext.below (by simp (maxDischargeDepth := 60))), HR.out.ne, HR.out.at_.ext (by simp (maxDischargeDepth := 60)), hwf, ?_, HR.out.kept.ext (by simp (maxDischargeDepth := 60))⟩
              rw [← HR.out.run, run_act HD.out hlt rfl]
              unfold Ch.Plant.tick1
              rw [if_neg (by rw [HM.out]; simp)]
            case measure => simp [intOf]; omega
          · have HM := Lib.hid hm
            have hm' : Ch.may (Ch.nextOf ⟨g.kind, g.n⟩ ⟨q.height, q.ext, q.door, q.people, q.lift, q.bay, q.full q.ext, q.full (q.ext - 1), q.full (q.ext + 1)⟩).1 ⟨q.height, q.ext, q.door, q.people, q.lift, q.bay, q.full q.ext, q.full (q.ext - 1), q.full (q.ext + 1)⟩ = true := hm
            clear hm
            go_wp2_with (first | (go_at_call 8; (with_reducible refine (sense_any HR.out.at_ hwf).mono ?_); rintro e ws ⟨rfl, oS, nS, rfl⟩) | (go_at_call 23; (with_reducible refine (may_f _ _ _ _ _ _ _ _ _ _ _).mono ?_); rintro e w1 ⟨rfl, o1, n1, rfl⟩))
            (refine wp_region_ext (by kernel_rfl) (by kernel_rfl) ?_; (repeat (first | go_big_quiet_step ((intro _; go_at_call 29; exact ext_callG (next_f _ _ _ _ _ _ _ _ _ _ _ _) (by rintro w' ⟨o', n', rfl⟩; exact ⟨_, n', by first | (simp only [plus_plus]; rfl) | (simp only [plus_plus, Array.append_assoc]; rfl) | rfl⟩))) | quiet_step ((intro _; go_at_call 29; exact ext_callG (next_f _ _ _ _ _ _ _ _ _ _ _ _) (by rintro w' ⟨o', n', rfl⟩; exact ⟨_, n', by first | (simp only [plus_plus]; rfl) | (simp only [plus_plus, Array.append_assoc]; rfl) | rfl⟩))))); refine wpQuiet_nil ?_; intro _ hw'; obtain ⟨oq, nq, hw''⟩ := hw'; subst hw'')
            go_wp2_with (go_at_call 23; (with_reducible refine (may_f _ _ _ _ _ _ _ _ _ _ _).mono ?_); rintro e w1 ⟨rfl, o1, n1, rfl⟩)
            go_at_call 21
            generalize hW : World.plus _ _ _ = wz
            have hxz : Ext wr wz := by rw [← hW]; exact (by simp (maxDischargeDepth := 60))
            clear hW
            refine (step_any (HR.out.at_.ext hxz) hwf _).mono ?_
            rintro e w4 ⟨rfl, hq4, hk4⟩
            have HQ4 := Lib.hid hq4
            have HK4 := Lib.hid ((Kept.of_ext hxz).trans hk4)
            clear hq4 hk4 hxz
            go_wp2
            go_roundw
            case rel =>
              refine ⟨k + 1, _, g :: r, _, _, _, by omega, by go_num, rfl, HR.out.sl.kept HK4.out (fun b' o' e c => by have := HR.out.ne b' o' e; rcases c with c | c; exact this.1 c; exact this.2 c), HR.out.ne, HQ4.out, hwf.step _, ?_, HR.out.kept.trans HK4.out⟩
              rw [← HR.out.run, run_act HD.out hlt rfl]
              unfold Ch.Plant.tick1
              rw [if_pos HM.out]
              rfl
            case measure => simp [intOf]; omega
        · have HD := Lib.hid hd
          have hd' : (Ch.nextOf ⟨g.kind, g.n⟩ ⟨q.height, q.ext, q.door, q.people, q.lift, q.bay, q.full q.ext, q.full (q.ext - 1), q.full (q.ext + 1)⟩).2 = true := hd
          clear hd
          by_cases hc1 : c = 1
          · subst hc1
            have hn1 : n = 1 := by omega
            subst hn1
            have hr0 : r = [] := by
              have := HR.out.sl.len
              simp at this
              exact this
            subst hr0
            go_wp2_with (go_at_call 8; (with_reducible refine (sense_any HR.out.at_ hwf).mono ?_); rintro e ws ⟨rfl, oS, nS, rfl⟩)
            (refine wp_region_ext (by kernel_rfl) (by kernel_rfl) ?_; (repeat (first | go_big_quiet_step ((intro _; go_at_call 29; exact ext_callG (next_f _ _ _ _ _ _ _ _ _ _ _ _) (by rintro w' ⟨o', n', rfl⟩; exact ⟨_, n', by first | (simp only [plus_plus]; rfl) | (simp only [plus_plus, Array.append_assoc]; rfl) | rfl⟩))) | quiet_step ((intro _; go_at_call 29; exact ext_callG (next_f _ _ _ _ _ _ _ _ _ _ _ _) (by rintro w' ⟨o', n', rfl⟩; exact ⟨_, n', by first | (simp only [plus_plus]; rfl) | (simp only [plus_plus, Array.append_assoc]; rfl) | rfl⟩))))); refine wpQuiet_nil ?_; intro _ hw'; obtain ⟨oq, nq, hw''⟩ := hw'; subst hw'')
            go_wp2
            go_roundw
            case rel =>
              refine ⟨k + 1, q, [], _, _, _, by omega, by go_num, rfl, (HR.out.sl.none_left _).below (Ext.below (by simp (maxDischargeDepth := 60))), HR.out.ne, HR.out.at_.ext (by simp (maxDischargeDepth := 60)), hwf, ?_, HR.out.kept.ext (by simp (maxDischargeDepth := 60))⟩
              rw [← HR.out.run, run_pop HD.out hlt rfl]
            case measure => simp [intOf]; omega
          · go_wp2_with (go_at_call 8; (with_reducible refine (sense_any HR.out.at_ hwf).mono ?_); rintro e ws ⟨rfl, oS, nS, rfl⟩)
            (refine wp_region_ext (by kernel_rfl) (by kernel_rfl) ?_; (repeat (first | go_big_quiet_step ((intro _; go_at_call 29; exact ext_callG (next_f _ _ _ _ _ _ _ _ _ _ _ _) (by rintro w' ⟨o', n', rfl⟩; exact ⟨_, n', by first | (simp only [plus_plus]; rfl) | (simp only [plus_plus, Array.append_assoc]; rfl) | rfl⟩))) | quiet_step ((intro _; go_at_call 29; exact ext_callG (next_f _ _ _ _ _ _ _ _ _ _ _ _) (by rintro w' ⟨o', n', rfl⟩; exact ⟨_, n', by first | (simp only [plus_plus]; rfl) | (simp only [plus_plus, Array.append_assoc]; rfl) | rfl⟩))))); refine wpQuiet_nil ?_; intro _ hw'; obtain ⟨oq, nq, hw''⟩ := hw'; subst hw'')
            go_wp2
            go_roundw
            case rel =>
              refine ⟨k + 1, q, r, _, _, _, by omega, by go_num, rfl, HR.out.sl.tail.below (Ext.below (by simp (maxDischargeDepth := 60))), ?_, HR.out.at_.ext (by simp (maxDischargeDepth := 60)), hwf, ?_, HR.out.kept.ext (by simp (maxDischargeDepth := 60))⟩
              · intro b' o' e
                cases e
                exact HR.out.ne b o rfl
              · rw [← HR.out.run, run_pop HD.out hlt rfl]
            case measure => simp [intOf]; omega
    · have hkk : k = tk := by omega
      subst hkk
      have HE : Hid (Ch.runGoals k p gl = (q, r.isEmpty)) := by
        unfold Hid
        rw [← hr.run, Nat.sub_self]
        rfl
      have HN := Lib.hid hr.sl.len
      clear hr
      go_wp2
      go_ret
      rw [HE.out]
      refine ⟨?_, HR.out.at_, HR.out.kept⟩
      have := HN.out
      cases r <;> simp at this ⊢ <;> omega
end Go.Proofs.Ytplomeacjbkgnac
