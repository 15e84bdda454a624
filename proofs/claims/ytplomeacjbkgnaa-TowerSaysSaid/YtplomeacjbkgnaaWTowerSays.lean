/-
  The walk of TowerSays.
-/
import Derived.Test.YtplomeacjbkgnaaErr
import Derived.Test.YtplomeacjbkgnaaLevels
import Derived.Test.YtplomeacjbkgnaaPlaces
import Derived.Test.YtplomeacjbkgnaaSames
namespace Go.Proofs.Ytplomeacjbkgnaa
open Go.RowKit

theorem same_nil (w : World) : Calls Try.prog 30 #[.nilIface, vi 0] w fun e w' => e = .returned (.bool true) ∧ Ext w w' := same_yes 0 w (by decide)

set_option maxRecDepth 100000 in
set_option maxHeartbeats 1000000 in
theorem towers_any (w : World) : Calls Try.prog 29 #[] w fun e w' => e = .returned (.bool true) ∧ Ext w w' := by
  have E1 : errV (Ch.placeFault ⟨1, 0, 1⟩ 1) = .nilIface := rfl
  have E2 : Ch.extOf ⟨1, 0, 1⟩ = -2 := rfl
  go_enter Try.func29, Try.ntmps29
  go_wp2_with (first
    | (go_at_call 37; (with_reducible refine (checkPlace_f _ _ _ _ _).mono ?_); rintro e w1 ⟨rfl, o1, n1, rfl⟩)
    | (go_at_call 30; (with_reducible refine (same_nil _).mono ?_); rintro e w1 ⟨rfl, o1, n1, rfl⟩)
    | (go_at_call 46; (with_reducible refine (ext_f _ _ _ _ (by decide) (by decide)).mono ?_); rintro e w1 ⟨rfl, o1, n1, rfl⟩)
    | (go_at_call 44; (with_reducible refine (places_any 1 _ (by decide) (by decide)).mono ?_); intro e w1 hn; obtain ⟨a1, m1, c1, rfl, hs1, o1, n1, rfl⟩ := hn.sl; obtain rfl : m1 = 2 := hs1.len.symm; clear hn hs1))
  go_ret
  exact ⟨by simp, (by simp (maxDischargeDepth := 60))⟩

theorem neqPlace_same (w : World) (a b c : Int) : (Go.binOp .neq 23 (.agg #[vi a, vi b, vi c]) (.agg #[vi a, vi b, vi c])).run Try.prog w = .ok (.bool false) w :=
  (neqStruct w (eqPlace w 9998 ⟨a, b, c⟩ ⟨a, b, c⟩)).trans (by simp)

set_option maxRecDepth 100000 in
set_option maxHeartbeats 4000000 in
theorem towerSays_yes (a : Option Addr) (n cap : Nat) (l : List Ch.Size) (c : Ch.Car) (p : Ch.Place) (levels : Int) (w : World) (h : Sl w 3 sizeCells l a n cap) (hn : n ≤ 10) :
    Calls Try.prog 6 #[.slice a n cap, carA c, placeA p, vi levels] w fun e w' => e = .returned (.bool true) ∧ Ext w w' := by
  have HF := Lib.hid h
  have hb := h.bound
  clear h
  go_enter Try.func6, Try.ntmps6
  go_wp2_with (go_at_call 29; (with_reducible refine (towers_any _).mono ?_); rintro e w1 ⟨rfl, o1, n1, rfl⟩)
  (refine wp_region_ext (by kernel_rfl) (by kernel_rfl) ?_; (repeat (first | go_big_quiet_step ((first
    | (intro _; go_at_call 31; exact ext_callG (checkSize_f _ _ _ _) (by rintro w' ⟨o', n', rfl⟩; exact ⟨_, n', by (try simp only [plus_plus, Array.append_assoc]); rfl⟩))
    | (intro _; go_at_call 32; exact ext_callG (rsizeFault_f _ _ _ _) (by rintro w' ⟨o', n', rfl⟩; exact ⟨_, n', by (try simp only [plus_plus, Array.append_assoc]); rfl⟩))
    | (intro _; go_at_call 33; exact ext_callG (checkCar_f _ _ _ _ _) (by rintro w' ⟨o', n', rfl⟩; exact ⟨_, n', by (try simp only [plus_plus, Array.append_assoc]); rfl⟩))
    | (intro _; go_at_call 34; exact ext_callG (rcarFault_f _ _ _ _ _) (by rintro w' ⟨o', n', rfl⟩; exact ⟨_, n', by (try simp only [plus_plus, Array.append_assoc]); rfl⟩))
    | (intro _; go_at_call 37; exact ext_callG (checkPlace_f _ _ _ _ _) (by rintro w' ⟨o', n', rfl⟩; exact ⟨_, n', by (try simp only [plus_plus, Array.append_assoc]); rfl⟩))
    | (intro _; go_at_call 20; exact ext_callG (rplaceFault_f _ _ _ _ _) (by rintro w' ⟨o', n', rfl⟩; exact ⟨_, n', by (try simp only [plus_plus, Array.append_assoc]); rfl⟩))
    | (intro _; go_at_call 35; exact ext_callG (check_any _ _ _ l _ (Sl.below HF.out (Ext.below (by simp (maxDischargeDepth := 60))))) (by rintro w' ⟨o', n', rfl⟩; exact ⟨_, n', by (try simp only [plus_plus, Array.append_assoc]); rfl⟩))
    | (intro _; go_at_call 36; exact ext_callG (rlevels_any _ _ _ l _ (Sl.below HF.out (Ext.below (by simp (maxDischargeDepth := 60))))) (by rintro w' ⟨o', n', rfl⟩; exact ⟨_, n', by (try simp only [plus_plus, Array.append_assoc]); rfl⟩))
    | (intro _; go_at_call 30; exact ext_callG (same_yes _ _ (by first | exact sizeFault_nn _ | exact carFault_nn _ | exact levelsFault_nn _ | exact placeFault_nn _ _)) (by rintro w' ⟨o', n', rfl⟩; exact ⟨_, n', by (try simp only [plus_plus, Array.append_assoc]); rfl⟩)))) | quiet_step ((first
    | (intro _; go_at_call 31; exact ext_callG (checkSize_f _ _ _ _) (by rintro w' ⟨o', n', rfl⟩; exact ⟨_, n', by (try simp only [plus_plus, Array.append_assoc]); rfl⟩))
    | (intro _; go_at_call 32; exact ext_callG (rsizeFault_f _ _ _ _) (by rintro w' ⟨o', n', rfl⟩; exact ⟨_, n', by (try simp only [plus_plus, Array.append_assoc]); rfl⟩))
    | (intro _; go_at_call 33; exact ext_callG (checkCar_f _ _ _ _ _) (by rintro w' ⟨o', n', rfl⟩; exact ⟨_, n', by (try simp only [plus_plus, Array.append_assoc]); rfl⟩))
    | (intro _; go_at_call 34; exact ext_callG (rcarFault_f _ _ _ _ _) (by rintro w' ⟨o', n', rfl⟩; exact ⟨_, n', by (try simp only [plus_plus, Array.append_assoc]); rfl⟩))
    | (intro _; go_at_call 37; exact ext_callG (checkPlace_f _ _ _ _ _) (by rintro w' ⟨o', n', rfl⟩; exact ⟨_, n', by (try simp only [plus_plus, Array.append_assoc]); rfl⟩))
    | (intro _; go_at_call 20; exact ext_callG (rplaceFault_f _ _ _ _ _) (by rintro w' ⟨o', n', rfl⟩; exact ⟨_, n', by (try simp only [plus_plus, Array.append_assoc]); rfl⟩))
    | (intro _; go_at_call 35; exact ext_callG (check_any _ _ _ l _ (Sl.below HF.out (Ext.below (by simp (maxDischargeDepth := 60))))) (by rintro w' ⟨o', n', rfl⟩; exact ⟨_, n', by (try simp only [plus_plus, Array.append_assoc]); rfl⟩))
    | (intro _; go_at_call 36; exact ext_callG (rlevels_any _ _ _ l _ (Sl.below HF.out (Ext.below (by simp (maxDischargeDepth := 60))))) (by rintro w' ⟨o', n', rfl⟩; exact ⟨_, n', by (try simp only [plus_plus, Array.append_assoc]); rfl⟩))
    | (intro _; go_at_call 30; exact ext_callG (same_yes _ _ (by first | exact sizeFault_nn _ | exact carFault_nn _ | exact levelsFault_nn _ | exact placeFault_nn _ _)) (by rintro w' ⟨o', n', rfl⟩; exact ⟨_, n', by (try simp only [plus_plus, Array.append_assoc]); rfl⟩)))))); refine wpQuiet_nil ?_; intro _ hw'; obtain ⟨oq, nq, hw''⟩ := hw'; subst hw'')
  go_wp2
  generalize hW : World.alloc (World.alloc _ _) _ = w0
  have k0 : w0.cell? ⟨w.heap.size, 0, none⟩ = some (vi c.id) := by rw [← hW]; simp [go_sem]
  have k1 : w0.cell? ⟨w.heap.size, 1, none⟩ = some (vi c.size.long) := by rw [← hW]; simp [go_sem]
  have k2 : w0.cell? ⟨w.heap.size, 2, none⟩ = some (vi c.size.high) := by rw [← hW]; simp [go_sem]
  have k3 : w0.cell? ⟨w.heap.size, 3, none⟩ = some (vi c.size.heavy) := by rw [← hW]; simp [go_sem]
  have p0 : w0.cell? ⟨w.heap.size + 1, 0, none⟩ = some (vi p.level) := by rw [← hW]; simp [go_sem]
  have p1 : w0.cell? ⟨w.heap.size + 1, 1, none⟩ = some (vi p.side) := by rw [← hW]; simp [go_sem]
  have p2 : w0.cell? ⟨w.heap.size + 1, 2, none⟩ = some (vi p.depth) := by rw [← hW]; simp [go_sem]
  have hx : Ext w w0 := by rw [← hW]; exact (by simp (maxDischargeDepth := 60))
  have HS : Hid (Sl w0 3 sizeCells l a n cap) := by unfold Hid; exact Sl.below HF.out hx.below
  have HX := Lib.hid hx
  have z1 := cell_lt k0
  have z2 := cell_lt p0
  clear hW hx HF
  go_loopw [10] (fun i wr => ∃ k : Nat, k ≤ n ∧ i = .int .i64 k ∧ Ext w0 wr) (fun i _ => n - (intOf i).toNat)
  case atStart => exact ⟨0, by omega, rfl, (by simp (maxDischargeDepth := 60))⟩
  case round =>
    obtain ⟨k, hk, rfl, o, m, rfl⟩ := hrel
    by_cases hlt : k < n
    · obtain ⟨b, q, u, rfl, hu, du⟩ := HS.out.get hlt
      have du := at3 du
      have hp := cell_lt du.1
      clear hu
      go_wp2
      (refine wp_region_ext (by kernel_rfl) (by kernel_rfl) ?_; (repeat (first | go_big_quiet_step ((first | (intro _; go_at_call 38; exact ext_callG (fits_f _ _ _ _ _ _ _) (by rintro w' ⟨o', n', rfl⟩; exact ⟨_, n', by (try simp only [plus_plus, Array.append_assoc]); rfl⟩)) | (intro _; go_at_call 39; exact ext_callG (rfits_f _ _ _ _ _ _ _) (by rintro w' ⟨o', n', rfl⟩; exact ⟨_, n', by (try simp only [plus_plus, Array.append_assoc]); rfl⟩)))) | quiet_step ((first | (intro _; go_at_call 38; exact ext_callG (fits_f _ _ _ _ _ _ _) (by rintro w' ⟨o', n', rfl⟩; exact ⟨_, n', by (try simp only [plus_plus, Array.append_assoc]); rfl⟩)) | (intro _; go_at_call 39; exact ext_callG (rfits_f _ _ _ _ _ _ _) (by rintro w' ⟨o', n', rfl⟩; exact ⟨_, n', by (try simp only [plus_plus, Array.append_assoc]); rfl⟩)))))); refine wpQuiet_nil ?_; intro _ hw'; obtain ⟨oq, nq, hw''⟩ := hw'; subst hw'')
      go_wp2
      go_roundw
      case rel => exact ⟨k + 1, by omega, by go_num, (by simp (maxDischargeDepth := 60))⟩
      case measure => simp [intOf]; omega
    · have hq := neqPlace_same
      have X1 : ∀ w, (Go.binOp .neq 23 (.agg #[vi p.level, vi p.side, vi 0]) (.agg #[vi p.level, vi p.side, vi 0])).run Try.prog w = .ok (.bool false) w := fun w => neqPlace_same w _ _ _
      have X2 : ∀ w, (Go.binOp .neq 23 (.agg #[vi levels, vi 1, vi 0]) (.agg #[vi levels, vi 1, vi 0])).run Try.prog w = .ok (.bool false) w := fun w => neqPlace_same w _ _ _
      clear hq
      go_wp2
      (refine wp_region_ext (by kernel_rfl) (by kernel_rfl) ?_; (repeat (first | go_big_quiet_step ((intro _; go_at_call 40; exact ext_callG (front_f _ _ _ _) (by rintro w' ⟨o', n', rfl⟩; exact ⟨_, n', by (try simp only [plus_plus, Array.append_assoc]); rfl⟩))) | quiet_step ((intro _; go_at_call 40; exact ext_callG (front_f _ _ _ _) (by rintro w' ⟨o', n', rfl⟩; exact ⟨_, n', by (try simp only [plus_plus, Array.append_assoc]); rfl⟩))))); refine wpQuiet_nil ?_; intro _ hw'; obtain ⟨oq, nq, hw''⟩ := hw'; subst hw'')
      by_cases hl : 1 ≤ levels ∧ levels ≤ 4
      · obtain ⟨hl1, hl2⟩ := hl
        go_wp2_with (first
          | (go_at_call 41; (with_reducible refine (spare_f _ _).mono ?_); rintro e w1 ⟨rfl, o1, n1, rfl⟩)
          | (go_at_call 42; (with_reducible refine (rspare_f _ _).mono ?_); rintro e w1 ⟨rfl, o1, n1, rfl⟩)
          | (go_at_call 44; (with_reducible refine (places_any _ _ hl1 hl2).mono ?_); intro e w1 hn; obtain ⟨a1, m1, c1, rfl, hs, o1, n1, rfl⟩ := hn.sl; (try simp only [plus_plus, Array.append_assoc] at hs))
          | (go_at_call 45; (with_reducible refine (rplaces_any _ _ hl1 hl2).mono ?_); intro e w1 hn; obtain ⟨a1, m1, c1, rfl, hs, o1, n1, rfl⟩ := hn.sl; (try simp only [plus_plus, Array.append_assoc] at hs))
          | (go_at_call 43; (with_reducible refine (samePlaces_yes _ _ _ _ _ _ _ _ _ (by first | assumption | exact Sl.pre (by assumption) ⟨_, by simp only [Array.append_assoc]; rfl⟩ | exact Sl.ext (by assumption) _ _) (by first | assumption | exact Sl.pre (by assumption) ⟨_, by simp only [Array.append_assoc]; rfl⟩ | exact Sl.ext (by assumption) _ _) (by rfl)).mono ?_); rintro e w1 ⟨rfl, o1, n1, rfl⟩))
        by_cases hpf : Ch.placeFault p 4 = 0
        · have h0 := (place_ok.1 hpf).2.2.2.2.1
          have h1 := (place_ok.1 hpf).2.2.2.2.2
          have E1 : Ch.placeFault ⟨p.level, p.side, p.depth⟩ 4 = 0 := hpf
          clear hpf
          (refine wp_region_ext (by kernel_rfl) (by kernel_rfl) ?_; (repeat (first | go_big_quiet_step ((first | (intro _; go_at_call 20; exact ext_callG (rplaceFault_f _ _ _ _ _) (by rintro w' ⟨o', n', rfl⟩; exact ⟨_, n', by (try simp only [plus_plus, Array.append_assoc]); rfl⟩)) | (intro _; go_at_call 46; exact ext_callG (ext_f _ _ _ _ h0 h1) (by rintro w' ⟨o', n', rfl⟩; exact ⟨_, n', by (try simp only [plus_plus, Array.append_assoc]); rfl⟩)) | (intro _; go_at_call 47; exact ext_callG (rext_f _ _ _ _ h0 h1) (by rintro w' ⟨o', n', rfl⟩; exact ⟨_, n', by (try simp only [plus_plus, Array.append_assoc]); rfl⟩)))) | quiet_step ((first | (intro _; go_at_call 20; exact ext_callG (rplaceFault_f _ _ _ _ _) (by rintro w' ⟨o', n', rfl⟩; exact ⟨_, n', by (try simp only [plus_plus, Array.append_assoc]); rfl⟩)) | (intro _; go_at_call 46; exact ext_callG (ext_f _ _ _ _ h0 h1) (by rintro w' ⟨o', n', rfl⟩; exact ⟨_, n', by (try simp only [plus_plus, Array.append_assoc]); rfl⟩)) | (intro _; go_at_call 47; exact ext_callG (rext_f _ _ _ _ h0 h1) (by rintro w' ⟨o', n', rfl⟩; exact ⟨_, n', by (try simp only [plus_plus, Array.append_assoc]); rfl⟩)))))); refine wpQuiet_nil ?_; intro _ hw'; obtain ⟨oq, nq, hw''⟩ := hw'; subst hw'')
          go_wp2
          go_ret
          exact ⟨by simp, HX.out.trans (by simp (maxDischargeDepth := 60))⟩
        · have E1 : Ch.placeFault ⟨p.level, p.side, p.depth⟩ 4 = 1 := place_bad hpf
          clear hpf
          (refine wp_region_ext (by kernel_rfl) (by kernel_rfl) ?_; (repeat (first | go_big_quiet_step ((intro _; go_at_call 20; exact ext_callG (rplaceFault_f _ _ _ _ _) (by rintro w' ⟨o', n', rfl⟩; exact ⟨_, n', by (try simp only [plus_plus, Array.append_assoc]); rfl⟩))) | quiet_step ((intro _; go_at_call 20; exact ext_callG (rplaceFault_f _ _ _ _ _) (by rintro w' ⟨o', n', rfl⟩; exact ⟨_, n', by (try simp only [plus_plus, Array.append_assoc]); rfl⟩))))); refine wpQuiet_nil ?_; intro _ hw'; obtain ⟨oq, nq, hw''⟩ := hw'; subst hw'')
          go_wp2
          go_ret
          exact ⟨by simp, HX.out.trans (by simp (maxDischargeDepth := 60))⟩
      · have hl3 : levels < 1 ∨ 4 < levels := by omega
        clear hl
        rcases hl3 with hl3 | hl3
        · go_wp2_with fail
          by_cases hpf : Ch.placeFault p 4 = 0
          · have h0 := (place_ok.1 hpf).2.2.2.2.1
            have h1 := (place_ok.1 hpf).2.2.2.2.2
            have E1 : Ch.placeFault ⟨p.level, p.side, p.depth⟩ 4 = 0 := hpf
            clear hpf
            (refine wp_region_ext (by kernel_rfl) (by kernel_rfl) ?_; (repeat (first | go_big_quiet_step ((first | (intro _; go_at_call 20; exact ext_callG (rplaceFault_f _ _ _ _ _) (by rintro w' ⟨o', n', rfl⟩; exact ⟨_, n', by (try simp only [plus_plus, Array.append_assoc]); rfl⟩)) | (intro _; go_at_call 46; exact ext_callG (ext_f _ _ _ _ h0 h1) (by rintro w' ⟨o', n', rfl⟩; exact ⟨_, n', by (try simp only [plus_plus, Array.append_assoc]); rfl⟩)) | (intro _; go_at_call 47; exact ext_callG (rext_f _ _ _ _ h0 h1) (by rintro w' ⟨o', n', rfl⟩; exact ⟨_, n', by (try simp only [plus_plus, Array.append_assoc]); rfl⟩)))) | quiet_step ((first | (intro _; go_at_call 20; exact ext_callG (rplaceFault_f _ _ _ _ _) (by rintro w' ⟨o', n', rfl⟩; exact ⟨_, n', by (try simp only [plus_plus, Array.append_assoc]); rfl⟩)) | (intro _; go_at_call 46; exact ext_callG (ext_f _ _ _ _ h0 h1) (by rintro w' ⟨o', n', rfl⟩; exact ⟨_, n', by (try simp only [plus_plus, Array.append_assoc]); rfl⟩)) | (intro _; go_at_call 47; exact ext_callG (rext_f _ _ _ _ h0 h1) (by rintro w' ⟨o', n', rfl⟩; exact ⟨_, n', by (try simp only [plus_plus, Array.append_assoc]); rfl⟩)))))); refine wpQuiet_nil ?_; intro _ hw'; obtain ⟨oq, nq, hw''⟩ := hw'; subst hw'')
            go_wp2
            go_ret
            exact ⟨by simp, HX.out.trans (by simp (maxDischargeDepth := 60))⟩
          · have E1 : Ch.placeFault ⟨p.level, p.side, p.depth⟩ 4 = 1 := place_bad hpf
            clear hpf
            (refine wp_region_ext (by kernel_rfl) (by kernel_rfl) ?_; (repeat (first | go_big_quiet_step ((intro _; go_at_call 20; exact ext_callG (rplaceFault_f _ _ _ _ _) (by rintro w' ⟨o', n', rfl⟩; exact ⟨_, n', by (try simp only [plus_plus, Array.append_assoc]); rfl⟩))) | quiet_step ((intro _; go_at_call 20; exact ext_callG (rplaceFault_f _ _ _ _ _) (by rintro w' ⟨o', n', rfl⟩; exact ⟨_, n', by (try simp only [plus_plus, Array.append_assoc]); rfl⟩))))); refine wpQuiet_nil ?_; intro _ hw'; obtain ⟨oq, nq, hw''⟩ := hw'; subst hw'')
            go_wp2
            go_ret
            exact ⟨by simp, HX.out.trans (by simp (maxDischargeDepth := 60))⟩
        · go_wp2_with fail
          by_cases hpf : Ch.placeFault p 4 = 0
          · have h0 := (place_ok.1 hpf).2.2.2.2.1
            have h1 := (place_ok.1 hpf).2.2.2.2.2
            have E1 : Ch.placeFault ⟨p.level, p.side, p.depth⟩ 4 = 0 := hpf
            clear hpf
            (refine wp_region_ext (by kernel_rfl) (by kernel_rfl) ?_; (repeat (first | go_big_quiet_step ((first | (intro _; go_at_call 20; exact ext_callG (rplaceFault_f _ _ _ _ _) (by rintro w' ⟨o', n', rfl⟩; exact ⟨_, n', by (try simp only [plus_plus, Array.append_assoc]); rfl⟩)) | (intro _; go_at_call 46; exact ext_callG (ext_f _ _ _ _ h0 h1) (by rintro w' ⟨o', n', rfl⟩; exact ⟨_, n', by (try simp only [plus_plus, Array.append_assoc]); rfl⟩)) | (intro _; go_at_call 47; exact ext_callG (rext_f _ _ _ _ h0 h1) (by rintro w' ⟨o', n', rfl⟩; exact ⟨_, n', by (try simp only [plus_plus, Array.append_assoc]); rfl⟩)))) | quiet_step ((first | (intro _; go_at_call 20; exact ext_callG (rplaceFault_f _ _ _ _ _) (by rintro w' ⟨o', n', rfl⟩; exact ⟨_, n', by (try simp only [plus_plus, Array.append_assoc]); rfl⟩)) | (intro _; go_at_call 46; exact ext_callG (ext_f _ _ _ _ h0 h1) (by rintro w' ⟨o', n', rfl⟩; exact ⟨_, n', by (try simp only [plus_plus, Array.append_assoc]); rfl⟩)) | (intro _; go_at_call 47; exact ext_callG (rext_f _ _ _ _ h0 h1) (by rintro w' ⟨o', n', rfl⟩; exact ⟨_, n', by (try simp only [plus_plus, Array.append_assoc]); rfl⟩)))))); refine wpQuiet_nil ?_; intro _ hw'; obtain ⟨oq, nq, hw''⟩ := hw'; subst hw'')
            go_wp2
            go_ret
            exact ⟨by simp, HX.out.trans (by simp (maxDischargeDepth := 60))⟩
          · have E1 : Ch.placeFault ⟨p.level, p.side, p.depth⟩ 4 = 1 := place_bad hpf
            clear hpf
            (refine wp_region_ext (by kernel_rfl) (by kernel_rfl) ?_; (repeat (first | go_big_quiet_step ((intro _; go_at_call 20; exact ext_callG (rplaceFault_f _ _ _ _ _) (by rintro w' ⟨o', n', rfl⟩; exact ⟨_, n', by (try simp only [plus_plus, Array.append_assoc]); rfl⟩))) | quiet_step ((intro _; go_at_call 20; exact ext_callG (rplaceFault_f _ _ _ _ _) (by rintro w' ⟨o', n', rfl⟩; exact ⟨_, n', by (try simp only [plus_plus, Array.append_assoc]); rfl⟩))))); refine wpQuiet_nil ?_; intro _ hw'; obtain ⟨oq, nq, hw''⟩ := hw'; subst hw'')
            go_wp2
            go_ret
            exact ⟨by simp, HX.out.trans (by simp (maxDischargeDepth := 60))⟩

set_option maxRecDepth 100000 in
set_option maxHeartbeats 1000000 in
theorem towerSays_walk {a : Option Addr} {n cap : Nat} {l : List Ch.Size} {w : World} (h : Sl w 3 sizeCells l a n cap) (c : Ch.Car) (p : Ch.Place) (levels : Int) :
    Calls Try.prog 6 #[.slice a n cap, carA c, placeA p, vi levels] w fun e w' => e = .returned (.bool true) ∧ Ext w w' := by
  by_cases hn : n ≤ 10
  · exact towerSays_yes a n cap l c p levels w h hn
  · have hb := h.bound
    have h2 : 10 < n := by omega
    clear h hn
    go_enter Try.func6, Try.ntmps6
    go_wp2_with (go_at_call 29; (with_reducible refine (towers_any _).mono ?_); rintro e w1 ⟨rfl, o1, n1, rfl⟩)
    go_ret
    exact ⟨rfl, (by simp (maxDischargeDepth := 60))⟩
end Go.Proofs.Ytplomeacjbkgnaa
