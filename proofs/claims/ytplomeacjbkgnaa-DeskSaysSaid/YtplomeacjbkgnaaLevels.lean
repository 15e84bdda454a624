/-
  The walks of tower.CheckCar, tower.Check, and of the reference's CarFault, LevelsFault.
-/
import Derived.Test.YtplomeacjbkgnaaTower
namespace Go.Proofs.Ytplomeacjbkgnaa
open Go.RowKit

set_option maxRecDepth 100000 in
set_option maxHeartbeats 1000000 in
theorem checkCar_f (x a b c : Int) (w : World) : Calls Try.prog 33 #[.agg #[vi x, vi a, vi b, vi c]] w fun e w' => e = .returned (errV (Ch.carFault ⟨x, ⟨a, b, c⟩⟩)) ∧ Ext w w' := by
  go_enter Try.func33, Try.ntmps33
  go_wp2_with (go_at_call 31; (with_reducible refine (checkSize_f _ _ _ _).mono ?_); rintro e w1 ⟨rfl, o1, n1, rfl⟩)
  all_goals
    go_ret
    go_light
    refine ⟨?_, (by simp (maxDischargeDepth := 60))⟩
    simp only [Ch.carFault]
    first | (rw [if_pos (by omega)]; rfl) | (rw [if_neg (by omega)]; rfl) | (rw [if_neg (by omega)])

theorem checkCar_any (c : Ch.Car) (w : World) : Calls Try.prog 33 #[carA c] w fun e w' => e = .returned (errV (Ch.carFault c)) ∧ Ext w w' := checkCar_f _ _ _ _ w

set_option maxRecDepth 100000 in
set_option maxHeartbeats 1000000 in
theorem rcarFault_f (x a b c : Int) (w : World) : Calls Try.prog 34 #[.agg #[vi x, vi a, vi b, vi c]] w fun e w' => e = .returned (vi (Ch.carFault ⟨x, ⟨a, b, c⟩⟩)) ∧ Ext w w' := by
  go_enter Try.func34, Try.ntmps34
  go_wp2_with (go_at_call 32; (with_reducible refine (rsizeFault_f _ _ _ _).mono ?_); rintro e w1 ⟨rfl, o1, n1, rfl⟩)
  all_goals
    go_ret
    go_light
    refine ⟨?_, (by simp (maxDischargeDepth := 60))⟩
    simp only [Ch.carFault]
    first | (rw [if_pos (by omega)]; rfl) | (rw [if_neg (by omega)]; rfl) | (rw [if_neg (by omega)])

theorem rcarFault_any (c : Ch.Car) (w : World) : Calls Try.prog 34 #[carA c] w fun e w' => e = .returned (vi (Ch.carFault c)) ∧ Ext w w' := rcarFault_f _ _ _ _ w

theorem levels_step {last s : Ch.Size} {l : List Ch.Size} {k : Nat} (hs : l[k]? = some s) (h0 : Ch.sizeFault s = 0) (h1 : Ch.fits s last = true) : Ch.levelsFaultFrom last (l.drop k) = Ch.levelsFaultFrom last (l.drop (k + 1)) := by
  have hk : k < l.length := by
    by_cases h : k < l.length
    · exact h
    · rw [List.getElem?_eq_none (by omega)] at hs; cases hs
  rw [List.drop_eq_getElem_cons hk]
  rw [List.getElem?_eq_getElem hk] at hs
  cases hs
  simp [Ch.levelsFaultFrom, h0, h1]

theorem levels_size {last s : Ch.Size} {l : List Ch.Size} {k : Nat} (hs : l[k]? = some s) (h0 : Ch.sizeFault s = 1) : Ch.levelsFaultFrom last (l.drop k) = 1 := by
  have hk : k < l.length := by
    by_cases h : k < l.length
    · exact h
    · rw [List.getElem?_eq_none (by omega)] at hs; cases hs
  rw [List.drop_eq_getElem_cons hk]
  rw [List.getElem?_eq_getElem hk] at hs
  cases hs
  simp [Ch.levelsFaultFrom, h0]

theorem levels_fits {last s : Ch.Size} {l : List Ch.Size} {k : Nat} (hs : l[k]? = some s) (h0 : Ch.sizeFault s = 0) (h1 : Ch.fits s last = false) : Ch.levelsFaultFrom last (l.drop k) = 3 := by
  have hk : k < l.length := by
    by_cases h : k < l.length
    · exact h
    · rw [List.getElem?_eq_none (by omega)] at hs; cases hs
  rw [List.drop_eq_getElem_cons hk]
  rw [List.getElem?_eq_getElem hk] at hs
  cases hs
  simp [Ch.levelsFaultFrom, h0, h1]

theorem size_bad {s : Ch.Size} (h : ¬ Ch.sizeFault s = 0) : Ch.sizeFault s = 1 := by
  unfold Ch.sizeFault at *
  split <;> simp_all

set_option maxRecDepth 100000 in
set_option maxHeartbeats 2000000 in
theorem check_any (a : Option Addr) (n cap : Nat) (l : List Ch.Size) (w : World) (h : Sl w 3 sizeCells l a n cap) : Calls Try.prog 35 #[.slice a n cap] w fun e w' => e = .returned (errV (Ch.levelsFault l)) ∧ Ext w w' := by
  have b1 := h.bound
  have e1 := h.len
  by_cases hn : 1 ≤ n ∧ n ≤ 4
  · obtain ⟨hn1, hn2⟩ := hn
    have HF := Lib.hid h
    have HL : Hid (Ch.levelsFault l = Ch.levelsFaultFrom (l.getLastD default) l) := by unfold Hid Ch.levelsFault; rw [if_neg (by omega)]
    have E1 := Lib.hid e1
    clear h e1
    obtain ⟨p, o0, x0, rfl, _, d0⟩ := HF.out.get (k := n - 1) (by omega)
    have q0 := cell_lt (at3 d0).1
    clear d0
    obtain ⟨last, hlast, dl⟩ := HF.out.get' (k := n - 1) (by omega)
    have HLast : Hid (l.getLastD default = last) := by
      unfold Hid
      rw [List.getLastD_eq_getLast?, List.getLast?_eq_getElem?, E1.out, hlast]; rfl
    have dl := at3 dl
    have i1 : ((n : Int) - 1).toNat = n - 1 := by omega
    have i2 : (0 : Int) ≤ (n : Int) - 1 := by omega
    have i3 : (n : Int) - 1 < n := by omega
    clear hlast
    go_enter Try.func35, Try.ntmps35
    go_wp2
    go_loopw [17] (fun i wr => ∃ k : Nat, k ≤ n ∧ i = .int .i64 k ∧ Hid (Ch.levelsFaultFrom last l = Ch.levelsFaultFrom last (l.drop k)) ∧ Ext w wr) (fun i _ => n - (intOf i).toNat)
    case atStart => exact ⟨0, by omega, rfl, by simp [Hid], (by simp (maxDischargeDepth := 60))⟩
    case round =>
      obtain ⟨k, hk, rfl, HT, o, m, rfl⟩ := hrel
      by_cases hlt : k < n
      · obtain ⟨s, hs, ds⟩ := HF.out.get' hlt
        have ds := at3 ds
        have HS := Lib.hid hs
        clear hs
        by_cases h0 : Ch.sizeFault s = 0
        · have H0 := Lib.hid h0
          have he : errV (Ch.sizeFault ⟨s.long, s.high, s.heavy⟩) = .nilIface := by show errV (Ch.sizeFault s) = _; rw [h0]; rfl
          clear h0
          cases h1 : Ch.fits s last
          · have H1 := Lib.hid h1
            have hf : Ch.fits ⟨s.long, s.high, s.heavy⟩ ⟨last.long, last.high, last.heavy⟩ = false := h1
            clear h1
            go_wp2_with (go_at_call 31; (with_reducible refine (checkSize_f _ _ _ _).mono ?_); rintro e w1 ⟨rfl, o1, n1, rfl⟩)
            (refine wp_region_ext (by kernel_rfl) (by kernel_rfl) ?_; (repeat (first | go_big_quiet_step ((intro _; go_at_call 38; exact ext_callG (fits_f _ _ _ _ _ _ _) (by rintro w' ⟨o', n', rfl⟩; exact ⟨_, n', by first | (simp only [plus_plus]; rfl) | (simp only [plus_plus, Array.append_assoc]; rfl) | rfl⟩))) | quiet_step ((intro _; go_at_call 38; exact ext_callG (fits_f _ _ _ _ _ _ _) (by rintro w' ⟨o', n', rfl⟩; exact ⟨_, n', by first | (simp only [plus_plus]; rfl) | (simp only [plus_plus, Array.append_assoc]; rfl) | rfl⟩))))); refine wpQuiet_nil ?_; intro _ hw'; obtain ⟨oq, nq, hw''⟩ := hw'; subst hw'')
            go_wp2
            go_ret
            refine ⟨?_, (by simp (maxDischargeDepth := 60))⟩
            rw [HL.out, HLast.out, HT.out, levels_fits HS.out H0.out H1.out]; rfl
          · have H1 := Lib.hid h1
            have hf : Ch.fits ⟨s.long, s.high, s.heavy⟩ ⟨last.long, last.high, last.heavy⟩ = true := h1
            clear h1
            go_wp2_with (go_at_call 31; (with_reducible refine (checkSize_f _ _ _ _).mono ?_); rintro e w1 ⟨rfl, o1, n1, rfl⟩)
            (refine wp_region_ext (by kernel_rfl) (by kernel_rfl) ?_; (repeat (first | go_big_quiet_step ((intro _; go_at_call 38; exact ext_callG (fits_f _ _ _ _ _ _ _) (by rintro w' ⟨o', n', rfl⟩; exact ⟨_, n', by first | (simp only [plus_plus]; rfl) | (simp only [plus_plus, Array.append_assoc]; rfl) | rfl⟩))) | quiet_step ((intro _; go_at_call 38; exact ext_callG (fits_f _ _ _ _ _ _ _) (by rintro w' ⟨o', n', rfl⟩; exact ⟨_, n', by first | (simp only [plus_plus]; rfl) | (simp only [plus_plus, Array.append_assoc]; rfl) | rfl⟩))))); refine wpQuiet_nil ?_; intro _ hw'; obtain ⟨oq, nq, hw''⟩ := hw'; subst hw'')
            go_wp2
            go_roundw
            case rel => exact ⟨k + 1, by omega, by go_num, by unfold Hid; rw [HT.out, levels_step HS.out H0.out H1.out], (by simp (maxDischargeDepth := 60))⟩
            case measure => simp [intOf]; omega
        · have H0 := Lib.hid (size_bad h0)
          have he : errV (Ch.sizeFault ⟨s.long, s.high, s.heavy⟩) = .iface 133 (vi 1) := by show errV (Ch.sizeFault s) = _; rw [size_bad h0]; rfl
          clear h0
          go_wp2_with (go_at_call 31; (with_reducible refine (checkSize_f _ _ _ _).mono ?_); rintro e w1 ⟨rfl, o1, n1, rfl⟩)
          go_ret
          refine ⟨?_, (by simp (maxDischargeDepth := 60))⟩
          rw [HL.out, HLast.out, HT.out, levels_size HS.out H0.out]; rfl
      · go_wp2
        go_ret
        refine ⟨?_, (by simp (maxDischargeDepth := 60))⟩
        rw [HL.out, HLast.out, HT.out, List.drop_of_length_le (by have := E1.out; omega)]; rfl
  · have hl : Ch.levelsFault l = 2 := by unfold Ch.levelsFault; rw [if_pos (by omega)]
    have HL := Lib.hid hl
    have h2 : n < 1 ∨ 4 < n := by omega
    clear h e1 hn hl
    rcases h2 with h2 | h2 <;>
    · go_enter Try.func35, Try.ntmps35
      go_wp2
      go_ret
      refine ⟨?_, (by simp (maxDischargeDepth := 60))⟩
      rw [HL.out]; rfl

set_option maxRecDepth 100000 in
set_option maxHeartbeats 2000000 in
theorem rlevels_any (a : Option Addr) (n cap : Nat) (l : List Ch.Size) (w : World) (h : Sl w 3 sizeCells l a n cap) : Calls Try.prog 36 #[.slice a n cap] w fun e w' => e = .returned (vi (Ch.levelsFault l)) ∧ Ext w w' := by
  have b1 := h.bound
  have e1 := h.len
  by_cases hn : 1 ≤ n ∧ n ≤ 4
  · obtain ⟨hn1, hn2⟩ := hn
    have HF := Lib.hid h
    have HL : Hid (Ch.levelsFault l = Ch.levelsFaultFrom (l.getLastD default) l) := by unfold Hid Ch.levelsFault; rw [if_neg (by omega)]
    have E1 := Lib.hid e1
    clear h e1
    obtain ⟨p, o0, x0, rfl, _, d0⟩ := HF.out.get (k := n - 1) (by omega)
    have q0 := cell_lt (at3 d0).1
    clear d0
    obtain ⟨last, hlast, dl⟩ := HF.out.get' (k := n - 1) (by omega)
    have HLast : Hid (l.getLastD default = last) := by
      unfold Hid
      rw [List.getLastD_eq_getLast?, List.getLast?_eq_getElem?, E1.out, hlast]; rfl
    have dl := at3 dl
    have i1 : ((n : Int) - 1).toNat = n - 1 := by omega
    have i2 : (0 : Int) ≤ (n : Int) - 1 := by omega
    have i3 : (n : Int) - 1 < n := by omega
    clear hlast
    go_enter Try.func36, Try.ntmps36
    go_wp2
    go_loopw [3] (fun i wr => ∃ k : Nat, k ≤ n ∧ i = .int .i64 k ∧ Hid (Ch.levelsFaultFrom last l = Ch.levelsFaultFrom last (l.drop k)) ∧ Ext w wr) (fun i _ => n - (intOf i).toNat)
    case atStart => exact ⟨0, by omega, rfl, by simp [Hid], (by simp (maxDischargeDepth := 60))⟩
    case round =>
      obtain ⟨k, hk, rfl, HT, o, m, rfl⟩ := hrel
      by_cases hlt : k < n
      · obtain ⟨s, hs, ds⟩ := HF.out.get' hlt
        have ds := at3 ds
        have HS := Lib.hid hs
        clear hs
        by_cases h0 : Ch.sizeFault s = 0
        · have H0 := Lib.hid h0
          have he : Ch.sizeFault ⟨s.long, s.high, s.heavy⟩ = 0 := h0
          clear h0
          cases h1 : Ch.fits s last
          · have H1 := Lib.hid h1
            have hf : Ch.fits ⟨s.long, s.high, s.heavy⟩ ⟨last.long, last.high, last.heavy⟩ = false := h1
            clear h1
            go_wp2_with (go_at_call 32; (with_reducible refine (rsizeFault_f _ _ _ _).mono ?_); rintro e w1 ⟨rfl, o1, n1, rfl⟩)
            (refine wp_region_ext (by kernel_rfl) (by kernel_rfl) ?_; (repeat (first | go_big_quiet_step ((intro _; go_at_call 39; exact ext_callG (rfits_f _ _ _ _ _ _ _) (by rintro w' ⟨o', n', rfl⟩; exact ⟨_, n', by first | (simp only [plus_plus]; rfl) | (simp only [plus_plus, Array.append_assoc]; rfl) | rfl⟩))) | quiet_step ((intro _; go_at_call 39; exact ext_callG (rfits_f _ _ _ _ _ _ _) (by rintro w' ⟨o', n', rfl⟩; exact ⟨_, n', by first | (simp only [plus_plus]; rfl) | (simp only [plus_plus, Array.append_assoc]; rfl) | rfl⟩))))); refine wpQuiet_nil ?_; intro _ hw'; obtain ⟨oq, nq, hw''⟩ := hw'; subst hw'')
            go_wp2
            go_ret
            refine ⟨?_, (by simp (maxDischargeDepth := 60))⟩
            rw [HL.out, HLast.out, HT.out, levels_fits HS.out H0.out H1.out]; rfl
          · have H1 := Lib.hid h1
            have hf : Ch.fits ⟨s.long, s.high, s.heavy⟩ ⟨last.long, last.high, last.heavy⟩ = true := h1
            clear h1
            go_wp2_with (go_at_call 32; (with_reducible refine (rsizeFault_f _ _ _ _).mono ?_); rintro e w1 ⟨rfl, o1, n1, rfl⟩)
            (refine wp_region_ext (by kernel_rfl) (by kernel_rfl) ?_; (repeat (first | go_big_quiet_step ((intro _; go_at_call 39; exact ext_callG (rfits_f _ _ _ _ _ _ _) (by rintro w' ⟨o', n', rfl⟩; exact ⟨_, n', by first | (simp only [plus_plus]; rfl) | (simp only [plus_plus, Array.append_assoc]; rfl) | rfl⟩))) | quiet_step ((intro _; go_at_call 39; exact ext_callG (rfits_f _ _ _ _ _ _ _) (by rintro w' ⟨o', n', rfl⟩; exact ⟨_, n', by first | (simp only [plus_plus]; rfl) | (simp only [plus_plus, Array.append_assoc]; rfl) | rfl⟩))))); refine wpQuiet_nil ?_; intro _ hw'; obtain ⟨oq, nq, hw''⟩ := hw'; subst hw'')
            go_wp2
            go_roundw
            case rel => exact ⟨k + 1, by omega, by go_num, by unfold Hid; rw [HT.out, levels_step HS.out H0.out H1.out], (by simp (maxDischargeDepth := 60))⟩
            case measure => simp [intOf]; omega
        · have H0 := Lib.hid (size_bad h0)
          have he : Ch.sizeFault ⟨s.long, s.high, s.heavy⟩ = 1 := size_bad h0
          clear h0
          go_wp2_with (go_at_call 32; (with_reducible refine (rsizeFault_f _ _ _ _).mono ?_); rintro e w1 ⟨rfl, o1, n1, rfl⟩)
          go_ret
          refine ⟨?_, (by simp (maxDischargeDepth := 60))⟩
          rw [HL.out, HLast.out, HT.out, levels_size HS.out H0.out]; rfl
      · go_wp2
        go_ret
        refine ⟨?_, (by simp (maxDischargeDepth := 60))⟩
        rw [HL.out, HLast.out, HT.out, List.drop_of_length_le (by have := E1.out; omega)]; rfl
  · have hl : Ch.levelsFault l = 2 := by unfold Ch.levelsFault; rw [if_pos (by omega)]
    have HL := Lib.hid hl
    have h2 : n < 1 ∨ 4 < n := by omega
    clear h e1 hn hl
    rcases h2 with h2 | h2 <;>
    · go_enter Try.func36, Try.ntmps36
      go_wp2
      go_ret
      refine ⟨?_, (by simp (maxDischargeDepth := 60))⟩
      rw [HL.out]; rfl
end Go.Proofs.Ytplomeacjbkgnaa
