/-
  The walk of TopFits.
-/
import Derived.Test.YtplomeacjbkgnabLevels
import Derived.Deep.DeepCutAuto
namespace Go.Proofs.Ytplomeacjbkgnab
open Go.RowKit

theorem fits_trans {a b c : Ch.Size} (h : Ch.fits a b = true) (h' : Ch.fits b c = true) : Ch.fits a c = true := by
  simp only [Ch.fits, Bool.and_eq_true, decide_eq_true_eq] at *
  omega

theorem fits_refl (a : Ch.Size) : Ch.fits a a = true := by simp [Ch.fits]

theorem fits_anti {a b : Ch.Size} (h : Ch.fits a b = true) (h' : Ch.fits b a = true) : a = b := by
  obtain ⟨a0, a1, a2⟩ := a
  obtain ⟨b0, b1, b2⟩ := b
  simp only [Ch.fits, Bool.and_eq_true, decide_eq_true_eq] at *
  simp only [Ch.Size.mk.injEq]
  omega

theorem levels_last {last : Ch.Size} : ∀ {l : List Ch.Size}, Ch.levelsFaultFrom last l = 0 → ∀ s ∈ l, Ch.fits s last = true
  | [], _, s, hs => by cases hs
  | x :: l, h, s, hs => by
    unfold Ch.levelsFaultFrom at h
    split at h
    · simp_all
    · split at h
      · simp at h
      · rename_i h1 h2
        rcases List.mem_cons.1 hs with rfl | hs
        · simpa using h2
        · exact levels_last h s hs

theorem neqSize (w : World) (a b c a' b' c' : Int) : (Go.binOp .neq 33 (.agg #[vi a, vi b, vi c]) (.agg #[vi a', vi b', vi c'])).run Try.prog w = .ok (.bool (!decide ((⟨a, b, c⟩ : Ch.Size) = ⟨a', b', c'⟩))) w :=
  neqStruct w (eqSize w 9998 ⟨a, b, c⟩ ⟨a', b', c'⟩)

set_option maxRecDepth 100000 in
set_option maxHeartbeats 4000000 in
theorem topFits_yes (x y z : Ch.Size) (a : Option Addr) (n cap : Nat) (l : List Ch.Size) (w : World) (h : Sl w 3 sizeCells l a n cap) (hn : n ≤ 10) :
    Calls Try.prog 4 #[sizeA x, sizeA y, sizeA z, .slice a n cap] w fun e w' => e = .returned (.bool true) ∧ Ext w w' := by
  have HF := Lib.hid h
  have hb := h.bound
  have F1 : Ch.fits ⟨1, 1, 1⟩ ⟨1, 2, 1⟩ = true := rfl
  clear h
  go_enter Try.func4, Try.ntmps4
  go_upto_region 5 with (go_at_call 17; (with_reducible refine (fits_f _ _ _ _ _ _ _).mono ?_); rintro e w1 ⟨rfl, o1, n1, rfl⟩)
  go_cut [51] (fun s wx => s = .bool false ∧ Ext (((w.alloc (.cells #[vi x.long, vi x.high, vi x.heavy] 33)).alloc (.cells #[vi y.long, vi y.high, vi y.heavy] 33)).alloc (.cells #[vi z.long, vi z.high, vi z.heavy] 33)) wx)
  case first =>
    have hq := neqSize
    have F2 : Ch.fits ⟨x.long, x.high, x.heavy⟩ ⟨x.long, x.high, x.heavy⟩ = true := fits_refl x
    go_wp2_with (go_at_call 17; (with_reducible refine (fits_f _ _ _ _ _ _ _).mono ?_); rintro e w1 ⟨rfl, o1, n1, rfl⟩)
    all_goals
      go_meet
      case rel =>
        refine ⟨?_, (by simp (maxDischargeDepth := 60))⟩
        go_light
        first
          | rfl
          | exact absurd (fits_trans (a := x) (b := y) (c := z) (by assumption) (by assumption)) (by assumption)
          | (have e := fits_anti (a := x) (b := y) (by assumption) (by assumption); subst e; simp)
  case rest =>
    obtain ⟨rfl, o, m, rfl⟩ := hcut
    generalize hW : World.alloc (World.alloc (World.alloc _ _) _) _ = w0
    have k0 : w0.cell? ⟨w.heap.size, 0, none⟩ = some (vi x.long) := by rw [← hW]; simp [go_sem]
    have k1 : w0.cell? ⟨w.heap.size, 1, none⟩ = some (vi x.high) := by rw [← hW]; simp [go_sem]
    have k2 : w0.cell? ⟨w.heap.size, 2, none⟩ = some (vi x.heavy) := by rw [← hW]; simp [go_sem]
    have hx : Ext w w0 := by rw [← hW]; exact (by simp (maxDischargeDepth := 60))
    have HS : Hid (Sl w0 3 sizeCells l a n cap) := by unfold Hid; exact Sl.below HF.out hx.below
    have HX := Lib.hid hx
    have z1 := cell_lt k0
    clear hW hx HF
    by_cases hl : Ch.levelsFault l = 0
    · have E1 : errV (Ch.levelsFault l) = .nilIface := by rw [hl]; rfl
      have hln : 1 ≤ n ∧ n ≤ 4 := by
        have := HS.out.len
        unfold Ch.levelsFault at hl
        split at hl
        · simp at hl
        · omega
      obtain ⟨hn1, hn4⟩ := hln
      obtain ⟨b, q, last, rfl, hlast, dl⟩ := HS.out.get (k := n - 1) (by omega)
      have dl := at3 dl
      have hp := cell_lt dl.1
      have HA : Hid (∀ s ∈ l, Ch.fits s last = true) := by
        unfold Hid
        have hL : l.getLastD default = last := by
          rw [List.getLastD_eq_getLast?, List.getLast?_eq_getElem?, HS.out.len, hlast]; rfl
        unfold Ch.levelsFault at hl
        rw [if_neg (by have := HS.out.len; omega), hL] at hl
        exact levels_last hl
      have i1 : ((n : Int) - 1).toNat = n - 1 := by omega
      have i2 : (0 : Int) ≤ (n : Int) - 1 := by omega
      have i3 : (n : Int) - 1 < n := by omega
      clear hlast hl
      go_wp2_with (go_at_call 18; (with_reducible refine (check_any _ _ _ l _ (Sl.below HS.out (Ext.below (by simp (maxDischargeDepth := 60))))).mono ?_); rintro e w1 ⟨rfl, o1, n1, rfl⟩)
      go_loopw [9] (fun i wr => ∃ k : Nat, k ≤ n ∧ i = .int .i64 k ∧ Ext w0 wr) (fun i _ => n - (intOf i).toNat)
      case atStart => exact ⟨0, by omega, rfl, (by simp (maxDischargeDepth := 60))⟩
      case round =>
        obtain ⟨k, hk, rfl, o', m', rfl⟩ := hrel
        by_cases hlt : k < n
        · obtain ⟨u, hu, du⟩ := HS.out.get' hlt
          have du := at3 du
          have hfl : Ch.fits u last = true := HA.out u (List.mem_of_getElem? hu)
          clear hu
          cases hf : Ch.fits x u
          · have F3 : Ch.fits ⟨x.long, x.high, x.heavy⟩ ⟨u.long, u.high, u.heavy⟩ = false := hf
            clear hf hfl
            go_wp2
            (refine wp_region_ext (by kernel_rfl) (by kernel_rfl) ?_; (repeat (first | go_big_quiet_step ((intro _; go_at_call 17; exact ext_callG (fits_f _ _ _ _ _ _ _) (by rintro w' ⟨o', n', rfl⟩; exact ⟨_, n', by (try simp only [plus_plus, Array.append_assoc]); rfl⟩))) | quiet_step ((intro _; go_at_call 17; exact ext_callG (fits_f _ _ _ _ _ _ _) (by rintro w' ⟨o', n', rfl⟩; exact ⟨_, n', by (try simp only [plus_plus, Array.append_assoc]); rfl⟩))))); refine wpQuiet_nil ?_; intro _ hw'; obtain ⟨oq, nq, hw''⟩ := hw'; subst hw'')
            go_wp2
            go_roundw
            case rel => exact ⟨k + 1, by omega, by go_num, (by simp (maxDischargeDepth := 60))⟩
            case measure => simp [intOf]; omega
          · have F3 : Ch.fits ⟨x.long, x.high, x.heavy⟩ ⟨u.long, u.high, u.heavy⟩ = true := hf
            have F4 : Ch.fits ⟨x.long, x.high, x.heavy⟩ ⟨last.long, last.high, last.heavy⟩ = true := fits_trans hf hfl
            clear hf hfl
            go_wp2
            (refine wp_region_ext (by kernel_rfl) (by kernel_rfl) ?_; (repeat (first | go_big_quiet_step ((intro _; go_at_call 17; exact ext_callG (fits_f _ _ _ _ _ _ _) (by rintro w' ⟨o', n', rfl⟩; exact ⟨_, n', by (try simp only [plus_plus, Array.append_assoc]); rfl⟩))) | quiet_step ((intro _; go_at_call 17; exact ext_callG (fits_f _ _ _ _ _ _ _) (by rintro w' ⟨o', n', rfl⟩; exact ⟨_, n', by (try simp only [plus_plus, Array.append_assoc]); rfl⟩))))); refine wpQuiet_nil ?_; intro _ hw'; obtain ⟨oq, nq, hw''⟩ := hw'; subst hw'')
            go_wp2
            go_roundw
            case rel => exact ⟨k + 1, by omega, by go_num, (by simp (maxDischargeDepth := 60))⟩
            case measure => simp [intOf]; omega
        · go_wp2
          go_ret
          exact ⟨rfl, HX.out.trans (by simp (maxDischargeDepth := 60))⟩
    · have E1 : errV (Ch.levelsFault l) = .iface 100 (vi (Ch.levelsFault l)) := errV_pos hl
      clear hl
      go_wp2_with (go_at_call 18; (with_reducible refine (check_any _ _ _ l _ (Sl.below HS.out (Ext.below (by simp (maxDischargeDepth := 60))))).mono ?_); rintro e w1 ⟨rfl, o1, n1, rfl⟩)
      go_ret
      exact ⟨rfl, HX.out.trans (by simp (maxDischargeDepth := 60))⟩

set_option maxRecDepth 100000 in
set_option maxHeartbeats 1000000 in
theorem topFits_walk (x y z : Ch.Size) {a : Option Addr} {n cap : Nat} {l : List Ch.Size} {w : World} (h : Sl w 3 sizeCells l a n cap) :
    Calls Try.prog 4 #[sizeA x, sizeA y, sizeA z, .slice a n cap] w fun e w' => e = .returned (.bool true) ∧ Ext w w' := by
  by_cases hn : n ≤ 10
  · exact topFits_yes x y z a n cap l w h hn
  · have hb := h.bound
    have h2 : 10 < n := by omega
    have F1 : Ch.fits ⟨1, 1, 1⟩ ⟨1, 2, 1⟩ = true := rfl
    clear h hn
    go_enter Try.func4, Try.ntmps4
    go_wp2_with (go_at_call 17; (with_reducible refine (fits_f _ _ _ _ _ _ _).mono ?_); rintro e w1 ⟨rfl, o1, n1, rfl⟩)
    go_ret
    exact ⟨rfl, (by simp (maxDischargeDepth := 60))⟩
end Go.Proofs.Ytplomeacjbkgnab
