/-
  The walk of TopText.
-/
import Derived.Test.YtplomeacjbkgnacDoorParse
import Derived.Test.YtplomeacjbkgnacDoorSameBook
namespace Go.Proofs.YtplomeacjbkgnacDoor
open Go.RowKit

theorem text_at (T : ByteArray) (last : Int) (a1 : Option Addr) (m1 c1 : Nat) (a2 : Option Addr) (m2 c2 : Nat) (l : List Ch.Stay) (js : List Ch.Job) (w : World)
    (h : Sl w 8 stayCells l a1 m1 c1) (h2 : Sl w 2 jobCells js a2 m2 c2) (ht : Tab w) (hr : ∀ k ∈ Ch.bookNums ⟨last, l, js⟩, 0 ≤ k ∧ k ≤ 999999) (hT : Hid (textS ⟨last, l, js⟩ = T)) :
    Calls Tryd.prog 5 #[bookA last a1 m1 c1 a2 m2 c2] w fun e w' => e = .returned (.string T) ∧ Ext w w' := by
  have := text_any last a1 m1 c1 a2 m2 c2 l js w h h2 ht hr
  rw [hT.out] at this
  exact this

theorem text3 : textS ⟨3, [], []⟩ = ⟨#[51, 32, 48, 32, 48]⟩ := by
  apply ba_ext
  rw [textS_list]
  have h3 : Lib.itoa 3 = [51] := by unfold Lib.itoa; rw [if_neg (by decide), show (3 : Int).toNat = 3 from rfl, Lib.decDigits_one (by decide)]; rfl
  have h0 : Lib.itoa 0 = [48] := by unfold Lib.itoa; rw [if_neg (by decide), show (0 : Int).toNat = 0 from rfl, Lib.decDigits_one (by decide)]; rfl
  show Ch.joinWords [Lib.itoa 3, Lib.itoa 0, Lib.itoa 0] = _
  rw [h3, h0]; rfl

/-- a text that is a book's is read as it -/
theorem parse_at (T : ByteArray) (levels last : Int) (l : List Ch.Stay) (js : List Ch.Job) (m1 m2 : Nat) (w : World) (hs : T.size ≤ 10000) (L : Libs w) (hl4 : levels ≤ 4) (e1 : l.length = m1) (e2 : js.length = m2) (hp : Ch.parseBook T.data.toList levels = some ⟨last, l, js⟩) :
    Calls Tryd.prog 8 #[.string T, vi levels] w fun e w' => ∃ y1 d1 y2 d2, e = .returned (.tuple #[bookA last y1 m1 d1 y2 m2 d2, .nilIface]) ∧ Sl w' 8 stayCells l y1 m1 d1 ∧ Sl w' 2 jobCells js y2 m2 d2 ∧ Ext w w' := by
  have := parse_any T levels w hs L hl4
  rw [hp] at this
  refine this.mono ?_
  rintro e w' ⟨v1, v2, rfl, o1, o2, _, hx⟩
  obtain ⟨y1, d1, rfl, s1⟩ := Sl.of_owns (c := 8) (enc := stayCells) o1 (by decide) (fun _ => rfl)
  obtain ⟨y2, d2, rfl, s2⟩ := Sl.of_owns (c := 2) (enc := jobCells) o2 (by decide) (fun _ => rfl)
  subst e1 e2
  exact ⟨y1, d1, y2, d2, rfl, s1, s2, hx⟩

set_option maxRecDepth 100000 in
set_option maxHeartbeats 4000000 in
theorem topText_walk (last levels : Int) (a1 : Option Addr) (m1 c1 : Nat) (a2 : Option Addr) (m2 c2 : Nat) (l : List Ch.Stay) (js : List Ch.Job) (w : World)
    (h : Sl w 8 stayCells l a1 m1 c1) (h2 : Sl w 2 jobCells js a2 m2 c2) (L : Libs w) :
    Calls Tryd.prog 3 #[bookA last a1 m1 c1 a2 m2 c2, vi levels] w fun e w' => e = .returned (.bool true) ∧ Ext w w' := by
  have b1 := h.bound
  have b2 := h2.bound
  have HF := Lib.hid h
  have HJ := Lib.hid h2
  have E1 := Lib.hid h.len
  have E2 := Lib.hid h2.len
  have H3 : Hid (textS ⟨3, [], []⟩ = ⟨#[51, 32, 48, 32, 48]⟩) := text3
  have hr3 : Hid (∀ k ∈ Ch.bookNums ⟨3, [], []⟩, 0 ≤ k ∧ k ≤ 999999) := by unfold Hid; decide
  clear h h2
  go_enter Tryd.func3, Tryd.ntmps3
  go_upto_region 1 with fail
  generalize hW : World.alloc _ _ = w0
  have k0 : w0.cell? ⟨w.heap.size, 0, none⟩ = some (vi last) := by rw [← hW]; simp [go_sem]
  have k1 : w0.cell? ⟨w.heap.size, 1, none⟩ = some (.slice a1 m1 c1) := by rw [← hW]; simp [go_sem]
  have k2 : w0.cell? ⟨w.heap.size, 2, none⟩ = some (.slice a2 m2 c2) := by rw [← hW]; simp [go_sem]
  have hx : Ext w w0 := by rw [← hW]; exact (by simp (maxDischargeDepth := 60))
  have HX := Lib.hid hx
  have HL := Lib.hid (L.ext hx)
  have HS := Lib.hid (Sl.below HF.out hx.below)
  have HK := Lib.hid (Sl.below HJ.out hx.below)
  have z1 := cell_lt k0
  clear hW hx L HF HJ
  cases hb : decide (m1 ≤ 20 ∧ m2 ≤ 12)
  · have HB := Lib.hid hb
    clear hb
    go_wp2_with (first | (go_at_call 5; (with_reducible refine (text_at _ 3 none 0 0 none 0 0 [] [] _ (Sl.nil _ _ _) (Sl.nil _ _ _) (HL.out.tab.ext (by simp (maxDischargeDepth := 60))) hr3.out H3).mono ?_); rintro e w1 ⟨rfl, o1, n1, rfl⟩) | (go_at_call 6; (with_reducible refine (lightBook_any false _ _ _ _ _ _ _ _ HB).mono ?_); rintro e w1 ⟨rfl, o1, n1, rfl⟩))
    go_ret
    exact ⟨rfl, HX.out.trans (by simp (maxDischargeDepth := 60))⟩
  have HB := Lib.hid hb
  clear hb
  by_cases h1 : levels < 1
  · go_wp2_with (first | (go_at_call 5; (with_reducible refine (text_at _ 3 none 0 0 none 0 0 [] [] _ (Sl.nil _ _ _) (Sl.nil _ _ _) (HL.out.tab.ext (by simp (maxDischargeDepth := 60))) hr3.out H3).mono ?_); rintro e w1 ⟨rfl, o1, n1, rfl⟩) | (go_at_call 6; (with_reducible refine (lightBook_any true _ _ _ _ _ _ _ _ HB).mono ?_); rintro e w1 ⟨rfl, o1, n1, rfl⟩))
    go_ret
    exact ⟨rfl, HX.out.trans (by simp (maxDischargeDepth := 60))⟩
  by_cases h4 : 4 < levels
  · go_wp2_with (first | (go_at_call 5; (with_reducible refine (text_at _ 3 none 0 0 none 0 0 [] [] _ (Sl.nil _ _ _) (Sl.nil _ _ _) (HL.out.tab.ext (by simp (maxDischargeDepth := 60))) hr3.out H3).mono ?_); rintro e w1 ⟨rfl, o1, n1, rfl⟩) | (go_at_call 6; (with_reducible refine (lightBook_any true _ _ _ _ _ _ _ _ HB).mono ?_); rintro e w1 ⟨rfl, o1, n1, rfl⟩))
    go_ret
    exact ⟨rfl, HX.out.trans (by simp (maxDischargeDepth := 60))⟩
  have hl4 : levels ≤ 4 := by omega
  by_cases hbf : Ch.bookFault ⟨last, l, js⟩ levels = 0
  · have HV : Hid (errV (Ch.bookFault ⟨last, l, js⟩ levels) = .nilIface) := by unfold Hid; rw [hbf]; rfl
    have HRN := Lib.hid (Ch.book_range (Ch.bookFault_iff.1 hbf) hl4)
    obtain ⟨T, HT⟩ : ∃ T, Hid (textS ⟨last, l, js⟩ = T) := ⟨_, rfl⟩
    have HTL : Hid (T.data.toList = Ch.bookText ⟨last, l, js⟩) := by unfold Hid; rw [← HT.out, textS_list]
    have hsz := Ch.text_len hbf hl4
    rw [← HTL.out, Array.length_toList] at hsz
    have hsz : T.size ≤ 640 := hsz
    have hszi : (T.size : Int) ≤ 640 := by omega
    have HPT : Hid (Ch.parseBook T.data.toList levels = some ⟨last, l, js⟩) := by unfold Hid; rw [HTL.out]; exact Ch.parse_text hbf hl4
    clear hbf
    go_upto_region 6 with (first
      | (go_at_call 5; (with_reducible refine (text_at _ 3 none 0 0 none 0 0 [] [] _ (Sl.nil _ _ _) (Sl.nil _ _ _) (HL.out.tab.ext (by simp (maxDischargeDepth := 60))) hr3.out H3).mono ?_); rintro e w1 ⟨rfl, o1, n1, rfl⟩)
      | (go_at_call 6; (with_reducible refine (lightBook_any true _ _ _ _ _ _ _ _ HB).mono ?_); rintro e w1 ⟨rfl, o1, n1, rfl⟩)
      | (go_at_call 7; (with_reducible refine (bookcheck_at .nilIface last levels a1 m1 c1 a2 m2 c2 l js _ (Sl.below HS.out (Ext.below (by simp (maxDischargeDepth := 60)))) (Sl.below HK.out (Ext.below (by simp (maxDischargeDepth := 60)))) hl4 HV).mono ?_); rintro e w1 ⟨rfl, o1, n1, rfl⟩)
      | (go_at_call 5; (with_reducible refine (text_at T last a1 m1 c1 a2 m2 c2 l js _ (Sl.below HS.out (Ext.below (by simp (maxDischargeDepth := 60)))) (Sl.below HK.out (Ext.below (by simp (maxDischargeDepth := 60)))) (HL.out.tab.ext (by simp (maxDischargeDepth := 60))) HRN.out HT).mono ?_); rintro e w1 ⟨rfl, o1, n1, rfl⟩))
    go_upto_region 7 with (first | (go_at_call 8; (with_reducible refine (parse_at T levels last l js m1 m2 _ (by omega) (HL.out.ext (by simp (maxDischargeDepth := 60))) hl4 E1.out E2.out HPT.out).mono ?_); rintro e w1 ⟨y1, d1, y2, d2, rfl, s1, s2, o1, n1, rfl⟩))
    generalize hW : World.alloc _ _ = w2
    generalize hA : w0.heap.size + _ = A
    have hxp : Ext w0 w2 := by rw [← hW]; exact (by simp (maxDischargeDepth := 60))
    have t0 : w2.cell? ⟨A, 0, none⟩ = some (vi last) := by rw [← hW, ← hA]; simp [go_sem]
    have t1 : w2.cell? ⟨A, 1, none⟩ = some (.slice y1 m1 d1) := by rw [← hW, ← hA]; simp [go_sem]
    have t2 : w2.cell? ⟨A, 2, none⟩ = some (.slice y2 m2 d2) := by rw [← hW, ← hA]; simp [go_sem]
    have S1 : Hid (Sl w2 8 stayCells l y1 m1 d1) := by show Sl w2 _ _ _ _ _ _; rw [← hW]; exact Sl.below s1 (Ext.below (by simp (maxDischargeDepth := 60)))
    have S2 : Hid (Sl w2 2 jobCells js y2 m2 d2) := by show Sl w2 _ _ _ _ _ _; rw [← hW]; exact Sl.below s2 (Ext.below (by simp (maxDischargeDepth := 60)))
    have g0 := ext_cell hxp k0
    have g1 := ext_cell hxp k1
    have g2 := ext_cell hxp k2
    have zt := cell_lt t0
    have zg := cell_lt g0
    have HXP := Lib.hid hxp
    have HS2 := Lib.hid (Sl.below HS.out hxp.below)
    have HK2 := Lib.hid (Sl.below HK.out hxp.below)
    clear hW hA hxp s1 s2 k0 k1 k2 z1
    go_wp2_with (first | (go_at_call 9; (with_reducible refine (sameBook_yes last y1 m1 d1 y2 m2 d2 a1 c1 a2 c2 l js _ (Sl.below S1.out (Ext.below (by simp (maxDischargeDepth := 60)))) (Sl.below S2.out (Ext.below (by simp (maxDischargeDepth := 60)))) (Sl.below HS2.out (Ext.below (by simp (maxDischargeDepth := 60)))) (Sl.below HK2.out (Ext.below (by simp (maxDischargeDepth := 60))))).mono ?_); rintro e w1 ⟨rfl, o1, n1, rfl⟩))
    go_ret
    exact ⟨rfl, (HX.out.trans HXP.out).trans (by simp (maxDischargeDepth := 60))⟩
  · obtain ⟨E, HV⟩ := errV_ne hbf
    clear hbf
    go_wp2_with (first
      | (go_at_call 5; (with_reducible refine (text_at _ 3 none 0 0 none 0 0 [] [] _ (Sl.nil _ _ _) (Sl.nil _ _ _) (HL.out.tab.ext (by simp (maxDischargeDepth := 60))) hr3.out H3).mono ?_); rintro e w1 ⟨rfl, o1, n1, rfl⟩)
      | (go_at_call 6; (with_reducible refine (lightBook_any true _ _ _ _ _ _ _ _ HB).mono ?_); rintro e w1 ⟨rfl, o1, n1, rfl⟩)
      | (go_at_call 7; (with_reducible refine (bookcheck_at (.iface 63 (vi E)) last levels a1 m1 c1 a2 m2 c2 l js _ (Sl.below HS.out (Ext.below (by simp (maxDischargeDepth := 60)))) (Sl.below HK.out (Ext.below (by simp (maxDischargeDepth := 60)))) hl4 HV).mono ?_); rintro e w1 ⟨rfl, o1, n1, rfl⟩))
    go_ret
    exact ⟨rfl, HX.out.trans (by simp (maxDischargeDepth := 60))⟩
end Go.Proofs.YtplomeacjbkgnacDoor
