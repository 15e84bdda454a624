/-
  The walk of BookSays.
-/
import Derived.Test.YtplomeacjbkgnaaDoorRParse
import Derived.Test.YtplomeacjbkgnaaDoorRText
import Derived.Test.YtplomeacjbkgnaaDoorSameBook
import Derived.Test.YtplomeacjbkgnaaDoorLightBook
import Derived.Test.YtplomeacjbkgnaaDoorCopy
import Derived.Test.YtplomeacjbkgnaaDoorPark
import Derived.Test.YtplomeacjbkgnaaDoorErr
namespace Go.Proofs.YtplomeacjbkgnaaDoor
open Go.RowKit

/-! ### plain: the first of a list, from behind -/

theorem indexOf_consB {α : Type} (p : α → Bool) (x : α) (r : List α) : Ch.indexOf p (x :: r) = if p x = true then 0 else if Ch.indexOf p r < 0 then -1 else Ch.indexOf p r + 1 := by
  unfold Ch.indexOf
  rw [List.findIdx?_cons]
  by_cases h : p x = true
  · rw [if_pos h, if_pos h]; rfl
  · rw [if_neg h, if_neg h]
    cases r.findIdx? p with
    | none => rfl
    | some i => simp; omega

/-- the first at or behind a place -/
def scanAt {α : Type} (p : α → Bool) (l : List α) (j : Nat) : Int := if Ch.indexOf p (l.drop j) < 0 then -1 else j + Ch.indexOf p (l.drop j)

theorem scan_end {α : Type} (p : α → Bool) (l : List α) : scanAt p l l.length = -1 := by
  unfold scanAt; rw [List.drop_length]; rfl

theorem scan_step {α : Type} (p : α → Bool) {l : List α} {j : Nat} {x : α} (h : l[j]? = some x) : scanAt p l j = if p x = true then (j : Int) else scanAt p l (j + 1) := by
  obtain ⟨hj, e⟩ := List.getElem?_eq_some_iff.1 h
  unfold scanAt
  rw [List.drop_eq_getElem_cons hj, e, indexOf_consB]
  by_cases hp : p x = true
  · rw [if_pos hp, if_pos hp]; simp
  · rw [if_neg hp, if_neg hp]
    by_cases hi : Ch.indexOf p (l.drop (j + 1)) < 0
    · simp [hi]
    · simp only [hi, if_false]
      rw [if_neg (by omega)]
      omega

theorem scan_zero {α : Type} (p : α → Bool) (l : List α) : scanAt p l 0 = Ch.indexOf p l := by
  unfold scanAt
  rw [List.drop_zero]
  split
  · rename_i h
    unfold Ch.indexOf at h ⊢
    split at h
    · rfl
    · omega
  · simp

/-! ### the calls, at what they answer -/

theorem text_atB (T : ByteArray) (last : Int) (a1 : Option Addr) (m1 c1 : Nat) (a2 : Option Addr) (m2 c2 : Nat) (l : List Ch.Stay) (js : List Ch.Job) (w : World)
    (h : Sl w 8 stayCells l a1 m1 c1) (h2 : Sl w 2 jobCells js a2 m2 c2) (ht : Tab w) (hr : ∀ k ∈ Ch.bookNums ⟨last, l, js⟩, 0 ≤ k ∧ k ≤ 999999) (hT : Hid (textS ⟨last, l, js⟩ = T)) :
    Calls Tryd.prog 15 #[bookA last a1 m1 c1 a2 m2 c2] w fun e w' => e = .returned (.string T) ∧ Ext w w' := by
  have := text_any last a1 m1 c1 a2 m2 c2 l js w h h2 ht hr
  rw [hT.out] at this
  exact this

theorem rtext_atB (T : ByteArray) (last : Int) (a1 : Option Addr) (m1 c1 : Nat) (a2 : Option Addr) (m2 c2 : Nat) (l : List Ch.Stay) (js : List Ch.Job) (w : World)
    (h : Sl w 8 stayCells l a1 m1 c1) (h2 : Sl w 2 jobCells js a2 m2 c2) (hr : ∀ k ∈ Ch.bookNums ⟨last, l, js⟩, 0 ≤ k ∧ k ≤ 999999) (hT : Hid (textS ⟨last, l, js⟩ = T)) :
    Calls Tryd.prog 16 #[bookA last a1 m1 c1 a2 m2 c2] w fun e w' => e = .returned (.string T) ∧ Ext w w' := by
  have := rtext_any last a1 m1 c1 a2 m2 c2 l js w h h2 hr
  rw [hT.out] at this
  exact this

theorem parse_atB (lx re : Int) (ll : List Ch.Stay) (lj : List Ch.Job) (s : ByteArray) (levels : Int) (w : World) (hs : Hid (s.size ≤ 10000)) (L : Libs w) (hl4 : levels ≤ 4) (hp : Hid (parseV (Ch.parseBook s.data.toList levels) = (⟨lx, ll, lj⟩, re))) :
    Calls Tryd.prog 12 #[.string s, vi levels] w fun e w' => ∃ y1 d1 y2 d2, e = .returned (.tuple #[bookA lx y1 ll.length d1 y2 lj.length d2, errV re]) ∧ Sl w' 8 stayCells ll y1 ll.length d1 ∧ Sl w' 2 jobCells lj y2 lj.length d2 ∧ Ext w w' := by
  have := parse_any s levels w hs.out L hl4
  rw [hp.out] at this
  refine this.mono ?_
  rintro e w' ⟨v1, v2, rfl, o1, o2, _, hx⟩
  obtain ⟨y1, d1, rfl, s1⟩ := Sl.of_owns (c := 8) (enc := stayCells) o1 (by decide) (fun _ => rfl)
  obtain ⟨y2, d2, rfl, s2⟩ := Sl.of_owns (c := 2) (enc := jobCells) o2 (by decide) (fun _ => rfl)
  exact ⟨y1, d1, y2, d2, rfl, s1, s2, hx⟩

theorem rparse_atB (lx re : Int) (ll : List Ch.Stay) (lj : List Ch.Job) (s : ByteArray) (levels : Int) (w : World) (hs : Hid (s.size ≤ 10000)) (hl1 : 1 ≤ levels) (hl4 : levels ≤ 4) (hp : Hid (parseV (Ch.parseBook s.data.toList levels) = (⟨lx, ll, lj⟩, re))) :
    Calls Tryd.prog 13 #[.string s, vi levels] w fun e w' => ∃ y1 d1 y2 d2, e = .returned (.tuple #[bookA lx y1 ll.length d1 y2 lj.length d2, vi re]) ∧ Sl w' 8 stayCells ll y1 ll.length d1 ∧ Sl w' 2 jobCells lj y2 lj.length d2 ∧ Ext w w' := by
  have := rparse_any s levels w hs.out hl1 hl4
  rw [hp.out] at this
  refine this.mono ?_
  rintro e w' ⟨v1, v2, rfl, o1, o2, _, hx⟩
  obtain ⟨y1, d1, rfl, s1⟩ := Sl.of_owns (c := 8) (enc := stayCells) o1 (by decide) (fun _ => rfl)
  obtain ⟨y2, d2, rfl, s2⟩ := Sl.of_owns (c := 2) (enc := jobCells) o2 (by decide) (fun _ => rfl)
  exact ⟨y1, d1, y2, d2, rfl, s1, s2, hx⟩

theorem parseV_nn (b : Option Ch.Book) : 0 ≤ (parseV b).2 := by cases b with
  | none => decide
  | some b => exact Int.le_refl 0

theorem copy_atB (last : Int) (a1 : Option Addr) (m1 c1 : Nat) (a2 : Option Addr) (m2 c2 : Nat) (l : List Ch.Stay) (js : List Ch.Job) (w : World) (h : Sl w 8 stayCells l a1 m1 c1) (h2 : Sl w 2 jobCells js a2 m2 c2) (hm1 : m1 ≤ 1000) (hm2 : m2 ≤ 1000) (E1 : Hid (l.length = m1)) (E2 : Hid (js.length = m2)) :
    Calls Tryd.prog 17 #[bookA last a1 m1 c1 a2 m2 c2] w fun e w' => ∃ y1 d1 y2 d2, e = .returned (bookA last y1 m1 d1 y2 m2 d2) ∧ Sl w' 8 stayCells l y1 m1 d1 ∧ Sl w' 2 jobCells js y2 m2 d2 ∧ Ext w w' := by
  refine (copy_any last a1 m1 c1 a2 m2 c2 l js w h h2 hm1 hm2).mono ?_
  rintro e w' ⟨v1, v2, rfl, ob, hx⟩
  obtain ⟨y1, d1, rfl, s1⟩ := Sl.of_owns (c := 8) (enc := stayCells) ob.stays (by decide) (fun _ => rfl)
  obtain ⟨y2, d2, rfl, s2⟩ := Sl.of_owns (c := 2) (enc := jobCells) ob.jobs (by decide) (fun _ => rfl)
  have e1 := E1.out
  have e2 := E2.out
  subst e1 e2
  exact ⟨y1, d1, y2, d2, rfl, s1, s2, hx⟩

/-! ### the closed fact: a book's text -/

def bk1 : Ch.Book := ⟨1, [⟨1, ⟨7, ⟨1, 1, 1⟩⟩, ⟨1, 0, 1⟩⟩], [⟨1, false⟩]⟩

theorem bk1_text : (⟨#[49, 32, 49, 32, 49, 32, 49, 32, 55, 32, 49, 32, 49, 32, 49, 32, 49, 32, 48, 32, 49, 32, 49, 32, 48]⟩ : ByteArray).data.toList = Ch.bookText bk1 := by
  have h7 : Lib.itoa 7 = [55] := by unfold Lib.itoa; rw [if_neg (by decide), show (7 : Int).toNat = 7 from rfl, Lib.decDigits_one (by decide)]; rfl
  have h1 : Lib.itoa 1 = [49] := by unfold Lib.itoa; rw [if_neg (by decide), show (1 : Int).toNat = 1 from rfl, Lib.decDigits_one (by decide)]; rfl
  have h0 : Lib.itoa 0 = [48] := by unfold Lib.itoa; rw [if_neg (by decide), show (0 : Int).toNat = 0 from rfl, Lib.decDigits_one (by decide)]; rfl
  show _ = Ch.joinWords [Lib.itoa 1, Lib.itoa 1, Lib.itoa 1, Lib.itoa 1, Lib.itoa 7, Lib.itoa 1, Lib.itoa 1, Lib.itoa 1, Lib.itoa 1, Lib.itoa 0, Lib.itoa 1, Lib.itoa 1, Lib.itoa 0]
  rw [h7, h1, h0]; rfl

theorem bk1_parse : Hid (parseV (Ch.parseBook (⟨#[49, 32, 49, 32, 49, 32, 49, 32, 55, 32, 49, 32, 49, 32, 49, 32, 49, 32, 48, 32, 49, 32, 49, 32, 48]⟩ : ByteArray).data.toList 1) = (⟨1, [⟨1, ⟨7, ⟨1, 1, 1⟩⟩, ⟨1, 0, 1⟩⟩], [⟨1, false⟩]⟩, 0)) := by
  unfold Hid
  rw [bk1_text, Ch.parse_text (by decide) (by decide)]
  rfl

theorem same_nilB (w : World) : Calls Tryd.prog 5 #[.nilIface, vi 0] w fun e w' => e = .returned (.bool true) ∧ Ext w w' := same_yes 0 w (by decide)

set_option maxRecDepth 100000 in
theorem books_any (w : World) (L : Libs w) : Calls Tryd.prog 8 #[] w fun e w' => e = .returned (.bool true) ∧ Ext w w' := by
  have HL := Lib.hid L
  have HC : Hid ((⟨#[49, 32, 49, 32, 49, 32, 49, 32, 55, 32, 49, 32, 49, 32, 49, 32, 49, 32, 48, 32, 49, 32, 49, 32, 48]⟩ : ByteArray).size ≤ 10000) := by unfold Hid; decide
  clear L
  go_enter Tryd.func8, Tryd.ntmps8
  go_upto_region 2 with (first | (go_at_call 12; (with_reducible refine (parse_atB 1 0 [⟨1, ⟨7, ⟨1, 1, 1⟩⟩, ⟨1, 0, 1⟩⟩] [⟨1, false⟩] _ 1 _ HC (HL.out.ext (by simp (maxDischargeDepth := 60))) (by decide) bk1_parse).mono ?_); rintro e w1 ⟨y1, d1, y2, d2, rfl, s1, s2, o1, n1, rfl⟩))
  obtain ⟨b, q, x, rfl, hx, dx⟩ := s1.get (k := 0) (by decide)
  cases hx
  have dx := at8 dx
  dsimp only at dx
  generalize hW : World.alloc _ _ = w2
  generalize hA : w.heap.size + _ = A
  have hxp : Ext (w.plus o1 n1) w2 := by rw [← hW]; exact (by simp (maxDischargeDepth := 60))
  have t1 : w2.cell? ⟨A, 1, none⟩ = some (.slice (some ⟨b, q, none⟩) 1 d1) := by rw [← hW, ← hA]; simp [go_sem]
  have t2 : w2.cell? ⟨A, 2, none⟩ = some (.slice y2 1 d2) := by rw [← hW, ← hA]; simp [go_sem]
  have e1 := ext_cell hxp dx.2.1
  have z1 := cell_lt e1
  have zt := cell_lt t1
  have HX := Lib.hid (show Ext w w2 from (Ext.refl w |>.plus o1 n1).trans hxp)
  clear hW hA hxp dx s2
  go_wp2_with (first | (go_at_call 5; (with_reducible refine (same_nilB _).mono ?_); rintro e w1 ⟨rfl, o1, n1, rfl⟩) | (go_at_call 5; (with_reducible refine (same_yes 0 _ (by decide)).mono ?_); rintro e w1 ⟨rfl, o1, n1, rfl⟩))
  go_ret
  exact ⟨rfl, HX.out.trans (by simp (maxDischargeDepth := 60))⟩

set_option maxRecDepth 100000 in
set_option maxHeartbeats 8000000 in
theorem bookSays_walk (last n t id : Int) (s : ByteArray) (a1 : Option Addr) (m1 c1 : Nat) (a2 : Option Addr) (m2 c2 : Nat) (l : List Ch.Stay) (js : List Ch.Job) (w : World)
    (h : Sl w 8 stayCells l a1 m1 c1) (h2 : Sl w 2 jobCells js a2 m2 c2) (L : Libs w) :
    Calls Tryd.prog 4 #[bookA last a1 m1 c1 a2 m2 c2, .string s, vi n, vi t, vi id] w fun e w' => e = .returned (.bool true) ∧ Ext w w' := by
  have b1 := h.bound
  have b2 := h2.bound
  have HF := Lib.hid h
  have HJ := Lib.hid h2
  have E1 := Lib.hid h.len
  have E2 := Lib.hid h2.len
  clear h h2
  go_enter Tryd.func4, Tryd.ntmps4
  go_upto_region 1 with fail
  generalize hW : World.alloc _ _ = w0
  have k0 : w0.cell? ⟨w.heap.size, 0, none⟩ = some (vi last) := by rw [← hW]; simp [go_sem]
  have k1 : w0.cell? ⟨w.heap.size, 1, none⟩ = some (.slice a1 m1 c1) := by rw [← hW]; simp [go_sem]
  have k2 : w0.cell? ⟨w.heap.size, 2, none⟩ = some (.slice a2 m2 c2) := by rw [← hW]; simp [go_sem]
  have hx : Ext w w0 := by rw [← hW]; exact (by simp (maxDischargeDepth := 60))
  have HX := Lib.hid hx
  have HL := Lib.hid (L.ext hx)
  have HS := Lib.hid (Sl.below HF.out hx.below)
  have HK := Lib.hid (Sl.below HJ.out hx.below)
  have z1 := cell_lt k0
  clear hW hx L HF HJ
  cases hb : decide (m1 ≤ 20 ∧ m2 ≤ 12)
  · have HB := Lib.hid hb
    clear hb
    go_wp2_with (first | (go_at_call 8; (with_reducible refine (books_any _ (HL.out.ext (by simp (maxDischargeDepth := 60)))).mono ?_); rintro e w1 ⟨rfl, o1, n1, rfl⟩) | (go_at_call 9; (with_reducible refine (lightBook_any false _ _ _ _ _ _ _ _ HB).mono ?_); rintro e w1 ⟨rfl, o1, n1, rfl⟩))
    go_ret
    exact ⟨rfl, HX.out.trans (by simp (maxDischargeDepth := 60))⟩
  have HM := Lib.hid (of_decide_eq_true hb)
  have HB := Lib.hid hb
  clear hb
  by_cases h8 : 800 < (s.size : Int)
  · go_wp2_with (first | (go_at_call 8; (with_reducible refine (books_any _ (HL.out.ext (by simp (maxDischargeDepth := 60)))).mono ?_); rintro e w1 ⟨rfl, o1, n1, rfl⟩) | (go_at_call 9; (with_reducible refine (lightBook_any true _ _ _ _ _ _ _ _ HB).mono ?_); rintro e w1 ⟨rfl, o1, n1, rfl⟩))
    go_ret
    exact ⟨rfl, HX.out.trans (by simp (maxDischargeDepth := 60))⟩
  by_cases h1 : n < 1
  · go_wp2_with (first | (go_at_call 8; (with_reducible refine (books_any _ (HL.out.ext (by simp (maxDischargeDepth := 60)))).mono ?_); rintro e w1 ⟨rfl, o1, n1, rfl⟩) | (go_at_call 9; (with_reducible refine (lightBook_any true _ _ _ _ _ _ _ _ HB).mono ?_); rintro e w1 ⟨rfl, o1, n1, rfl⟩))
    go_ret
    exact ⟨rfl, HX.out.trans (by simp (maxDischargeDepth := 60))⟩
  by_cases h4 : 4 < n
  · go_wp2_with (first | (go_at_call 8; (with_reducible refine (books_any _ (HL.out.ext (by simp (maxDischargeDepth := 60)))).mono ?_); rintro e w1 ⟨rfl, o1, n1, rfl⟩) | (go_at_call 9; (with_reducible refine (lightBook_any true _ _ _ _ _ _ _ _ HB).mono ?_); rintro e w1 ⟨rfl, o1, n1, rfl⟩))
    go_ret
    exact ⟨rfl, HX.out.trans (by simp (maxDischargeDepth := 60))⟩
  have hl4 : n ≤ 4 := by omega
  have hl1 : 1 ≤ n := by omega
  obtain ⟨F, HFF⟩ : ∃ F, Hid (Ch.bookFault ⟨last, l, js⟩ n = F) := ⟨_, rfl⟩
  have HFV : Hid (errV (Ch.bookFault ⟨last, l, js⟩ n) = errV F) := by unfold Hid; rw [HFF.out]
  have hF0 : 0 ≤ F := by rw [← HFF.out]; exact bookFaultP_nn _ _
  obtain ⟨lx, ll, lj, re, HP⟩ : ∃ lx ll lj re, Hid (parseV (Ch.parseBook s.data.toList n) = (⟨lx, ll, lj⟩, re)) := ⟨_, _, _, _, rfl⟩
  have hre : 0 ≤ re := by have := parseV_nn (Ch.parseBook s.data.toList n); rw [HP.out] at this; exact this
  have HSZ : Hid (s.size ≤ 10000) := by unfold Hid; omega
  go_upto_region 8 with (first
    | (go_at_call 8; (with_reducible refine (books_any _ (HL.out.ext (by simp (maxDischargeDepth := 60)))).mono ?_); rintro e w1 ⟨rfl, o1, n1, rfl⟩)
    | (go_at_call 9; (with_reducible refine (lightBook_any true _ _ _ _ _ _ _ _ HB).mono ?_); rintro e w1 ⟨rfl, o1, n1, rfl⟩)
    | (go_at_call 10; (with_reducible refine (rfault_atP F last n a1 m1 c1 a2 m2 c2 l js _ (Sl.below HS.out (Ext.below (by simp (maxDischargeDepth := 60)))) (Sl.below HK.out (Ext.below (by simp (maxDischargeDepth := 60)))) hl1 hl4 HFF).mono ?_); rintro e w1 ⟨rfl, o1, n1, rfl⟩)
    | (go_at_call 11; (with_reducible refine (bookcheck_at (errV F) last n a1 m1 c1 a2 m2 c2 l js _ (Sl.below HS.out (Ext.below (by simp (maxDischargeDepth := 60)))) (Sl.below HK.out (Ext.below (by simp (maxDischargeDepth := 60)))) hl4 HFV).mono ?_); rintro e w1 ⟨rfl, o1, n1, rfl⟩)
    | (go_at_call 5; (with_reducible refine (same_yes F _ hF0).mono ?_); rintro e w1 ⟨rfl, o1, n1, rfl⟩)
    | (go_at_call 12; (with_reducible refine (parse_atB lx re ll lj s n _ HSZ (HL.out.ext (by simp (maxDischargeDepth := 60))) hl4 HP).mono ?_); rintro e w1 ⟨y1, d1, y2, d2, rfl, s1, s2, o1, n1, rfl⟩))
  generalize hW : World.alloc _ _ = w2
  generalize hA : w0.heap.size + _ = A
  have hxp : Ext w0 w2 := by rw [← hW]; exact (by simp (maxDischargeDepth := 60))
  have t0 : w2.cell? ⟨A, 0, none⟩ = some (vi lx) := by rw [← hW, ← hA]; simp [go_sem]
  have t1 : w2.cell? ⟨A, 1, none⟩ = some (.slice y1 ll.length d1) := by rw [← hW, ← hA]; simp [go_sem]
  have t2 : w2.cell? ⟨A, 2, none⟩ = some (.slice y2 lj.length d2) := by rw [← hW, ← hA]; simp [go_sem]
  have S1 : Hid (Sl w2 8 stayCells ll y1 ll.length d1) := by show Sl w2 _ _ _ _ _ _; rw [← hW]; exact Sl.below s1 (Ext.below (by simp (maxDischargeDepth := 60)))
  have S2 : Hid (Sl w2 2 jobCells lj y2 lj.length d2) := by show Sl w2 _ _ _ _ _ _; rw [← hW]; exact Sl.below s2 (Ext.below (by simp (maxDischargeDepth := 60)))
  have g0 := ext_cell hxp k0
  have g1 := ext_cell hxp k1
  have g2 := ext_cell hxp k2
  have HX2 := Lib.hid (HX.out.trans hxp)
  have HL2 := Lib.hid (HL.out.ext hxp)
  have HS2 := Lib.hid (Sl.below HS.out hxp.below)
  have HK2 := Lib.hid (Sl.below HK.out hxp.below)
  clear hW hA hxp s1 s2 k0 k1 k2 z1 HX HL HS HK
  go_upto_region 9 with (first
    | (go_at_call 13; (with_reducible refine (rparse_atB lx re ll lj s n _ HSZ hl1 hl4 HP).mono ?_); rintro e w1 ⟨x1, f1, x2, f2, rfl, s1, s2, o1, n1, rfl⟩))
  generalize hW : World.alloc _ _ = w3
  generalize hA : w2.heap.size + _ = B
  have hxp : Ext w2 w3 := by rw [← hW]; exact (by simp (maxDischargeDepth := 60))
  have u0 : w3.cell? ⟨B, 0, none⟩ = some (vi lx) := by rw [← hW, ← hA]; simp [go_sem]
  have u1 : w3.cell? ⟨B, 1, none⟩ = some (.slice x1 ll.length f1) := by rw [← hW, ← hA]; simp [go_sem]
  have u2 : w3.cell? ⟨B, 2, none⟩ = some (.slice x2 lj.length f2) := by rw [← hW, ← hA]; simp [go_sem]
  have R1 : Hid (Sl w3 8 stayCells ll x1 ll.length f1) := by show Sl w3 _ _ _ _ _ _; rw [← hW]; exact Sl.below s1 (Ext.below (by simp (maxDischargeDepth := 60)))
  have R2 : Hid (Sl w3 2 jobCells lj x2 lj.length f2) := by show Sl w3 _ _ _ _ _ _; rw [← hW]; exact Sl.below s2 (Ext.below (by simp (maxDischargeDepth := 60)))
  have k0 := ext_cell hxp g0
  have k1 := ext_cell hxp g1
  have k2 := ext_cell hxp g2
  have v0 := ext_cell hxp t0
  have v1 := ext_cell hxp t1
  have v2 := ext_cell hxp t2
  have HX3 := Lib.hid (HX2.out.trans hxp)
  have HL3 := Lib.hid (HL2.out.ext hxp)
  have HS3 := Lib.hid (Sl.below HS2.out hxp.below)
  have HK3 := Lib.hid (Sl.below HK2.out hxp.below)
  have S3 := Lib.hid (Sl.below S1.out hxp.below)
  have S4 := Lib.hid (Sl.below S2.out hxp.below)
  have zk := cell_lt k0
  have zv := cell_lt v0
  have zu := cell_lt u0
  clear hW hA hxp s1 s2 g0 g1 g2 t0 t1 t2 S1 S2 HX2 HL2 HS2 HK2
  by_cases hF : F = 0
  · subst hF
    have HR := Lib.hid (Ch.book_range (Ch.bookFault_iff.1 HFF.out) hl4)
    obtain ⟨T, HT⟩ : ∃ T, Hid (textS ⟨last, l, js⟩ = T) := ⟨_, rfl⟩
    have hm1 : m1 ≤ 1000 := by have := HM.out; omega
    have hm2 : m2 ≤ 1000 := by have := HM.out; omega
    go_upto_region 13 with (first
      | (go_at_call 5; (with_reducible refine (same_yes re _ hre).mono ?_); rintro e w1 ⟨rfl, o1, n1, rfl⟩)
      | (go_at_call 14; (with_reducible refine (sameBook_yes lx y1 ll.length d1 y2 lj.length d2 x1 f1 x2 f2 ll lj _ (Sl.below S3.out (Ext.below (by simp (maxDischargeDepth := 60)))) (Sl.below S4.out (Ext.below (by simp (maxDischargeDepth := 60)))) (Sl.below R1.out (Ext.below (by simp (maxDischargeDepth := 60)))) (Sl.below R2.out (Ext.below (by simp (maxDischargeDepth := 60))))).mono ?_); rintro e w1 ⟨rfl, o1, n1, rfl⟩))
    go_region_with (first
      | (go_at_call 15; (with_reducible refine (text_atB T last a1 m1 c1 a2 m2 c2 l js _ (Sl.below HS3.out (Ext.below (by simp (maxDischargeDepth := 60)))) (Sl.below HK3.out (Ext.below (by simp (maxDischargeDepth := 60)))) (HL3.out.tab.ext (by simp (maxDischargeDepth := 60))) HR.out HT).mono ?_); rintro e w1 ⟨rfl, o1, n1, rfl⟩)
      | (go_at_call 16; (with_reducible refine (rtext_atB T last a1 m1 c1 a2 m2 c2 l js _ (Sl.below HS3.out (Ext.below (by simp (maxDischargeDepth := 60)))) (Sl.below HK3.out (Ext.below (by simp (maxDischargeDepth := 60)))) HR.out HT).mono ?_); rintro e w1 ⟨rfl, o1, n1, rfl⟩)
      | (go_at_call 17; (with_reducible refine (copy_atB last a1 m1 c1 a2 m2 c2 l js _ (Sl.below HS3.out (Ext.below (by simp (maxDischargeDepth := 60)))) (Sl.below HK3.out (Ext.below (by simp (maxDischargeDepth := 60)))) hm1 hm2 E1 E2).mono ?_); rintro e w1 ⟨p1, e1, p2, e2, rfl, s1, s2, o1, n1, rfl⟩)
      | (go_at_call 14; (with_reducible refine (sameBook_yes last p1 m1 e1 p2 m2 e2 a1 c1 a2 c2 l js _ (Sl.below s1 (Ext.below (by simp (maxDischargeDepth := 60)))) (Sl.below s2 (Ext.below (by simp (maxDischargeDepth := 60)))) (Sl.below HS3.out (Ext.below (by simp (maxDischargeDepth := 60)))) (Sl.below HK3.out (Ext.below (by simp (maxDischargeDepth := 60))))).mono ?_); rintro e w1 ⟨rfl, o1, n1, rfl⟩))
    all_goals
      generalize hW : World.plus _ _ _ = w4
      have hxp : Ext w3 w4 := by rw [← hW]; exact (by simp (maxDischargeDepth := 60))
      have q0 := ext_cell hxp k0
      have q1 := ext_cell hxp k1
      have q2 := ext_cell hxp k2
      have HX4 := Lib.hid (HX3.out.trans hxp)
      have HS4 := Lib.hid (Sl.below HS3.out hxp.below)
      have HK4 := Lib.hid (Sl.below HK3.out hxp.below)
      have zq := cell_lt q0
      clear hW hxp k0 k1 k2 zk v0 v1 v2 zv u0 u1 u2 zu
      go_wp2
      go_loopw [17, 18, 19] (fun a b i wr => ∃ z : Int, -1 ≤ z ∧ z < (m1 : Int) ∧ i = vi z ∧ Hid (a = vi (scanAt (fun s => s.ticket == t) l (z + 1).toNat)) ∧ Hid (b = vi (scanAt (fun s => s.car.id == id) l (z + 1).toNat)) ∧ Ext w4 wr) (fun _ _ i _ => (intOf i + 1).toNat)
      case atStart =>
        refine ⟨(m1 : Int) - 1, by omega, by omega, by first | rfl | go_num, ?_, ?_, (by simp (maxDischargeDepth := 60))⟩
        · unfold Hid
          rw [show ((m1 : Int) - 1 + 1).toNat = l.length by rw [E1.out]; omega, scan_end]
        · unfold Hid
          rw [show ((m1 : Int) - 1 + 1).toNat = l.length by rw [E1.out]; omega, scan_end]
      case round =>
        obtain ⟨z, hz1, hz2, rfl, Ha, Hb, o', m', rfl⟩ := hrel
        by_cases hz : 0 ≤ z
        · obtain ⟨k, rfl⟩ := Int.eq_ofNat_of_zero_le hz
          obtain ⟨b, q, x, rfl, hx, dx⟩ := HS4.out.get (k := k) (by omega)
          have dx := at8 dx
          have zd := cell_lt dx.1
          have hsa := Lib.hid (scan_step (fun s : Ch.Stay => s.ticket == t) hx)
          have hsb := Lib.hid (scan_step (fun s : Ch.Stay => s.car.id == id) hx)
          obtain ⟨x0, ⟨x1', ⟨x2', x3, x4⟩⟩, ⟨x5, x6, x7⟩⟩ := x
          dsimp only at dx
          clear hx
          have hi1 : IntKind.i64.wrap ((k : Int) - 1) = (k : Int) - 1 := IntWalk.i64_in _ (by omega)
          have hk1 : ((k : Int) + 1).toNat = k + 1 := by omega
          have hk2 : ((k : Int) - 1 + 1).toNat = k := by omega
          rw [hk1] at Ha Hb
          by_cases ht : x0 = t
          · have hbt : (x0 == t) = true := by simpa using ht
            by_cases hd : x1' = id
            · have hbd : (x1' == id) = true := by simpa using hd
              clear ht hd
              go_wp2
              go_roundw
              case rel =>
                refine ⟨(k : Int) - 1, by omega, by omega, by first | rfl | go_num, ?_, ?_, (by simp (maxDischargeDepth := 60))⟩
                · unfold Hid; rw [hk2, hsa.out, if_pos hbt]
                · unfold Hid; rw [hk2, hsb.out, if_pos hbd]
              case measure => (simp [intOf] <;> omega)
            · have hbd : (x1' == id) = false := by simpa using hd
              clear ht hd
              go_wp2
              go_roundw
              case rel =>
                refine ⟨(k : Int) - 1, by omega, by omega, by first | rfl | go_num, ?_, ?_, (by simp (maxDischargeDepth := 60))⟩
                · unfold Hid; rw [hk2, hsa.out, if_pos hbt]
                · unfold Hid; rw [hk2, hsb.out, if_neg (by show ¬ (x1' == id) = true; rw [hbd]; decide)]; exact Hb.out
              case measure => (simp [intOf] <;> omega)
          · have hbt : (x0 == t) = false := by simpa using ht
            by_cases hd : x1' = id
            · have hbd : (x1' == id) = true := by simpa using hd
              clear ht hd
              go_wp2
              go_roundw
              case rel =>
                refine ⟨(k : Int) - 1, by omega, by omega, by first | rfl | go_num, ?_, ?_, (by simp (maxDischargeDepth := 60))⟩
                · unfold Hid; rw [hk2, hsa.out, if_neg (by show ¬ (x0 == t) = true; rw [hbt]; decide)]; exact Ha.out
                · unfold Hid; rw [hk2, hsb.out, if_pos hbd]
              case measure => (simp [intOf] <;> omega)
            · have hbd : (x1' == id) = false := by simpa using hd
              clear ht hd
              go_wp2
              go_roundw
              case rel =>
                refine ⟨(k : Int) - 1, by omega, by omega, by first | rfl | go_num, ?_, ?_, (by simp (maxDischargeDepth := 60))⟩
                · unfold Hid; rw [hk2, hsa.out, if_neg (by show ¬ (x0 == t) = true; rw [hbt]; decide)]; exact Ha.out
                · unfold Hid; rw [hk2, hsb.out, if_neg (by show ¬ (x1' == id) = true; rw [hbd]; decide)]; exact Hb.out
              case measure => (simp [intOf] <;> omega)
        · have hzz : z = -1 := by omega
          subst hzz
          have ha := Ha.out
          have hb := Hb.out
          rw [show ((-1 : Int) + 1).toNat = 0 from rfl, scan_zero] at ha hb
          subst ha hb
          obtain ⟨fi, HFI⟩ : ∃ fi, Hid (Ch.indexOf (fun s : Ch.Stay => s.ticket == t) l = fi) := ⟨_, rfl⟩
          obtain ⟨fo, HFO⟩ : ∃ fo, Hid (Ch.indexOf (fun s : Ch.Stay => s.car.id == id) l = fo) := ⟨_, rfl⟩
          rw [HFI.out, HFO.out]
          clear Ha Hb
          go_wp2_with (first
            | (go_at_call 18; (with_reducible refine (find_at fi last t a1 m1 c1 a2 m2 c2 l _ (Sl.below HS4.out (Ext.below (by simp (maxDischargeDepth := 60)))) HFI).mono ?_); rintro e w1 ⟨rfl, o1, n1, rfl⟩)
            | (go_at_call 19; (with_reducible refine (of_at fo last id a1 m1 c1 a2 m2 c2 l _ (Sl.below HS4.out (Ext.below (by simp (maxDischargeDepth := 60)))) HFO).mono ?_); rintro e w1 ⟨rfl, o1, n1, rfl⟩))
          go_ret
          exact ⟨rfl, HX4.out.trans (by simp (maxDischargeDepth := 60))⟩
  · have hFp : 0 < F := by omega
    go_wp2_with (first
      | (go_at_call 5; (with_reducible refine (same_yes re _ hre).mono ?_); rintro e w1 ⟨rfl, o1, n1, rfl⟩)
      | (go_at_call 14; (with_reducible refine (sameBook_yes lx y1 ll.length d1 y2 lj.length d2 x1 f1 x2 f2 ll lj _ (Sl.below S3.out (Ext.below (by simp (maxDischargeDepth := 60)))) (Sl.below S4.out (Ext.below (by simp (maxDischargeDepth := 60)))) (Sl.below R1.out (Ext.below (by simp (maxDischargeDepth := 60)))) (Sl.below R2.out (Ext.below (by simp (maxDischargeDepth := 60))))).mono ?_); rintro e w1 ⟨rfl, o1, n1, rfl⟩))
    go_ret
    exact ⟨rfl, HX3.out.trans (by simp (maxDischargeDepth := 60))⟩
end Go.Proofs.YtplomeacjbkgnaaDoor
