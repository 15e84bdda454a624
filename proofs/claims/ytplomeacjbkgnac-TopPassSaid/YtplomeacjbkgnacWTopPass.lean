/-
  The walk of TopPass.
-/
import Derived.Test.YtplomeacjbkgnacWTopFetch
namespace Go.Proofs.Ytplomeacjbkgnac
open Go.RowKit

/-- two calm machines, both the same -/
structure Pair (w0 w : World) (pb mb pb' mb' : Nat) (P : Ch.Plant) : Prop where
  at1 : PlantAt w pb mb P
  at2 : PlantAt w pb' mb' P
  ext : Ext w0 w
  l1 : w0.heap.size ≤ pb
  l2 : w0.heap.size ≤ mb
  l3 : w0.heap.size ≤ pb'
  l4 : w0.heap.size ≤ mb'
  n1 : pb' ≠ pb ∧ pb' ≠ mb ∧ mb' ≠ pb ∧ mb' ≠ mb

/-- what a car that is passed makes of a machine -/
def passed (P : Ch.Plant) (i : Bool) : Ch.Plant := if i then { P with height := 0, lift := P.bay, bay := 0 } else { P with height := 0, lift := 0, bay := P.lift, door := true }

def passGoals (i : Bool) : List Ch.Goal := if i then Ch.takeIn else Ch.giveOut

theorem passed_runs {P : Ch.Plant} (hp : P.Calm) (i : Bool) (h : if i then P.lift = 0 ∧ P.bay ≠ 0 else P.lift ≠ 0 ∧ P.bay = 0) : Ch.runGoals 80 P (passGoals i) = (passed P i, true) := by
  cases i
  · obtain ⟨k, hk, hr⟩ := Ch.giveOut_runs hp h.1 h.2
    exact hr.ends (by omega)
  · obtain ⟨k, hk, hr⟩ := Ch.takeIn_runs hp h.1 h.2
    exact hr.ends (by omega)

set_option maxRecDepth 100000 in
set_option maxHeartbeats 4000000 in
theorem topPass_ok (L : Int) (i : Bool) (a : Option Addr) (n cap : Nat) (l : List RAct) (w : World) (h : Sl w 12 ractCells l a n cap) (hg : ∀ x ∈ l, x.Good) (L1 : 1 ≤ L) (L2 : L ≤ 4) :
    Calls Try.prog 3 #[vi L, .slice a n cap, .bool i] w fun e w' => e = .returned (.bool true) ∧ Ext w w' := by
  have HS := Lib.hid h
  have HG := Lib.hid hg
  have hb := h.bound
  clear h hg
  go_enter Try.func3, Try.ntmps3
  go_upto_region 5 with (first
    | (go_at_call 6; (with_reducible refine (moved_any _).mono ?_); rintro e w1 ⟨rfl, o1, n1, rfl⟩)
    | (go_at_call 7; (with_reducible refine (calm_ok L _ _ _ l _ (Sl.below HS.out (Ext.below (by simp (maxDischargeDepth := 60)))) HG.out L1 L2).mono ?_); rintro e w1 (⟨rfl, oA, nA, rfl⟩ | ⟨pb, mb, rfl, hq1, hx1, hb1, hb2⟩)))
  · go_wp2_with (go_at_call 7; (with_reducible refine (calm_ok L _ _ _ l _ (Sl.below HS.out (Ext.below (by simp (maxDischargeDepth := 60)))) HG.out L1 L2).mono ?_); rintro e w2 (⟨rfl, oB, nB, rfl⟩ | ⟨pb', mb', rfl, _, ⟨oB, nB, rfl⟩, _, _⟩))
    all_goals
      go_ret
      exact ⟨rfl, (by simp (maxDischargeDepth := 60))⟩
  have l1 : w.heap.size ≤ pb := by simp at hb1; omega
  have l2 : w.heap.size ≤ mb := by simp at hb2; omega
  have e1 : Ext w w1 := Ext.trans (by simp (maxDischargeDepth := 60)) hx1
  have E1 := Lib.hid e1
  have Q1 := Lib.hid hq1
  have pl := hq1.lt
  clear hx1 hb1 hb2 hq1
  go_upto_region 6 with (go_at_call 7; (with_reducible refine (calm_ok L _ _ _ l _ (Sl.below HS.out E1.out.below) HG.out L1 L2).mono ?_); rintro e w2 (⟨rfl, oB, nB, rfl⟩ | ⟨pb', mb', rfl, hq2, hx2, hb1, hb2⟩))
  · go_wp2
    go_ret
    exact ⟨rfl, E1.out.trans (by simp (maxDischargeDepth := 60))⟩
  have T : Pair w w2 pb mb pb' mb' (calmP L l) :=
    ⟨Q1.out.ext hx2, hq2, E1.out.trans hx2, l1, l2, by have := E1.out.below.size; omega, by have := E1.out.below.size; omega, ⟨by omega, by omega, by omega, by omega⟩⟩
  have HT := Lib.hid T
  obtain ⟨_, hcm, hlv⟩ := calmP_is L1 L2 l
  generalize calmP L l = P at HT hcm hlv
  clear T hq2 hx2 hb1 hb2 e1 Q1 E1 pl hlv
  have HC := Lib.hid hcm
  have hwf := hcm.wf
  clear hcm
  by_cases hgood : if i then P.lift = 0 ∧ P.bay ≠ 0 else P.lift ≠ 0 ∧ P.bay = 0
  · have HRES := Lib.hid (passed_runs HC.out i hgood)
    have hpass : (i = true ∧ (P.lift != 0) = false ∧ (P.bay == 0) = false) ∨ (i = false ∧ (P.lift == 0) = false ∧ (P.bay != 0) = false) := by
      cases i
      · exact Or.inr ⟨rfl, by simpa using hgood.1, by simpa using hgood.2⟩
      · exact Or.inl ⟨rfl, by simpa using hgood.1, by simpa using hgood.2⟩
    clear hgood
    rcases hpass with ⟨rfl, c1, c2⟩ | ⟨rfl, c1, c2⟩
    · go_upto_region 11 with (go_at_call 8; (with_reducible refine (sense_any HT.out.at1 hwf).mono ?_); rintro e ws ⟨rfl, oS, nS, rfl⟩)
      generalize hW : World.alloc _ _ = w3
      have hx3 : Ext w2 w3 := by rw [← hW]; exact (by simp (maxDischargeDepth := 60))
      have s4 : w3.cell? ⟨w2.heap.size + oS.size, 4, none⟩ = some (vi P.lift) := by rw [← hW]; simp [go_sem]
      have s5 : w3.cell? ⟨w2.heap.size + oS.size, 5, none⟩ = some (vi P.bay) := by rw [← hW]; simp [go_sem]
      clear hW
      generalize hsb : w2.heap.size + oS.size = sb at s4 s5 ⊢
      have hsb' : w2.heap.size ≤ sb := by omega
      have HX3 := Lib.hid hx3
      clear hx3 hsb
      go_wp2_with (first
        | (go_at_call 9; (with_reducible refine (giveOut_any _).mono ?_); rintro e wg hh; obtain ⟨ga', gn', gc', rfl, -, -, hxg⟩ := NewGoals.sl2 hh; clear hh)
        | (go_at_call 10; (with_reducible refine (takeIn_any _).mono ?_); rintro e w4 hh; obtain ⟨ga, gn, gc, rfl, hsl, hgb0, hx4'⟩ := NewGoals.sl2 hh; clear hh))
      have hx4 : Ext w3 w4 := Ext.trans hxg hx4'
      have hgb : ∀ b o, ga = some ⟨b, o, none⟩ → w3.heap.size ≤ b := fun b o e => by have h1 := hgb0 b o e; have h2 := hxg.below.size; omega
      clear hgb0
      go_at_call 11
      have pl1 := HT.out.at1.lt
      have pl2 := HT.out.at2.lt
      have a1 := HT.out.l1
      have a2 := HT.out.l2
      have sz3 := HX3.out.below.size
      have szz := hx4.below.size
      refine (run_any (HT.out.at1.ext (HX3.out.trans hx4)) hwf _ ga gn gc hsl (fun b o e => by have := hgb b o e; constructor <;> omega) 80 (by decide)).mono ?_
      rintro e w5 ⟨he, hq5, hk5⟩
      have hw5 := run_wf 80 P (passGoals true) hwf
      have hres : Ch.runGoals 80 P (passGoals true) = (passed P true, true) := HRES.out
      unfold passGoals at hres hw5
      simp only [if_true, Bool.false_eq_true, if_false] at hres hw5
      rw [hres] at he hq5 hw5
      subst he
      have u4 := cell_kept hk5 (cell_ext hx4 s4) (fun c => by rcases c with c | c <;> omega)
      have u5 := cell_kept hk5 (cell_ext hx4 s5) (fun c => by rcases c with c | c <;> omega)
      have uz := cell_lt u4
      have HQ2 := Lib.hid ((HT.out.at2.ext (HX3.out.trans hx4)).kept hk5 (fun c => by have := HT.out.n1; rcases c with c | c; exact this.1 c; exact this.2.1 c) (fun c => by have := HT.out.n1; rcases c with c | c; exact this.2.2.1 c; exact this.2.2.2 c))
      have f1 : (passed P true).lift = P.bay := rfl
      have f4 : (passed P true).bay = 0 := rfl
      have f2 : (passed P true).height = 0 := rfl
      have f5 : (passed P true).door = false := HC.out.dr
      have f6 : (passed P true).hurt = false := HC.out.hh
      have HBUT : Hid (∀ s : Ch.Place, s ≠ ⟨0, 0, 0⟩ → P.slots s = (passed P true).slots s) := fun s _ => rfl
      have HB5 : Hid (Below w.heap.size w w5) := by
        refine below_kept ((HT.out.ext.trans (HX3.out.trans hx4)).below) (Nat.le_refl _) hk5 (fun i hi => ?_)
        rcases hi with rfl | rfl <;> omega
      have HQ5 := Lib.hid hq5
      have hz0 : P.lift = 0 := by simpa using c1
      rw [hz0] at u4
      have Z := Lib.hid hz0
      generalize passed P true = P' at HQ5 f1 f2 f4 f5 f6 HBUT hw5
      clear hq5 hk5 hsl hgb hx4 s4 s5 HRES hres pl1 pl2 a1 a2 sz3 szz c1 c2 hz0
      go_upto_region 16 with (go_at_call 8; (with_reducible refine (sense_any (HQ5.out.ext (by simp (maxDischargeDepth := 60))) hw5).mono ?_); rintro e ws ⟨rfl, oT, nT, rfl⟩)
      go_wp2_with (first
        | (go_at_call 12; refine (but_any (pb := pb') (mb := mb') (pb' := pb) (mb' := mb) (p := P) (q := P') (HQ2.out.ext (by simp (maxDischargeDepth := 60))) (HQ5.out.ext (by simp (maxDischargeDepth := 60))) 0 0 0 HBUT.out).mono ?_; rintro e wb ⟨rfl, oU, nU, rfl⟩)
        | (go_at_call 13; refine (hurt_any (HQ5.out.ext (by simp (maxDischargeDepth := 60)))).mono ?_; rintro e wh ⟨rfl, oH, nH, rfl⟩))
      go_ret
      go_light
      have HZ := Z.out
      refine ⟨by simp [HZ], HB5.out |> Ext.of_below |>.trans (by simp (maxDischargeDepth := 60))⟩
    · go_upto_region 11 with (go_at_call 8; (with_reducible refine (sense_any HT.out.at1 hwf).mono ?_); rintro e ws ⟨rfl, oS, nS, rfl⟩)
      generalize hW : World.alloc _ _ = w3
      have hx3 : Ext w2 w3 := by rw [← hW]; exact (by simp (maxDischargeDepth := 60))
      have s4 : w3.cell? ⟨w2.heap.size + oS.size, 4, none⟩ = some (vi P.lift) := by rw [← hW]; simp [go_sem]
      have s5 : w3.cell? ⟨w2.heap.size + oS.size, 5, none⟩ = some (vi P.bay) := by rw [← hW]; simp [go_sem]
      clear hW
      generalize hsb : w2.heap.size + oS.size = sb at s4 s5 ⊢
      have hsb' : w2.heap.size ≤ sb := by omega
      have HX3 := Lib.hid hx3
      clear hx3 hsb
      go_wp2_with (go_at_call 9; (with_reducible refine (giveOut_any _).mono ?_); rintro e w4 hh; obtain ⟨ga, gn, gc, rfl, hsl, hgb, hx4⟩ := NewGoals.sl2 hh; clear hh)
      go_at_call 11
      have pl1 := HT.out.at1.lt
      have pl2 := HT.out.at2.lt
      have a1 := HT.out.l1
      have a2 := HT.out.l2
      have sz3 := HX3.out.below.size
      have szz := hx4.below.size
      refine (run_any (HT.out.at1.ext (HX3.out.trans hx4)) hwf _ ga gn gc hsl (fun b o e => by have := hgb b o e; constructor <;> omega) 80 (by decide)).mono ?_
      rintro e w5 ⟨he, hq5, hk5⟩
      have hw5 := run_wf 80 P (passGoals false) hwf
      have hres : Ch.runGoals 80 P (passGoals false) = (passed P false, true) := HRES.out
      unfold passGoals at hres hw5
      simp only [if_true, Bool.false_eq_true, if_false] at hres hw5
      rw [hres] at he hq5 hw5
      subst he
      have u4 := cell_kept hk5 (cell_ext hx4 s4) (fun c => by rcases c with c | c <;> omega)
      have u5 := cell_kept hk5 (cell_ext hx4 s5) (fun c => by rcases c with c | c <;> omega)
      have uz := cell_lt u4
      have HQ2 := Lib.hid ((HT.out.at2.ext (HX3.out.trans hx4)).kept hk5 (fun c => by have := HT.out.n1; rcases c with c | c; exact this.1 c; exact this.2.1 c) (fun c => by have := HT.out.n1; rcases c with c | c; exact this.2.2.1 c; exact this.2.2.2 c))
      have f1 : (passed P false).lift = 0 := rfl
      have f4 : (passed P false).bay = P.lift := rfl
      have f2 : (passed P false).height = 0 := rfl
      have f5 : (passed P false).door = true := rfl
      have f6 : (passed P false).hurt = false := HC.out.hh
      have HBUT : Hid (∀ s : Ch.Place, s ≠ ⟨0, 0, 0⟩ → P.slots s = (passed P false).slots s) := fun s _ => rfl
      have HB5 : Hid (Below w.heap.size w w5) := by
        refine below_kept ((HT.out.ext.trans (HX3.out.trans hx4)).below) (Nat.le_refl _) hk5 (fun i hi => ?_)
        rcases hi with rfl | rfl <;> omega
      have HQ5 := Lib.hid hq5
      have hz0 : P.bay = 0 := by simpa using c2
      rw [hz0] at u5
      have Z := Lib.hid hz0
      generalize passed P false = P' at HQ5 f1 f2 f4 f5 f6 HBUT hw5
      clear hq5 hk5 hsl hgb hx4 s4 s5 HRES hres pl1 pl2 a1 a2 sz3 szz c1 c2 hz0
      go_upto_region 16 with (go_at_call 8; (with_reducible refine (sense_any (HQ5.out.ext (by simp (maxDischargeDepth := 60))) hw5).mono ?_); rintro e ws ⟨rfl, oT, nT, rfl⟩)
      go_wp2_with (first
        | (go_at_call 12; refine (but_any (pb := pb') (mb := mb') (pb' := pb) (mb' := mb) (p := P) (q := P') (HQ2.out.ext (by simp (maxDischargeDepth := 60))) (HQ5.out.ext (by simp (maxDischargeDepth := 60))) 0 0 0 HBUT.out).mono ?_; rintro e wb ⟨rfl, oU, nU, rfl⟩)
        | (go_at_call 13; refine (hurt_any (HQ5.out.ext (by simp (maxDischargeDepth := 60)))).mono ?_; rintro e wh ⟨rfl, oH, nH, rfl⟩))
      go_ret
      go_light
      have HZ := Z.out
      refine ⟨by simp [HZ], HB5.out |> Ext.of_below |>.trans (by simp (maxDischargeDepth := 60))⟩
  · have HB := Lib.hid hgood
    clear hgood
    cases i
    all_goals
      go_wp2_with (go_at_call 8; (with_reducible refine (sense_any HT.out.at1 hwf).mono ?_); rintro e w1 ⟨rfl, o1, n1, rfl⟩)
      all_goals
        first
        | (go_ret; exact ⟨rfl, HT.out.ext.trans (by simp (maxDischargeDepth := 60))⟩)
        | (exfalso
           have hB := HB.out
           simp only [beq_iff_eq, bne_iff_ne, ne_eq, beq_eq_false_iff_ne, bne_eq_false_iff_eq] at *
           grind)

set_option maxRecDepth 100000 in
set_option maxHeartbeats 4000000 in
theorem topPass_bad (L : Int) (i : Bool) (a : Option Addr) (n cap : Nat) (l : List RAct) (w : World) (h : Sl w 12 ractCells l a n cap) (hg : ∀ x ∈ l, x.Good) (hL : L < 1 ∨ 4 < L) :
    Calls Try.prog 3 #[vi L, .slice a n cap, .bool i] w fun e w' => e = .returned (.bool true) ∧ Ext w w' := by
  have HS := Lib.hid h
  have HG := Lib.hid hg
  have HL := Lib.hid hL
  clear h hg hL
  go_enter Try.func3, Try.ntmps3
  go_wp2_with (first
    | (go_at_call 6; (with_reducible refine (moved_any _).mono ?_); rintro e w1 ⟨rfl, o1, n1, rfl⟩)
    | (go_at_call 7; (with_reducible refine (calm_bad L _ _ _ l _ (Sl.below HS.out (Ext.below (by simp (maxDischargeDepth := 60)))) HG.out HL.out).mono ?_); rintro e w1 ⟨rfl, oA, nA, rfl⟩))
  go_ret
  exact ⟨rfl, (by simp (maxDischargeDepth := 60))⟩

theorem topPass_walk (L : Int) (i : Bool) {a : Option Addr} {n cap : Nat} {l : List RAct} {w : World} (h : Sl w 12 ractCells l a n cap) (hg : ∀ x ∈ l, x.Good) :
    Calls Try.prog 3 #[vi L, .slice a n cap, .bool i] w fun e w' => e = .returned (.bool true) ∧ Ext w w' := by
  by_cases hL : L < 1 ∨ 4 < L
  · exact topPass_bad L i a n cap l w h hg hL
  · exact topPass_ok L i a n cap l w h hg (by omega) (by omega)
end Go.Proofs.Ytplomeacjbkgnac
