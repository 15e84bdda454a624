/-
  The walk of TopFetch.
-/
import Derived.Test.YtplomeacjbkgnacCalm
import Derived.Test.YtplomeacjbkgnacBut
namespace Go.Proofs.Ytplomeacjbkgnac
open Go.RowKit

theorem cell_ext {w w' : World} (h : Ext w w') {b o : Nat} {v : Value} (hc : w.cell? ⟨b, o, none⟩ = some v) : w'.cell? ⟨b, o, none⟩ = some v := by
  obtain ⟨o', n, rfl⟩ := h
  rw [plus_cell _ _ _ _ _ _ (cell_lt hc)]; exact hc

theorem cell_kept {S : Nat → Prop} {w w' : World} (k : Kept S w w') {b o : Nat} {v : Value} (hc : w.cell? ⟨b, o, none⟩ = some v) (hn : ¬ S b) : w'.cell? ⟨b, o, none⟩ = some v := by
  have h := k.block b (cell_lt hc) hn
  simp only [World.cell?, h]
  simpa only [World.cell?] using hc

theorem PlantAt.kept {S : Nat → Prop} {w w' : World} {pb mb : Nat} {p : Ch.Plant} (h : PlantAt w pb mb p) (k : Kept S w w') (h1 : ¬ S pb) (h2 : ¬ S mb) : PlantAt w' pb mb p :=
  h.same (k.block pb h.lt.1 h1) (k.block mb h.lt.2 h2)

theorem front_flat (a b c : Int) (w : World) : Calls Try.prog 16 #[.agg #[vi a, vi b, vi c]] w fun e w' => e = .returned (.agg #[vi a, vi b, vi 0]) ∧ Ext w w' := front_f a b c w

theorem NewGoals.sl2 {w : World} {l : List Ch.Goal} {e : Ending} {w' : World} (h : NewGoals w l e w') : ∃ a n c, e = .returned (.slice a n c) ∧ Sl w' 2 goalCells l a n c ∧ (∀ b o, a = some ⟨b, o, none⟩ → w.heap.size ≤ b) ∧ Ext w w' := by
  obtain ⟨v, rfl, ho, hx⟩ := h
  obtain ⟨a, c, rfl, hs⟩ := Sl.of_owns ho (by decide) (fun x => rfl)
  refine ⟨a, _, c, rfl, hs, ?_, hx⟩
  intro b o e
  subst e
  exact owns_block ho b rfl

theorem fetch_flat (X Y Z : Int) (w : World) (h0 : 0 ≤ Z) (h1 : Z ≤ 1) (h2 : 1 ≤ X) (h3 : X ≤ 4) : Calls Try.prog 17 #[.agg #[vi X, vi Y, vi Z]] w (NewGoals w (Ch.fetch ⟨X, Y, Z⟩)) := fetch_any ⟨X, Y, Z⟩ w h0 h1 h2 h3

theorem run_wf : ∀ (n : Nat) (p : Ch.Plant) (l : List Ch.Goal), p.WF → (Ch.runGoals n p l).1.WF
  | 0, _, _, h => h
  | _ + 1, _, [], h => h
  | n + 1, p, g :: r, h => by
    unfold Ch.runGoals
    split
    · exact run_wf n p r h
    · refine run_wf n _ (g :: r) ?_
      unfold Ch.Plant.tick1
      split
      · exact h.step _
      · exact h

/-- two calm machines, both the same; a place beside them -/
structure Two (w0 w : World) (bx pb mb pb' mb' : Nat) (P : Ch.Plant) (X Y Z : Int) : Prop where
  at1 : PlantAt w pb mb P
  at2 : PlantAt w pb' mb' P
  x0 : w.cell? ⟨bx, 0, none⟩ = some (vi X)
  x1 : w.cell? ⟨bx, 1, none⟩ = some (vi Y)
  x2 : w.cell? ⟨bx, 2, none⟩ = some (vi Z)
  ext : Ext w0 w
  l1 : w0.heap.size ≤ pb
  l2 : w0.heap.size ≤ mb
  l3 : w0.heap.size ≤ pb'
  l4 : w0.heap.size ≤ mb'
  n1 : pb' ≠ pb ∧ pb' ≠ mb ∧ mb' ≠ pb ∧ mb' ≠ mb
  bx : bx < w0.heap.size

set_option maxRecDepth 100000 in
set_option maxHeartbeats 4000000 in
theorem topFetch_ok (L : Int) (X Y Z : Int) (a : Option Addr) (n cap : Nat) (l : List RAct) (w : World) (h : Sl w 12 ractCells l a n cap) (hg : ∀ x ∈ l, x.Good) (L1 : 1 ≤ L) (L2 : L ≤ 4) :
    Calls Try.prog 4 #[vi L, .slice a n cap, (.agg #[vi X, vi Y, vi Z])] w fun e w' => e = .returned (.bool true) ∧ Ext w w' := by
  have HS := Lib.hid h
  have HG := Lib.hid hg
  have hb := h.bound
  clear h hg
  go_enter Try.func4, Try.ntmps4
  go_upto_region 1 with fail
  generalize hW : World.alloc _ _ = w0
  have k0 : w0.cell? ⟨w.heap.size, 0, none⟩ = some (vi X) := by rw [← hW]; simp [go_sem]
  have k1 : w0.cell? ⟨w.heap.size, 1, none⟩ = some (vi Y) := by rw [← hW]; simp [go_sem]
  have k2 : w0.cell? ⟨w.heap.size, 2, none⟩ = some (vi Z) := by rw [← hW]; simp [go_sem]
  have hx0 : Ext w w0 := by rw [← hW]; exact (by simp (maxDischargeDepth := 60))
  have HS0 : Hid (Sl w0 12 ractCells l a n cap) := by unfold Hid; exact Sl.below HS.out hx0.below
  have HX := Lib.hid hx0
  have hz := cell_lt k0
  clear hW hx0
  go_upto_region 5 with (first
    | (go_at_call 6; (with_reducible refine (moved_any _).mono ?_); rintro e w1 ⟨rfl, o1, n1, rfl⟩)
    | (go_at_call 7; (with_reducible refine (calm_ok L _ _ _ l _ (Sl.below HS0.out (Ext.below (by simp (maxDischargeDepth := 60)))) HG.out L1 L2).mono ?_); rintro e w1 (⟨rfl, oA, nA, rfl⟩ | ⟨pb, mb, rfl, hq1, hx1, hb1, hb2⟩)))
  · go_wp2_with (go_at_call 7; (with_reducible refine (calm_ok L _ _ _ l _ (Sl.below HS0.out (Ext.below (by simp (maxDischargeDepth := 60)))) HG.out L1 L2).mono ?_); rintro e w2 (⟨rfl, oB, nB, rfl⟩ | ⟨pb', mb', rfl, _, ⟨oB, nB, rfl⟩, _, _⟩))
    all_goals
      go_ret
      exact ⟨rfl, HX.out.trans (by simp (maxDischargeDepth := 60))⟩
  have l1 : w0.heap.size ≤ pb := by simp at hb1; omega
  have l2 : w0.heap.size ≤ mb := by simp at hb2; omega
  have e1 : Ext w0 w1 := Ext.trans (by simp (maxDischargeDepth := 60)) hx1
  have E1 := Lib.hid e1
  have Q1 := Lib.hid hq1
  have pl := hq1.lt
  clear hx1 hb1 hb2 hq1
  go_upto_region 6 with (go_at_call 7; (with_reducible refine (calm_ok L _ _ _ l _ (Sl.below HS0.out E1.out.below) HG.out L1 L2).mono ?_); rintro e w2 (⟨rfl, oB, nB, rfl⟩ | ⟨pb', mb', rfl, hq2, hx2, hb1, hb2⟩))
  · go_wp2
    go_ret
    exact ⟨rfl, HX.out.trans (E1.out.trans (by simp (maxDischargeDepth := 60)))⟩
  have T : Two w0 w2 w.heap.size pb mb pb' mb' (calmP L l) X Y Z :=
    ⟨Q1.out.ext hx2, hq2, cell_ext (E1.out.trans hx2) k0, cell_ext (E1.out.trans hx2) k1, cell_ext (E1.out.trans hx2) k2, E1.out.trans hx2, l1, l2, by have := E1.out.below.size; omega, by have := E1.out.below.size; omega, ⟨by omega, by omega, by omega, by omega⟩, hz⟩
  have HT := Lib.hid T
  obtain ⟨_, hcm, hlv⟩ := calmP_is L1 L2 l
  generalize calmP L l = P at HT hcm hlv
  clear T hq2 hx2 hb1 hb2 k0 k1 k2 e1 Q1 E1 pl
  have x0 := HT.out.x0
  have x1 := HT.out.x1
  have x2 := HT.out.x2
  have xz := cell_lt x0
  have HC := Lib.hid hcm
  have HLV := Lib.hid hlv
  have hwf := hcm.wf
  clear hcm hlv
  by_cases hpf : Ch.placeFault ⟨X, Y, Z⟩ L = 0
  · have HF := Lib.hid hpf
    have E2 : errV (Ch.placeFault ⟨X, Y, Z⟩ L) = .nilIface := by rw [hpf]; rfl
    clear hpf
    by_cases hgood : P.lift = 0 ∧ P.slots ⟨X, Y, Z⟩ ≠ 0 ∧ (Z = 1 → P.slots ⟨X, Y, 0⟩ = 0)
    · obtain ⟨g1, g2, g3⟩ := hgood
      have hr := place_ok.mp HF.out
      dsimp only at hr
      obtain ⟨r1, r2, r3, r4, r5, r6⟩ := hr
      have r2' : X ≤ 4 := by omega
      have e1 : (P.lift != 0) = false := by simp [g1]
      have e2 : (P.slots ⟨X, Y, Z⟩ == 0) = false := by simpa using g2
      have hres : Ch.runGoals 80 P (Ch.fetch ⟨X, Y, Z⟩) = (P.fetched ⟨X, Y, Z⟩, true) := by
        obtain ⟨kf, hk, hrun⟩ := Ch.fetch_runs HC.out (x := ⟨X, Y, Z⟩) (by rw [HLV.out]; exact HF.out) g1 g2 (fun h => g3 h)
        exact hrun.ends (by omega)
      have HRES := Lib.hid hres
      have G1 := Lib.hid g1
      have G2 := Lib.hid g2
      have hZ : (Z == 1) = false ∨ ((Z == 1) = true ∧ (P.slots ⟨X, Y, 0⟩ != 0) = false) := by
        by_cases hz1 : Z = 1
        · exact Or.inr ⟨by simpa using hz1, by simp [g3 hz1]⟩
        · exact Or.inl (by simpa using hz1)
      clear g1 g2 g3 hres
      rcases hZ with e3 | ⟨e3, e4⟩
      all_goals
        go_upto_region 12 with (first
          | (go_at_call 14; (with_reducible refine (checkPlace_f _ _ _ _ _).mono ?_); rintro e w1 ⟨rfl, oC, nC, rfl⟩)
          | (go_at_call 8; (with_reducible refine (sense_any (HT.out.at1.ext (by simp (maxDischargeDepth := 60))) hwf).mono ?_); rintro e ws ⟨rfl, oS, nS, rfl⟩)
          | (go_at_call 16; (with_reducible refine (front_flat _ _ _ _).mono ?_); rintro e w1 ⟨rfl, o1, n1, rfl⟩)
          | (go_at_call 15; (with_reducible refine (at_any (HT.out.at1.ext (by simp (maxDischargeDepth := 60))) _ _ _).mono ?_); rintro e w1 ⟨rfl, o1, n1, rfl⟩))
        generalize hW : World.plus _ _ _ = w3
        have hx3 : Ext w2 w3 := by rw [← hW]; exact (by simp (maxDischargeDepth := 60))
        have s4 : w3.cell? ⟨w2.heap.size + (oC.size + oS.size), 4, none⟩ = some (vi P.lift) := by rw [← hW]; simp [go_sem]
        have s5 : w3.cell? ⟨w2.heap.size + (oC.size + oS.size), 5, none⟩ = some (vi P.bay) := by rw [← hW]; simp [go_sem]
        clear hW
        generalize hsb : w2.heap.size + (oC.size + oS.size) = sb at s4 s5 ⊢
        have hsb' : w2.heap.size ≤ sb := by omega
        have y0 := cell_ext hx3 x0
        have y1 := cell_ext hx3 x1
        have y2 := cell_ext hx3 x2
        have HX3 := Lib.hid hx3
        clear hx3 x0 x1 x2 hsb
        go_wp2_with (go_at_call 17; (with_reducible refine (fetch_flat X Y Z _ r5 r6 r1 r2').mono ?_); rintro e w4 hh; obtain ⟨ga, gn, gc, rfl, hsl, hgb, hx4⟩ := NewGoals.sl2 hh; clear hh)
        go_at_call 11
        have pl1 := HT.out.at1.lt
        have pl2 := HT.out.at2.lt
        have bxl := HT.out.bx
        have a1 := HT.out.l1
        have a2 := HT.out.l2
        have sz3 := HX3.out.below.size
        refine (run_any (HT.out.at1.ext (HX3.out.trans hx4)) hwf _ ga gn gc hsl (fun b o e => by have := hgb b o e; constructor <;> omega) 80 (by decide)).mono ?_
        rintro e w5 ⟨he, hq5, hk5⟩
        have hw5 := run_wf 80 P (Ch.fetch ⟨X, Y, Z⟩) hwf
        rw [HRES.out] at he hq5 hw5
        subst he
        have v0 := cell_kept hk5 (cell_ext hx4 y0) (fun c => by rcases c with c | c <;> omega)
        have v1 := cell_kept hk5 (cell_ext hx4 y1) (fun c => by rcases c with c | c <;> omega)
        have v2 := cell_kept hk5 (cell_ext hx4 y2) (fun c => by rcases c with c | c <;> omega)
        have u4 := cell_kept hk5 (cell_ext hx4 s4) (fun c => by rcases c with c | c <;> omega)
        have u5 := cell_kept hk5 (cell_ext hx4 s5) (fun c => by rcases c with c | c <;> omega)
        have vz := cell_lt v0
        have uz := cell_lt u4
        have HQ2 := Lib.hid ((HT.out.at2.ext (HX3.out.trans hx4)).kept hk5 (fun c => by have := HT.out.n1; rcases c with c | c; exact this.1 c; exact this.2.1 c) (fun c => by have := HT.out.n1; rcases c with c | c; exact this.2.2.1 c; exact this.2.2.2 c))
        have f1 : (P.fetched ⟨X, Y, Z⟩).lift = P.slots ⟨X, Y, Z⟩ := rfl
        have f2 : (P.fetched ⟨X, Y, Z⟩).slots ⟨X, Y, Z⟩ = 0 := by simp [Ch.Plant.fetched, Ch.setSlot]
        have f3 : (P.fetched ⟨X, Y, Z⟩).ext = 0 := HC.out.ex
        have f4 : (P.fetched ⟨X, Y, Z⟩).bay = P.bay := rfl
        have f5 : (P.fetched ⟨X, Y, Z⟩).door = false := HC.out.dr
        have f6 : (P.fetched ⟨X, Y, Z⟩).hurt = false := HC.out.hh
        have HBUT : Hid (∀ s : Ch.Place, s ≠ ⟨X, Y, Z⟩ → P.slots s = (P.fetched ⟨X, Y, Z⟩).slots s) := by
          intro s hs
          simp [Ch.Plant.fetched, Ch.setSlot, hs]
        have HB5 : Hid (Below w.heap.size w w5) := by
          have hw0 := HX.out.below.size
          refine below_kept ((HX.out.trans (HT.out.ext.trans (HX3.out.trans hx4))).below) (Nat.le_refl _) hk5 (fun i hi => ?_)
          rcases hi with rfl | rfl <;> omega
        have HQ5 := Lib.hid hq5
        generalize P.fetched ⟨X, Y, Z⟩ = P' at HQ5 f1 f2 f3 f4 f5 f6 HBUT hw5
        clear hq5 hk5 hsl hgb hx4 y0 y1 y2 s4 s5 HRES pl1 pl2 bxl a1 a2 sz3 e1 e2
        go_wp2_with (first
          | (go_at_call 8; (with_reducible refine (sense_any (HQ5.out.ext (by simp (maxDischargeDepth := 60))) hw5).mono ?_); rintro e ws ⟨rfl, oT, nT, rfl⟩)
          | (go_at_call 15; (with_reducible refine (at_any (HQ5.out.ext (by simp (maxDischargeDepth := 60))) _ _ _).mono ?_); rintro e w1 ⟨rfl, o1, n1, rfl⟩)
          | (go_at_call 12; (with_reducible refine (but_any (HQ2.out.ext (by simp (maxDischargeDepth := 60))) (HQ5.out.ext (by simp (maxDischargeDepth := 60))) X Y Z HBUT.out).mono ?_); rintro e w1 ⟨rfl, o1, n1, rfl⟩)
          | (go_at_call 13; (with_reducible refine (hurt_any (HQ5.out.ext (by simp (maxDischargeDepth := 60)))).mono ?_); rintro e w1 ⟨rfl, o1, n1, rfl⟩))
        go_ret
        go_light
        refine ⟨by simp, HB5.out |> Ext.of_below |>.trans (by simp (maxDischargeDepth := 60))⟩
    · have HB := Lib.hid hgood
      clear hgood
      go_wp2_with (first
        | (go_at_call 14; (with_reducible refine (checkPlace_f _ _ _ _ _).mono ?_); rintro e w1 ⟨rfl, o1, n1, rfl⟩)
        | (go_at_call 8; (with_reducible refine (sense_any (HT.out.at1.ext (by simp (maxDischargeDepth := 60))) hwf).mono ?_); rintro e w1 ⟨rfl, o1, n1, rfl⟩)
        | (go_at_call 16; (with_reducible refine (front_flat _ _ _ _).mono ?_); rintro e w1 ⟨rfl, o1, n1, rfl⟩)
        | (go_at_call 15; (with_reducible refine (at_any (HT.out.at1.ext (by simp (maxDischargeDepth := 60))) _ _ _).mono ?_); rintro e w1 ⟨rfl, o1, n1, rfl⟩))
      all_goals
        first
        | (go_ret; exact ⟨rfl, HX.out.trans (HT.out.ext.trans (by simp (maxDischargeDepth := 60)))⟩)
        | (exfalso
           have hB := HB.out
           simp only [beq_iff_eq, bne_iff_ne, ne_eq, beq_eq_false_iff_ne, bne_eq_false_iff_eq] at *
           grind)
  · have E2 : errV (Ch.placeFault ⟨X, Y, Z⟩ L) = .iface 71 (vi 1) := by rw [place_bad hpf]; rfl
    clear hpf
    go_wp2_with (go_at_call 14; (with_reducible refine (checkPlace_f _ _ _ _ _).mono ?_); rintro e w1 ⟨rfl, o1, n1, rfl⟩)
    go_ret
    exact ⟨rfl, HX.out.trans (HT.out.ext.trans (by simp (maxDischargeDepth := 60)))⟩

set_option maxRecDepth 100000 in
set_option maxHeartbeats 4000000 in
theorem topFetch_bad (L : Int) (X Y Z : Int) (a : Option Addr) (n cap : Nat) (l : List RAct) (w : World) (h : Sl w 12 ractCells l a n cap) (hg : ∀ x ∈ l, x.Good) (hL : L < 1 ∨ 4 < L) :
    Calls Try.prog 4 #[vi L, .slice a n cap, (.agg #[vi X, vi Y, vi Z])] w fun e w' => e = .returned (.bool true) ∧ Ext w w' := by
  have HS := Lib.hid h
  have HG := Lib.hid hg
  have HL := Lib.hid hL
  clear h hg hL
  go_enter Try.func4, Try.ntmps4
  go_wp2_with (first
    | (go_at_call 6; (with_reducible refine (moved_any _).mono ?_); rintro e w1 ⟨rfl, o1, n1, rfl⟩)
    | (go_at_call 7; (with_reducible refine (calm_bad L _ _ _ l _ (Sl.below HS.out (Ext.below (by simp (maxDischargeDepth := 60)))) HG.out HL.out).mono ?_); rintro e w1 ⟨rfl, oA, nA, rfl⟩))
  go_ret
  exact ⟨rfl, (by simp (maxDischargeDepth := 60))⟩

theorem topFetch_walk (L : Int) (x : Ch.Place) {a : Option Addr} {n cap : Nat} {l : List RAct} {w : World} (h : Sl w 12 ractCells l a n cap) (hg : ∀ x ∈ l, x.Good) :
    Calls Try.prog 4 #[vi L, .slice a n cap, placeA x] w fun e w' => e = .returned (.bool true) ∧ Ext w w' := by
  obtain ⟨X, Y, Z⟩ := x
  by_cases hL : L < 1 ∨ 4 < L
  · exact topFetch_bad L X Y Z a n cap l w h hg hL
  · exact topFetch_ok L X Y Z a n cap l w h hg (by omega) (by omega)
end Go.Proofs.Ytplomeacjbkgnac
