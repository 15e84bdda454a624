/-
  The walk of TopPick.
-/
import Derived.Test.YtplomeacjbkgnabLightBook
import Derived.Test.YtplomeacjbkgnabPickLaw
import Derived.Test.YtplomeacjbkgnabLevels
import Derived.Test.YtplomeacjbkgnabKept
namespace Go.Proofs.Ytplomeacjbkgnab
open Go.RowKit

theorem check_at (V : Value) (a : Option Addr) (n cap : Nat) (l : List Ch.Size) (w : World) (h : Sl w 3 sizeCells l a n cap) (hv : Hid (errV (Ch.levelsFault l) = V)) : Calls Try.prog 18 #[.slice a n cap] w fun e w' => e = .returned V ∧ Ext w w' := by
  have := check_any a n cap l w h
  rw [hv.out] at this
  exact this

theorem bookcheck_at (V : Value) (last levels : Int) (a1 : Option Addr) (m1 c1 : Nat) (a2 : Option Addr) (m2 c2 : Nat) (l : List Ch.Stay) (js : List Ch.Job) (w : World) (h : Sl w 8 stayCells l a1 m1 c1) (h2 : Sl w 2 jobCells js a2 m2 c2) (hl4 : levels ≤ 4) (hv : Hid (errV (Ch.bookFault ⟨last, l, js⟩ levels) = V)) :
    Calls Try.prog 37 #[bookA last a1 m1 c1 a2 m2 c2, vi levels] w fun e w' => e = .returned V ∧ Ext w w' := by
  have := bookcheck_any last levels a1 m1 c1 a2 m2 c2 l js w h h2 hl4
  rw [hv.out] at this
  exact this

theorem fits_at (F : Bool) (a b c a' b' c' : Int) (w : World) (hf : Hid (Ch.fits ⟨a, b, c⟩ ⟨a', b', c'⟩ = F)) : Calls Try.prog 17 #[.agg #[vi a, vi b, vi c], .agg #[vi a', vi b', vi c']] w fun e w' => e = .returned (.bool F) ∧ Ext w w' := by
  have := fits_f a b c a' b' c' w
  rw [hf.out] at this
  exact this

theorem levels_len {l : List Ch.Size} (h : Ch.levelsFault l = 0) : 1 ≤ l.length ∧ l.length ≤ 4 := by
  unfold Ch.levelsFault at h
  split at h
  · cases h
  · omega

theorem errV_ne {n : Int} (h : ¬ n = 0) : ∃ E, Hid (errV n = .iface 100 (vi E)) := ⟨n, by unfold Hid errV; rw [if_neg h]⟩

theorem put3_far {a : World} {R b o : Nat} {x y z v : Value} (h : b ≠ R) (c : a.cell? ⟨b, o, none⟩ = some v) : (((a.setCell ⟨R, 0, none⟩ x).setCell ⟨R, 1, none⟩ y).setCell ⟨R, 2, none⟩ z).cell? ⟨b, o, none⟩ = some v := by
  have n : ∀ i, (⟨R, i, none⟩ : Addr) ≠ ⟨b, o, none⟩ := by intro i e; cases e; exact h rfl
  rw [World.cell?_setCell_other (h := n 2), World.cell?_setCell_other (h := n 1), World.cell?_setCell_other (h := n 0)]
  exact c

set_option maxRecDepth 100000 in
set_option maxHeartbeats 4000000 in
theorem topPick_walk (last id lo hi he : Int) (a1 : Option Addr) (m1 c1 : Nat) (a2 : Option Addr) (m2 c2 : Nat) (aL : Option Addr) (nL cL : Nat) (l : List Ch.Stay) (js : List Ch.Job) (ls : List Ch.Size) (w : World)
    (h : Sl w 8 stayCells l a1 m1 c1) (h2 : Sl w 2 jobCells js a2 m2 c2) (hL : Sl w 3 sizeCells ls aL nL cL) :
    Calls Try.prog 8 #[bookA last a1 m1 c1 a2 m2 c2, .slice aL nL cL, .agg #[vi id, vi lo, vi hi, vi he]] w fun e w' => e = .returned (.bool true) ∧ Ext w w' := by
  have b0 := hL.bound
  have bs0 := h.bound
  have bj0 := h2.bound
  have HF := Lib.hid h
  have HJ := Lib.hid h2
  have HL := Lib.hid hL
  have E3 := Lib.hid hL.len
  have HP0 : Hid (pickV (Ch.pick ⟨0, [], []⟩ [⟨99, 99, 99⟩] ⟨1, ⟨0, 0, 0⟩⟩) = .tuple #[.agg #[vi 1, vi 0, vi 1], .bool true]) := by unfold Hid; rfl
  have hq0 : ∀ w, (Go.binOp .neq 25 (.agg #[vi 1, vi 0, vi 1]) (.agg #[vi 1, vi 0, vi 1])).run Try.prog w = .ok (.bool false) w := fun w => by rw [neqStruct w (eqPlace w 9998 ⟨1, 0, 1⟩ ⟨1, 0, 1⟩)]; rfl
  clear h h2 hL
  go_enter Try.func8, Try.ntmps8
  go_upto_region 4 with (first
    | (go_at_call 40; refine (one_any _).mono ?_; rintro e wo ⟨ob, rfl, hone, oO, nO, rfl⟩)
    | (go_at_call 39; refine (pick_any 0 1 0 0 0 none 0 0 none 0 0 _ 1 1 [] [] [⟨99, 99, 99⟩] _ (Sl.nil _ _ _) (Sl.nil _ _ _) (Sl.below hone (Ext.below (by simp (maxDischargeDepth := 60)))) (by decide) (by decide)).mono ?_; rintro e wp ⟨hee, oQ, nQ, rfl⟩; rw [HP0.out] at hee; subst hee))
  generalize hT : w.heap.size + 1 + 1 + (oO.size + oQ.size) = T
  generalize hW : World.alloc _ _ = w0
  have k0 : w0.cell? ⟨w.heap.size, 0, none⟩ = some (vi last) := by rw [← hW]; simp [go_sem]
  have k1 : w0.cell? ⟨w.heap.size, 1, none⟩ = some (.slice a1 m1 c1) := by rw [← hW]; simp [go_sem]
  have k2 : w0.cell? ⟨w.heap.size, 2, none⟩ = some (.slice a2 m2 c2) := by rw [← hW]; simp [go_sem]
  have q0 : w0.cell? ⟨w.heap.size + 1, 0, none⟩ = some (vi id) := by rw [← hW]; simp [go_sem]
  have q1 : w0.cell? ⟨w.heap.size + 1, 1, none⟩ = some (vi lo) := by rw [← hW]; simp [go_sem]
  have q2 : w0.cell? ⟨w.heap.size + 1, 2, none⟩ = some (vi hi) := by rw [← hW]; simp [go_sem]
  have q3 : w0.cell? ⟨w.heap.size + 1, 3, none⟩ = some (vi he) := by rw [← hW]; simp [go_sem]
  have r0 : w0.cell? ⟨T, 0, none⟩ = some (vi 1) := by rw [← hW, ← hT]; simp [go_sem]
  have r1 : w0.cell? ⟨T, 1, none⟩ = some (vi 0) := by rw [← hW, ← hT]; simp [go_sem]
  have r2 : w0.cell? ⟨T, 2, none⟩ = some (vi 1) := by rw [← hW, ← hT]; simp [go_sem]
  have fz : ∀ i, w0.frozen? ⟨T, i, none⟩ = false := by intro i; rw [← hW, ← hT]; simp [go_sem]
  have hx : Ext w w0 := by rw [← hW]; exact (by simp (maxDischargeDepth := 60))
  have hT2 : w.heap.size + 2 ≤ T := by omega
  have HX := Lib.hid hx
  have HS := Lib.hid (Sl.below HF.out hx.below)
  have HK := Lib.hid (Sl.below HJ.out hx.below)
  have HZ := Lib.hid (Sl.below HL.out hx.below)
  have z1 := cell_lt k0
  have z2 := cell_lt q1
  have z3 := cell_lt r0
  have FZ := Lib.hid fz
  clear hW hx fz hT
  cases hb : decide (m1 ≤ 20 ∧ m2 ≤ 12)
  · have HB := Lib.hid hb
    clear hb
    go_wp2_with (first | (go_at_call 36; (with_reducible refine (lightBook_any false _ _ _ _ _ _ _ _ HB).mono ?_); rintro e w1 ⟨rfl, o1, n1, rfl⟩))
    go_ret
    exact ⟨rfl, HX.out.trans (by simp (maxDischargeDepth := 60))⟩
  · have HB := Lib.hid hb
    clear hb
    by_cases h6 : 6 < nL
    · have i6 : (6 : Int) < (nL : Int) := by omega
      go_wp2_with (first | (go_at_call 36; (with_reducible refine (lightBook_any true _ _ _ _ _ _ _ _ HB).mono ?_); rintro e w1 ⟨rfl, o1, n1, rfl⟩))
      go_ret
      exact ⟨rfl, HX.out.trans (by simp (maxDischargeDepth := 60))⟩
    · have i6 : (nL : Int) ≤ 6 := by omega
      have i6' : ¬ ((6 : Int) < (nL : Int)) := by omega
      by_cases hlf : Ch.levelsFault ls = 0
      · have HLV : Hid (errV (Ch.levelsFault ls) = .nilIface) := by unfold Hid; rw [hlf]; rfl
        have n1 := levels_len hlf
        rw [E3.out] at n1
        have nn1 := n1.1
        have nn4 := n1.2
        have i4 : (nL : Int) ≤ 4 := by omega
        have i1 : (1 : Int) ≤ (nL : Int) := by omega
        clear hlf n1
        by_cases hbf : Ch.bookFault ⟨last, l, js⟩ (nL : Int) = 0
        · have HBF : Hid (errV (Ch.bookFault ⟨last, l, js⟩ (nL : Int)) = .nilIface) := by unfold Hid; rw [hbf]; rfl
          clear hbf
          go_upto_region 6 with (first | (go_at_call 36; (with_reducible refine (lightBook_any true _ _ _ _ _ _ _ _ HB).mono ?_); rintro e w1 ⟨rfl, o1, n1, rfl⟩) | (go_at_call 18; (with_reducible refine (check_at _ _ _ _ ls _ (Sl.below HZ.out (Ext.below (by simp (maxDischargeDepth := 60)))) HLV).mono ?_); rintro e w1 ⟨rfl, o1, n1, rfl⟩) | (go_at_call 37; (with_reducible refine (bookcheck_at _ last (nL : Int) a1 m1 c1 a2 m2 c2 l js _ (Sl.below HS.out (Ext.below (by simp (maxDischargeDepth := 60)))) (Sl.below HK.out (Ext.below (by simp (maxDischargeDepth := 60)))) i4 HBF).mono ?_); rintro e w1 ⟨rfl, o1, n1, rfl⟩))
          generalize hW : World.plus _ _ _ = wa
          have hxa : Ext w0 wa := by rw [← hW]; exact (by simp (maxDischargeDepth := 60))
          clear hW
          have ka0 := ext_cell hxa k0
          have ka1 := ext_cell hxa k1
          have ka2 := ext_cell hxa k2
          have qa0 := ext_cell hxa q0
          have qa1 := ext_cell hxa q1
          have qa2 := ext_cell hxa q2
          have qa3 := ext_cell hxa q3
          have ra0 := ext_cell hxa r0
          have ra1 := ext_cell hxa r1
          have ra2 := ext_cell hxa r2
          have y0 := FZ.out 0
          have y1 := FZ.out 1
          have y2 := FZ.out 2
          have ya0 := xfree hxa z3 y0
          have ya1 := xfree hxa z3 y1
          have ya2 := xfree hxa z3 y2
          have za1 := cell_lt ka0
          have za2 := cell_lt qa1
          have za3 := cell_lt ra0
          have HXA := Lib.hid hxa
          clear hxa
          obtain ⟨px, py, pz, bb, HPV⟩ : ∃ px py pz bb, Hid (pickV (Ch.pick ⟨last, l, js⟩ ls ⟨id, ⟨lo, hi, he⟩⟩) = .tuple #[.agg #[vi px, vi py, vi pz], .bool bb]) := ⟨_, _, _, _, rfl⟩
          have HPK : Hid (Ch.pick ⟨last, l, js⟩ ls ⟨id, ⟨lo, hi, he⟩⟩ = (Ch.places (nL : Int)).find? (doP l js ls ⟨lo, hi, he⟩)) := by unfold Hid; rw [pick_doP, E3.out]
          go_upto_region 7 with (go_at_call 39; refine (pick_any last id lo hi he a1 m1 c1 a2 m2 c2 aL nL cL l js ls _ (Sl.below HS.out (HXA.out.trans (by simp (maxDischargeDepth := 60))).below) (Sl.below HK.out (HXA.out.trans (by simp (maxDischargeDepth := 60))).below) (Sl.below HZ.out (HXA.out.trans (by simp (maxDischargeDepth := 60))).below) nn1 nn4).mono ?_; rintro e wp ⟨hee, oQ2, nQ2, rfl⟩; rw [HPV.out] at hee; subst hee)
          obtain ⟨p0, p1, p2, px'⟩ := put3 (w := w) (x := .int .i64 px) (y := .int .i64 py) (z := .int .i64 pz) (HX.out.trans (HXA.out.trans (show Ext wa (wa.plus oQ2 nQ2) from (by simp (maxDischargeDepth := 60))))) (show w.heap.size ≤ T by omega) (ext_cell (w := wa) (by simp (maxDischargeDepth := 60)) ra0) (ext_cell (w := wa) (by simp (maxDischargeDepth := 60)) ra1) (ext_cell (w := wa) (by simp (maxDischargeDepth := 60)) ra2)
          have kb0 := put3_far (x := .int .i64 px) (y := .int .i64 py) (z := .int .i64 pz) (show w.heap.size ≠ T by omega) (ext_cell (w := wa) (show Ext wa (wa.plus oQ2 nQ2) from (by simp (maxDischargeDepth := 60))) ka0)
          have kb1 := put3_far (x := .int .i64 px) (y := .int .i64 py) (z := .int .i64 pz) (show w.heap.size ≠ T by omega) (ext_cell (w := wa) (show Ext wa (wa.plus oQ2 nQ2) from (by simp (maxDischargeDepth := 60))) ka1)
          have kb2 := put3_far (x := .int .i64 px) (y := .int .i64 py) (z := .int .i64 pz) (show w.heap.size ≠ T by omega) (ext_cell (w := wa) (show Ext wa (wa.plus oQ2 nQ2) from (by simp (maxDischargeDepth := 60))) ka2)
          have qb1 := put3_far (x := .int .i64 px) (y := .int .i64 py) (z := .int .i64 pz) (show w.heap.size + 1 ≠ T by omega) (ext_cell (w := wa) (show Ext wa (wa.plus oQ2 nQ2) from (by simp (maxDischargeDepth := 60))) qa1)
          have qb2 := put3_far (x := .int .i64 px) (y := .int .i64 py) (z := .int .i64 pz) (show w.heap.size + 1 ≠ T by omega) (ext_cell (w := wa) (show Ext wa (wa.plus oQ2 nQ2) from (by simp (maxDischargeDepth := 60))) qa2)
          have qb3 := put3_far (x := .int .i64 px) (y := .int .i64 py) (z := .int .i64 pz) (show w.heap.size + 1 ≠ T by omega) (ext_cell (w := wa) (show Ext wa (wa.plus oQ2 nQ2) from (by simp (maxDischargeDepth := 60))) qa3)
          generalize hWB : World.setCell (World.setCell (World.setCell _ _ _) _ _) _ _ = wb at p0 p1 p2 px' kb0 kb1 kb2 qb1 qb2 qb3 ⊢
          clear hWB k0 k1 k2 q0 q1 q2 q3 r0 r1 r2 ka0 ka1 ka2 qa0 qa1 qa2 qa3 ra0 ra1 ra2 y0 y1 y2 ya0 ya1 ya2 za1 za2 za3 z1 z2 z3
          have HXB := Lib.hid px'
          clear px'
          go_upto_region 9 with (go_at_call 13; refine (places_any _ _ i1 i4).mono ?_; rintro e wc hh; obtain ⟨pa, pn, pc, rfl, hpl, hxc⟩ := NewPlaces.sl hh; clear hh)
          have HXC := Lib.hid (HXB.out.trans hxc)
          have kc0 := ext_cell hxc kb0
          have kc1 := ext_cell hxc kb1
          have kc2 := ext_cell hxc kb2
          have qc1 := ext_cell hxc qb1
          have qc2 := ext_cell hxc qb2
          have qc3 := ext_cell hxc qb3
          have tc0 := ext_cell hxc p0
          have tc1 := ext_cell hxc p1
          have tc2 := ext_cell hxc p2
          have zc1 := cell_lt kc0
          have zc2 := cell_lt qc1
          have zc3 := cell_lt tc0
          have hpb := hpl.bound
          have HPN := Lib.hid hpl.len
          have HPL0 := Lib.hid hpl
          have HSC := Lib.hid (Sl.below HF.out HXC.out.below)
          have HKC := Lib.hid (Sl.below HJ.out HXC.out.below)
          have HZC := Lib.hid (Sl.below HL.out HXC.out.below)
          clear hxc hpl kb0 kb1 kb2 qb1 qb2 qb3 p0 p1 p2
          go_loopw [10] (fun i wr => ∃ k : Nat, k ≤ pn ∧ i = .int .i64 k ∧ Hid ((Ch.places (nL : Int)).find? (doP l js ls ⟨lo, hi, he⟩) = ((Ch.places (nL : Int)).drop k).find? (doP l js ls ⟨lo, hi, he⟩)) ∧ Ext wc wr) (fun i _ => pn - (intOf i).toNat)
          case atStart => exact ⟨0, by omega, rfl, by simp [Hid], (by simp (maxDischargeDepth := 60))⟩
          case round =>
            obtain ⟨k, hk, rfl, HT, o, m, rfl⟩ := hrel
            by_cases hlt : k < pn
            · obtain ⟨b, q, x, rfl, hx, dx⟩ := HPL0.out.get hlt
              have dx := at3 dx
              have hq := cell_lt dx.1
              have HXX := Lib.hid hx
              have hok := Ch.places_ok (n := (nL : Int)) i4 x (List.mem_of_getElem? hx)
              have hokk := Ch.placeFault_iff.1 hok
              obtain ⟨u, v, z⟩ := x
              dsimp only at dx hokk
              obtain ⟨j, rfl⟩ : ∃ j : Nat, u = (j : Int) + 1 := ⟨(u - 1).toNat, by omega⟩
              have hjl : j < nL := by omega
              have hj0 : (0 : Int) ≤ (j : Int) := by omega
              have hj1 : (j : Int) < (nL : Int) := by omega
              have hw1 : IntKind.i64.wrap (j : Int) = (j : Int) := IntWalk.i64_in _ (by omega)
              have hw2 : IntKind.i64.wrap ((j : Int) + 1 - 1) = (j : Int) := by rw [show (j : Int) + 1 - 1 = j by omega]; exact hw1
              have hkp : (k : Int) < (pn : Int) := by omega
              obtain ⟨lb, lq, s, rfl, hs, ds⟩ := HZC.out.get hjl
              have ds := at3 ds
              have hlb := cell_lt ds.1
              obtain ⟨s0, s1, s2⟩ := s
              dsimp only at ds
              generalize hF : Ch.fits ⟨lo, hi, he⟩ ⟨s0, s1, s2⟩ = F
              have HD : Hid (freeTo l js F ⟨(j : Int) + 1, v, z⟩ l.length = doP l js ls ⟨lo, hi, he⟩ ⟨(j : Int) + 1, v, z⟩) := by
                unfold Hid
                rw [← free_do, ← hF]
                dsimp only
                rw [show ((j : Int) + 1 - 1).toNat = j by omega, List.getD_eq_getElem?_getD, hs]
                rfl
              have HFF := Lib.hid hF
              clear hx hok hokk hs hF
              go_upto_region 11 with fail
              (refine wp_region_ext (by kernel_rfl) (by kernel_rfl) ?_; (repeat (first | go_big_quiet_step ((first | (intro _; go_at_call 17; exact ext_callG (fits_at F _ _ _ _ _ _ _ HFF) (by rintro w' ⟨o', n', rfl⟩; exact ⟨_, n', by first | (simp only [plus_plus]; rfl) | (simp only [plus_plus, Array.append_assoc]; rfl) | rfl⟩)))) | quiet_step ((first | (intro _; go_at_call 17; exact ext_callG (fits_at F _ _ _ _ _ _ _ HFF) (by rintro w' ⟨o', n', rfl⟩; exact ⟨_, n', by first | (simp only [plus_plus]; rfl) | (simp only [plus_plus, Array.append_assoc]; rfl) | rfl⟩)))))); refine wpQuiet_nil ?_; intro _ hw'; obtain ⟨oq, nq, hw''⟩ := hw'; subst hw'')
              go_wp2
              go_loopw [11, 12] (fun fv i wk => ∃ kk : Nat, kk ≤ m1 ∧ i = .int .i64 kk ∧ fv = .bool (freeTo l js F ⟨(j : Int) + 1, v, z⟩ kk) ∧ Ext wc wk) (fun _ i _ => m1 - (intOf i).toNat)
              case atStart => exact ⟨0, by omega, rfl, by simp [freeTo], (by simp (maxDischargeDepth := 60))⟩
              case round =>
                obtain ⟨kk, hkk, rfl, rfl, o', m', rfl⟩ := hrel
                by_cases hlk : kk < m1
                · obtain ⟨sb, sq, st, rfl, hst, dst⟩ := HSC.out.get hlk
                  have dst := at8 dst
                  have hsb := cell_lt dst.1
                  obtain ⟨t, ⟨ci, ⟨cx, cy, cz⟩⟩, ⟨h0, h1, h2⟩⟩ := st
                  dsimp only at dst
                  have HSS := Lib.hid hst
                  have hkj : (kk : Int) < (m1 : Int) := by omega
                  clear hst
                  cases hv : freeTo l js F ⟨(j : Int) + 1, v, z⟩ kk
                  · have HG : Hid ((freeTo l js F ⟨(j : Int) + 1, v, z⟩ kk && (!decide ((⟨h0, h1, h2⟩ : Ch.Place) = ⟨(j : Int) + 1, v, z⟩) && !decide ((⟨h0, h1, h2⟩ : Ch.Place) = Ch.front ⟨(j : Int) + 1, v, z⟩))) = false) := by unfold Hid; rw [hv]; rfl
                    go_upto_region 16 with fail
                    generalize hW : World.alloc _ _ = wd0
                    have hd0 : wd0.cell? ⟨wc.heap.size + o'.size, 0, none⟩ = some (vi h0) := by rw [← hW]; simp [go_sem]
                    have hd1 : wd0.cell? ⟨wc.heap.size + o'.size, 1, none⟩ = some (vi h1) := by rw [← hW]; simp [go_sem]
                    have hd2 : wd0.cell? ⟨wc.heap.size + o'.size, 2, none⟩ = some (vi h2) := by rw [← hW]; simp [go_sem]
                    have hxd : Ext wc wd0 := by rw [← hW]; exact (by simp (maxDischargeDepth := 60))
                    generalize wc.heap.size + o'.size = D at hd0 hd1 hd2 ⊢
                    clear hW
                    have HXD := Lib.hid hxd
                    have kd0 := ext_cell hxd kc0
                    have kd1 := ext_cell hxd kc1
                    have kd2 := ext_cell hxd kc2
                    have dp0 := ext_cell hxd dx.1
                    have dp1 := ext_cell hxd dx.2.1
                    have dp2 := ext_cell hxd dx.2.2
                    have ds0 := ext_cell hxd dst.1
                    have zd0 := cell_lt hd0
                    have zd1 := cell_lt kd0
                    have zd2 := cell_lt dp0
                    have zd3 := cell_lt ds0
                    clear hxd
                    (refine wp_region_ext (by kernel_rfl) (by kernel_rfl) ?_; (repeat (first | go_big_quiet_step ((first | (intro _; go_at_call 16; exact ext_callG (front_f _ _ _ _) (by rintro w' ⟨o', n', rfl⟩; exact ⟨_, n', by first | (simp only [plus_plus]; rfl) | (simp only [plus_plus, Array.append_assoc]; rfl) | rfl⟩)))) | quiet_step ((first | (intro _; go_at_call 16; exact ext_callG (front_f _ _ _ _) (by rintro w' ⟨o', n', rfl⟩; exact ⟨_, n', by first | (simp only [plus_plus]; rfl) | (simp only [plus_plus, Array.append_assoc]; rfl) | rfl⟩)))))); refine wpQuiet_nil ?_; intro _ hw'; obtain ⟨oq, nq, hw''⟩ := hw'; subst hw'')
                    go_wp2
                    go_loopw [11, 14] (fun fv i wj => ∃ nn : Nat, nn ≤ m2 ∧ i = .int .i64 nn ∧ fv = .bool (freeJobs js false ⟨(j : Int) + 1, v, z⟩ ⟨t, ⟨ci, ⟨cx, cy, cz⟩⟩, ⟨h0, h1, h2⟩⟩ nn) ∧ Ext wd0 wj) (fun _ i _ => m2 - (intOf i).toNat)
                    case atStart => exact ⟨0, by omega, rfl, by simp [freeJobs], (by simp (maxDischargeDepth := 60))⟩
                    case round =>
                      obtain ⟨nn, hnn, rfl, rfl, o2, m2', rfl⟩ := hrel
                      by_cases hln : nn < m2
                      · obtain ⟨jb, jq, jj, rfl, hjj, dj⟩ := HKC.out.get hln
                        have dj := at2 dj
                        obtain ⟨jt, jf⟩ := jj
                        dsimp only at dj
                        have dj0 := ext_cell HXD.out dj.1
                        have dj1 := ext_cell HXD.out dj.2
                        have zj := cell_lt dj0
                        have HST := Lib.hid (freeJobs_step (f := false) (p := ⟨(j : Int) + 1, v, z⟩) (s := ⟨t, ⟨ci, ⟨cx, cy, cz⟩⟩, ⟨h0, h1, h2⟩⟩) hjj)
                        have hnj : (nn : Int) < (m2 : Int) := by omega
                        clear hjj dj
                        cases hv2 : freeJobs js false ⟨(j : Int) + 1, v, z⟩ ⟨t, ⟨ci, ⟨cx, cy, cz⟩⟩, ⟨h0, h1, h2⟩⟩ nn
                        · have HV2 : Hid ((freeJobs js false ⟨(j : Int) + 1, v, z⟩ ⟨t, ⟨ci, ⟨cx, cy, cz⟩⟩, ⟨h0, h1, h2⟩⟩ nn && (!decide ((⟨jt, jf⟩ : Ch.Job) = ⟨t, false⟩) || !decide (Ch.front ⟨h0, h1, h2⟩ = ⟨(j : Int) + 1, v, z⟩))) = false) := by unfold Hid; rw [hv2]; rfl
                          go_upto_region 20 with fail
                          (refine wp_region_ext (by kernel_rfl) (by kernel_rfl) ?_; (repeat (first | go_big_quiet_step ((first | (intro _; go_at_call 16; exact ext_callG (front_f _ _ _ _) (by rintro w' ⟨o', n', rfl⟩; exact ⟨_, n', by first | (simp only [plus_plus]; rfl) | (simp only [plus_plus, Array.append_assoc]; rfl) | rfl⟩)))) | quiet_step ((first | (intro _; go_at_call 16; exact ext_callG (front_f _ _ _ _) (by rintro w' ⟨o', n', rfl⟩; exact ⟨_, n', by first | (simp only [plus_plus]; rfl) | (simp only [plus_plus, Array.append_assoc]; rfl) | rfl⟩)))))); refine wpQuiet_nil ?_; intro _ hw'; obtain ⟨oq, nq, hw''⟩ := hw'; subst hw'')
                          go_wp2
                          go_roundw
                          case rel => first | exact ⟨nn + 1, by omega, by go_num, congrArg Value.bool (HST.out.trans HV2.out).symm, (by simp (maxDischargeDepth := 60))⟩ | (repeat apply Exists.intro; refine ⟨?_, rfl⟩; exact ⟨nn + 1, by omega, by go_num, congrArg Value.bool (HST.out.trans HV2.out).symm, (by simp (maxDischargeDepth := 60))⟩)
                          case measure => simp [intOf]; omega
                        · by_cases e3 : (⟨jt, jf⟩ : Ch.Job) = ⟨t, false⟩
                          · have hq3 : ∀ w, (Go.binOp .neq 74 (.agg #[vi jt, .bool jf]) (.agg #[vi t, .bool false])).run Try.prog w = .ok (.bool false) w := fun w => by rw [neqStruct w (eqJob w 9998 ⟨jt, jf⟩ ⟨t, false⟩)]; simp [e3]
                            by_cases e4 : (⟨h0, h1, 0⟩ : Ch.Place) = ⟨(j : Int) + 1, v, z⟩
                            · have hq4 : ∀ w, (Go.binOp .neq 25 (.agg #[vi h0, vi h1, vi 0]) (.agg #[vi ((j : Int) + 1), vi v, vi z])).run Try.prog w = .ok (.bool false) w := fun w => by rw [neqStruct w (eqPlace w 9998 ⟨h0, h1, 0⟩ ⟨(j : Int) + 1, v, z⟩)]; simp [e4]
                              have HV2 : Hid ((freeJobs js false ⟨(j : Int) + 1, v, z⟩ ⟨t, ⟨ci, ⟨cx, cy, cz⟩⟩, ⟨h0, h1, h2⟩⟩ nn && (!decide ((⟨jt, jf⟩ : Ch.Job) = ⟨t, false⟩) || !decide (Ch.front ⟨h0, h1, h2⟩ = ⟨(j : Int) + 1, v, z⟩))) = false) := by unfold Hid; rw [hv2, decide_eq_true e3, show Ch.front ⟨h0, h1, h2⟩ = ⟨h0, h1, 0⟩ from rfl, decide_eq_true e4]; rfl
                              clear e3 e4
                              go_upto_region 20 with fail
                              (refine wp_region_ext (by kernel_rfl) (by kernel_rfl) ?_; (repeat (first | go_big_quiet_step ((first | (intro _; go_at_call 16; exact ext_callG (front_f _ _ _ _) (by rintro w' ⟨o', n', rfl⟩; exact ⟨_, n', by first | (simp only [plus_plus]; rfl) | (simp only [plus_plus, Array.append_assoc]; rfl) | rfl⟩)))) | quiet_step ((first | (intro _; go_at_call 16; exact ext_callG (front_f _ _ _ _) (by rintro w' ⟨o', n', rfl⟩; exact ⟨_, n', by first | (simp only [plus_plus]; rfl) | (simp only [plus_plus, Array.append_assoc]; rfl) | rfl⟩)))))); refine wpQuiet_nil ?_; intro _ hw'; obtain ⟨oq, nq, hw''⟩ := hw'; subst hw'')
                              go_wp2
                              go_roundw
                              case rel => first | exact ⟨nn + 1, by omega, by go_num, congrArg Value.bool (HST.out.trans HV2.out).symm, (by simp (maxDischargeDepth := 60))⟩ | (repeat apply Exists.intro; refine ⟨?_, rfl⟩; exact ⟨nn + 1, by omega, by go_num, congrArg Value.bool (HST.out.trans HV2.out).symm, (by simp (maxDischargeDepth := 60))⟩)
                              case measure => simp [intOf]; omega
                            · have hq4 : ∀ w, (Go.binOp .neq 25 (.agg #[vi h0, vi h1, vi 0]) (.agg #[vi ((j : Int) + 1), vi v, vi z])).run Try.prog w = .ok (.bool true) w := fun w => by rw [neqStruct w (eqPlace w 9998 ⟨h0, h1, 0⟩ ⟨(j : Int) + 1, v, z⟩)]; simp [e4]
                              have HV2 : Hid ((freeJobs js false ⟨(j : Int) + 1, v, z⟩ ⟨t, ⟨ci, ⟨cx, cy, cz⟩⟩, ⟨h0, h1, h2⟩⟩ nn && (!decide ((⟨jt, jf⟩ : Ch.Job) = ⟨t, false⟩) || !decide (Ch.front ⟨h0, h1, h2⟩ = ⟨(j : Int) + 1, v, z⟩))) = true) := by unfold Hid; rw [hv2, decide_eq_true e3, show Ch.front ⟨h0, h1, h2⟩ = ⟨h0, h1, 0⟩ from rfl, decide_eq_false e4]; rfl
                              clear e3 e4
                              go_upto_region 20 with fail
                              (refine wp_region_ext (by kernel_rfl) (by kernel_rfl) ?_; (repeat (first | go_big_quiet_step ((first | (intro _; go_at_call 16; exact ext_callG (front_f _ _ _ _) (by rintro w' ⟨o', n', rfl⟩; exact ⟨_, n', by first | (simp only [plus_plus]; rfl) | (simp only [plus_plus, Array.append_assoc]; rfl) | rfl⟩)))) | quiet_step ((first | (intro _; go_at_call 16; exact ext_callG (front_f _ _ _ _) (by rintro w' ⟨o', n', rfl⟩; exact ⟨_, n', by first | (simp only [plus_plus]; rfl) | (simp only [plus_plus, Array.append_assoc]; rfl) | rfl⟩)))))); refine wpQuiet_nil ?_; intro _ hw'; obtain ⟨oq, nq, hw''⟩ := hw'; subst hw'')
                              go_wp2
                              go_roundw
                              case rel => first | exact ⟨nn + 1, by omega, by go_num, congrArg Value.bool (HST.out.trans HV2.out).symm, (by simp (maxDischargeDepth := 60))⟩ | (repeat apply Exists.intro; refine ⟨?_, rfl⟩; exact ⟨nn + 1, by omega, by go_num, congrArg Value.bool (HST.out.trans HV2.out).symm, (by simp (maxDischargeDepth := 60))⟩)
                              case measure => simp [intOf]; omega
                          · have hq3 : ∀ w, (Go.binOp .neq 74 (.agg #[vi jt, .bool jf]) (.agg #[vi t, .bool false])).run Try.prog w = .ok (.bool true) w := fun w => by rw [neqStruct w (eqJob w 9998 ⟨jt, jf⟩ ⟨t, false⟩)]; simp [e3]
                            have HV2 : Hid ((freeJobs js false ⟨(j : Int) + 1, v, z⟩ ⟨t, ⟨ci, ⟨cx, cy, cz⟩⟩, ⟨h0, h1, h2⟩⟩ nn && (!decide ((⟨jt, jf⟩ : Ch.Job) = ⟨t, false⟩) || !decide (Ch.front ⟨h0, h1, h2⟩ = ⟨(j : Int) + 1, v, z⟩))) = true) := by unfold Hid; rw [hv2, decide_eq_false e3]; rfl
                            clear e3
                            go_upto_region 20 with fail
                            (refine wp_region_ext (by kernel_rfl) (by kernel_rfl) ?_; (repeat (first | go_big_quiet_step ((first | (intro _; go_at_call 16; exact ext_callG (front_f _ _ _ _) (by rintro w' ⟨o', n', rfl⟩; exact ⟨_, n', by first | (simp only [plus_plus]; rfl) | (simp only [plus_plus, Array.append_assoc]; rfl) | rfl⟩)))) | quiet_step ((first | (intro _; go_at_call 16; exact ext_callG (front_f _ _ _ _) (by rintro w' ⟨o', n', rfl⟩; exact ⟨_, n', by first | (simp only [plus_plus]; rfl) | (simp only [plus_plus, Array.append_assoc]; rfl) | rfl⟩)))))); refine wpQuiet_nil ?_; intro _ hw'; obtain ⟨oq, nq, hw''⟩ := hw'; subst hw'')
                            go_wp2
                            go_roundw
                            case rel => first | exact ⟨nn + 1, by omega, by go_num, congrArg Value.bool (HST.out.trans HV2.out).symm, (by simp (maxDischargeDepth := 60))⟩ | (repeat apply Exists.intro; refine ⟨?_, rfl⟩; exact ⟨nn + 1, by omega, by go_num, congrArg Value.bool (HST.out.trans HV2.out).symm, (by simp (maxDischargeDepth := 60))⟩)
                            case measure => simp [intOf]; omega
                      · have hnm : nn = js.length := by have := HKC.out.len; omega
                        have HST2 : Hid (freeTo l js F ⟨(j : Int) + 1, v, z⟩ (kk + 1) = freeJobs js false ⟨(j : Int) + 1, v, z⟩ ⟨t, ⟨ci, ⟨cx, cy, cz⟩⟩, ⟨h0, h1, h2⟩⟩ js.length) := by unfold Hid; rw [freeTo_step HSS.out, HG.out]
                        subst hnm
                        go_wp2
                        go_roundw
                        case rel => first | exact ⟨kk + 1, by omega, by go_num, congrArg Value.bool HST2.out.symm, HXD.out.trans (by simp (maxDischargeDepth := 60))⟩ | (repeat apply Exists.intro; refine ⟨?_, rfl⟩; exact ⟨kk + 1, by omega, by go_num, congrArg Value.bool HST2.out.symm, HXD.out.trans (by simp (maxDischargeDepth := 60))⟩)
                        case measure => simp [intOf]; omega
                  · by_cases e1 : (⟨h0, h1, h2⟩ : Ch.Place) = ⟨(j : Int) + 1, v, z⟩
                    · have HG : Hid ((freeTo l js F ⟨(j : Int) + 1, v, z⟩ kk && (!decide ((⟨h0, h1, h2⟩ : Ch.Place) = ⟨(j : Int) + 1, v, z⟩) && !decide ((⟨h0, h1, h2⟩ : Ch.Place) = Ch.front ⟨(j : Int) + 1, v, z⟩))) = false) := by unfold Hid; rw [hv, decide_eq_true e1]; rfl
                      have hq1 : ∀ w, (Go.binOp .neq 25 (.agg #[vi h0, vi h1, vi h2]) (.agg #[vi ((j : Int) + 1), vi v, vi z])).run Try.prog w = .ok (.bool false) w := fun w => by rw [neqStruct w (eqPlace w 9998 ⟨h0, h1, h2⟩ ⟨(j : Int) + 1, v, z⟩)]; simp [e1]
                      clear e1
                      go_upto_region 16 with fail
                      generalize hW : World.alloc _ _ = wd0
                      have hd0 : wd0.cell? ⟨wc.heap.size + o'.size, 0, none⟩ = some (vi h0) := by rw [← hW]; simp [go_sem]
                      have hd1 : wd0.cell? ⟨wc.heap.size + o'.size, 1, none⟩ = some (vi h1) := by rw [← hW]; simp [go_sem]
                      have hd2 : wd0.cell? ⟨wc.heap.size + o'.size, 2, none⟩ = some (vi h2) := by rw [← hW]; simp [go_sem]
                      have hxd : Ext wc wd0 := by rw [← hW]; exact (by simp (maxDischargeDepth := 60))
                      generalize wc.heap.size + o'.size = D at hd0 hd1 hd2 ⊢
                      clear hW
                      have HXD := Lib.hid hxd
                      have kd0 := ext_cell hxd kc0
                      have kd1 := ext_cell hxd kc1
                      have kd2 := ext_cell hxd kc2
                      have dp0 := ext_cell hxd dx.1
                      have dp1 := ext_cell hxd dx.2.1
                      have dp2 := ext_cell hxd dx.2.2
                      have ds0 := ext_cell hxd dst.1
                      have zd0 := cell_lt hd0
                      have zd1 := cell_lt kd0
                      have zd2 := cell_lt dp0
                      have zd3 := cell_lt ds0
                      clear hxd
                      (refine wp_region_ext (by kernel_rfl) (by kernel_rfl) ?_; (repeat (first | go_big_quiet_step ((first | (intro _; go_at_call 16; exact ext_callG (front_f _ _ _ _) (by rintro w' ⟨o', n', rfl⟩; exact ⟨_, n', by first | (simp only [plus_plus]; rfl) | (simp only [plus_plus, Array.append_assoc]; rfl) | rfl⟩)))) | quiet_step ((first | (intro _; go_at_call 16; exact ext_callG (front_f _ _ _ _) (by rintro w' ⟨o', n', rfl⟩; exact ⟨_, n', by first | (simp only [plus_plus]; rfl) | (simp only [plus_plus, Array.append_assoc]; rfl) | rfl⟩)))))); refine wpQuiet_nil ?_; intro _ hw'; obtain ⟨oq, nq, hw''⟩ := hw'; subst hw'')
                      go_wp2
                      go_loopw [11, 14] (fun fv i wj => ∃ nn : Nat, nn ≤ m2 ∧ i = .int .i64 nn ∧ fv = .bool (freeJobs js false ⟨(j : Int) + 1, v, z⟩ ⟨t, ⟨ci, ⟨cx, cy, cz⟩⟩, ⟨h0, h1, h2⟩⟩ nn) ∧ Ext wd0 wj) (fun _ i _ => m2 - (intOf i).toNat)
                      case atStart => exact ⟨0, by omega, rfl, by simp [freeJobs], (by simp (maxDischargeDepth := 60))⟩
                      case round =>
                        obtain ⟨nn, hnn, rfl, rfl, o2, m2', rfl⟩ := hrel
                        by_cases hln : nn < m2
                        · obtain ⟨jb, jq, jj, rfl, hjj, dj⟩ := HKC.out.get hln
                          have dj := at2 dj
                          obtain ⟨jt, jf⟩ := jj
                          dsimp only at dj
                          have dj0 := ext_cell HXD.out dj.1
                          have dj1 := ext_cell HXD.out dj.2
                          have zj := cell_lt dj0
                          have HST := Lib.hid (freeJobs_step (f := false) (p := ⟨(j : Int) + 1, v, z⟩) (s := ⟨t, ⟨ci, ⟨cx, cy, cz⟩⟩, ⟨h0, h1, h2⟩⟩) hjj)
                          have hnj : (nn : Int) < (m2 : Int) := by omega
                          clear hjj dj
                          cases hv2 : freeJobs js false ⟨(j : Int) + 1, v, z⟩ ⟨t, ⟨ci, ⟨cx, cy, cz⟩⟩, ⟨h0, h1, h2⟩⟩ nn
                          · have HV2 : Hid ((freeJobs js false ⟨(j : Int) + 1, v, z⟩ ⟨t, ⟨ci, ⟨cx, cy, cz⟩⟩, ⟨h0, h1, h2⟩⟩ nn && (!decide ((⟨jt, jf⟩ : Ch.Job) = ⟨t, false⟩) || !decide (Ch.front ⟨h0, h1, h2⟩ = ⟨(j : Int) + 1, v, z⟩))) = false) := by unfold Hid; rw [hv2]; rfl
                            go_upto_region 20 with fail
                            (refine wp_region_ext (by kernel_rfl) (by kernel_rfl) ?_; (repeat (first | go_big_quiet_step ((first | (intro _; go_at_call 16; exact ext_callG (front_f _ _ _ _) (by rintro w' ⟨o', n', rfl⟩; exact ⟨_, n', by first | (simp only [plus_plus]; rfl) | (simp only [plus_plus, Array.append_assoc]; rfl) | rfl⟩)))) | quiet_step ((first | (intro _; go_at_call 16; exact ext_callG (front_f _ _ _ _) (by rintro w' ⟨o', n', rfl⟩; exact ⟨_, n', by first | (simp only [plus_plus]; rfl) | (simp only [plus_plus, Array.append_assoc]; rfl) | rfl⟩)))))); refine wpQuiet_nil ?_; intro _ hw'; obtain ⟨oq, nq, hw''⟩ := hw'; subst hw'')
                            go_wp2
                            go_roundw
                            case rel => first | exact ⟨nn + 1, by omega, by go_num, congrArg Value.bool (HST.out.trans HV2.out).symm, (by simp (maxDischargeDepth := 60))⟩ | (repeat apply Exists.intro; refine ⟨?_, rfl⟩; exact ⟨nn + 1, by omega, by go_num, congrArg Value.bool (HST.out.trans HV2.out).symm, (by simp (maxDischargeDepth := 60))⟩)
                            case measure => simp [intOf]; omega
                          · by_cases e3 : (⟨jt, jf⟩ : Ch.Job) = ⟨t, false⟩
                            · have hq3 : ∀ w, (Go.binOp .neq 74 (.agg #[vi jt, .bool jf]) (.agg #[vi t, .bool false])).run Try.prog w = .ok (.bool false) w := fun w => by rw [neqStruct w (eqJob w 9998 ⟨jt, jf⟩ ⟨t, false⟩)]; simp [e3]
                              by_cases e4 : (⟨h0, h1, 0⟩ : Ch.Place) = ⟨(j : Int) + 1, v, z⟩
                              · have hq4 : ∀ w, (Go.binOp .neq 25 (.agg #[vi h0, vi h1, vi 0]) (.agg #[vi ((j : Int) + 1), vi v, vi z])).run Try.prog w = .ok (.bool false) w := fun w => by rw [neqStruct w (eqPlace w 9998 ⟨h0, h1, 0⟩ ⟨(j : Int) + 1, v, z⟩)]; simp [e4]
                                have HV2 : Hid ((freeJobs js false ⟨(j : Int) + 1, v, z⟩ ⟨t, ⟨ci, ⟨cx, cy, cz⟩⟩, ⟨h0, h1, h2⟩⟩ nn && (!decide ((⟨jt, jf⟩ : Ch.Job) = ⟨t, false⟩) || !decide (Ch.front ⟨h0, h1, h2⟩ = ⟨(j : Int) + 1, v, z⟩))) = false) := by unfold Hid; rw [hv2, decide_eq_true e3, show Ch.front ⟨h0, h1, h2⟩ = ⟨h0, h1, 0⟩ from rfl, decide_eq_true e4]; rfl
                                clear e3 e4
                                go_upto_region 20 with fail
                                (refine wp_region_ext (by kernel_rfl) (by kernel_rfl) ?_; (repeat (first | go_big_quiet_step ((first | (intro _; go_at_call 16; exact ext_callG (front_f _ _ _ _) (by rintro w' ⟨o', n', rfl⟩; exact ⟨_, n', by first | (simp only [plus_plus]; rfl) | (simp only [plus_plus, Array.append_assoc]; rfl) | rfl⟩)))) | quiet_step ((first | (intro _; go_at_call 16; exact ext_callG (front_f _ _ _ _) (by rintro w' ⟨o', n', rfl⟩; exact ⟨_, n', by first | (simp only [plus_plus]; rfl) | (simp only [plus_plus, Array.append_assoc]; rfl) | rfl⟩)))))); refine wpQuiet_nil ?_; intro _ hw'; obtain ⟨oq, nq, hw''⟩ := hw'; subst hw'')
                                go_wp2
                                go_roundw
                                case rel => first | exact ⟨nn + 1, by omega, by go_num, congrArg Value.bool (HST.out.trans HV2.out).symm, (by simp (maxDischargeDepth := 60))⟩ | (repeat apply Exists.intro; refine ⟨?_, rfl⟩; exact ⟨nn + 1, by omega, by go_num, congrArg Value.bool (HST.out.trans HV2.out).symm, (by simp (maxDischargeDepth := 60))⟩)
                                case measure => simp [intOf]; omega
                              · have hq4 : ∀ w, (Go.binOp .neq 25 (.agg #[vi h0, vi h1, vi 0]) (.agg #[vi ((j : Int) + 1), vi v, vi z])).run Try.prog w = .ok (.bool true) w := fun w => by rw [neqStruct w (eqPlace w 9998 ⟨h0, h1, 0⟩ ⟨(j : Int) + 1, v, z⟩)]; simp [e4]
                                have HV2 : Hid ((freeJobs js false ⟨(j : Int) + 1, v, z⟩ ⟨t, ⟨ci, ⟨cx, cy, cz⟩⟩, ⟨h0, h1, h2⟩⟩ nn && (!decide ((⟨jt, jf⟩ : Ch.Job) = ⟨t, false⟩) || !decide (Ch.front ⟨h0, h1, h2⟩ = ⟨(j : Int) + 1, v, z⟩))) = true) := by unfold Hid; rw [hv2, decide_eq_true e3, show Ch.front ⟨h0, h1, h2⟩ = ⟨h0, h1, 0⟩ from rfl, decide_eq_false e4]; rfl
                                clear e3 e4
                                go_upto_region 20 with fail
                                (refine wp_region_ext (by kernel_rfl) (by kernel_rfl) ?_; (repeat (first | go_big_quiet_step ((first | (intro _; go_at_call 16; exact ext_callG (front_f _ _ _ _) (by rintro w' ⟨o', n', rfl⟩; exact ⟨_, n', by first | (simp only [plus_plus]; rfl) | (simp only [plus_plus, Array.append_assoc]; rfl) | rfl⟩)))) | quiet_step ((first | (intro _; go_at_call 16; exact ext_callG (front_f _ _ _ _) (by rintro w' ⟨o', n', rfl⟩; exact ⟨_, n', by first | (simp only [plus_plus]; rfl) | (simp only [plus_plus, Array.append_assoc]; rfl) | rfl⟩)))))); refine wpQuiet_nil ?_; intro _ hw'; obtain ⟨oq, nq, hw''⟩ := hw'; subst hw'')
                                go_wp2
                                go_roundw
                                case rel => first | exact ⟨nn + 1, by omega, by go_num, congrArg Value.bool (HST.out.trans HV2.out).symm, (by simp (maxDischargeDepth := 60))⟩ | (repeat apply Exists.intro; refine ⟨?_, rfl⟩; exact ⟨nn + 1, by omega, by go_num, congrArg Value.bool (HST.out.trans HV2.out).symm, (by simp (maxDischargeDepth := 60))⟩)
                                case measure => simp [intOf]; omega
                            · have hq3 : ∀ w, (Go.binOp .neq 74 (.agg #[vi jt, .bool jf]) (.agg #[vi t, .bool false])).run Try.prog w = .ok (.bool true) w := fun w => by rw [neqStruct w (eqJob w 9998 ⟨jt, jf⟩ ⟨t, false⟩)]; simp [e3]
                              have HV2 : Hid ((freeJobs js false ⟨(j : Int) + 1, v, z⟩ ⟨t, ⟨ci, ⟨cx, cy, cz⟩⟩, ⟨h0, h1, h2⟩⟩ nn && (!decide ((⟨jt, jf⟩ : Ch.Job) = ⟨t, false⟩) || !decide (Ch.front ⟨h0, h1, h2⟩ = ⟨(j : Int) + 1, v, z⟩))) = true) := by unfold Hid; rw [hv2, decide_eq_false e3]; rfl
                              clear e3
                              go_upto_region 20 with fail
                              (refine wp_region_ext (by kernel_rfl) (by kernel_rfl) ?_; (repeat (first | go_big_quiet_step ((first | (intro _; go_at_call 16; exact ext_callG (front_f _ _ _ _) (by rintro w' ⟨o', n', rfl⟩; exact ⟨_, n', by first | (simp only [plus_plus]; rfl) | (simp only [plus_plus, Array.append_assoc]; rfl) | rfl⟩)))) | quiet_step ((first | (intro _; go_at_call 16; exact ext_callG (front_f _ _ _ _) (by rintro w' ⟨o', n', rfl⟩; exact ⟨_, n', by first | (simp only [plus_plus]; rfl) | (simp only [plus_plus, Array.append_assoc]; rfl) | rfl⟩)))))); refine wpQuiet_nil ?_; intro _ hw'; obtain ⟨oq, nq, hw''⟩ := hw'; subst hw'')
                              go_wp2
                              go_roundw
                              case rel => first | exact ⟨nn + 1, by omega, by go_num, congrArg Value.bool (HST.out.trans HV2.out).symm, (by simp (maxDischargeDepth := 60))⟩ | (repeat apply Exists.intro; refine ⟨?_, rfl⟩; exact ⟨nn + 1, by omega, by go_num, congrArg Value.bool (HST.out.trans HV2.out).symm, (by simp (maxDischargeDepth := 60))⟩)
                              case measure => simp [intOf]; omega
                        · have hnm : nn = js.length := by have := HKC.out.len; omega
                          have HST2 : Hid (freeTo l js F ⟨(j : Int) + 1, v, z⟩ (kk + 1) = freeJobs js false ⟨(j : Int) + 1, v, z⟩ ⟨t, ⟨ci, ⟨cx, cy, cz⟩⟩, ⟨h0, h1, h2⟩⟩ js.length) := by unfold Hid; rw [freeTo_step HSS.out, HG.out]
                          subst hnm
                          go_wp2
                          go_roundw
                          case rel => first | exact ⟨kk + 1, by omega, by go_num, congrArg Value.bool HST2.out.symm, HXD.out.trans (by simp (maxDischargeDepth := 60))⟩ | (repeat apply Exists.intro; refine ⟨?_, rfl⟩; exact ⟨kk + 1, by omega, by go_num, congrArg Value.bool HST2.out.symm, HXD.out.trans (by simp (maxDischargeDepth := 60))⟩)
                          case measure => simp [intOf]; omega
                    · have hq1 : ∀ w, (Go.binOp .neq 25 (.agg #[vi h0, vi h1, vi h2]) (.agg #[vi ((j : Int) + 1), vi v, vi z])).run Try.prog w = .ok (.bool true) w := fun w => by rw [neqStruct w (eqPlace w 9998 ⟨h0, h1, h2⟩ ⟨(j : Int) + 1, v, z⟩)]; simp [e1]
                      by_cases e2 : (⟨h0, h1, h2⟩ : Ch.Place) = ⟨(j : Int) + 1, v, 0⟩
                      · have HG : Hid ((freeTo l js F ⟨(j : Int) + 1, v, z⟩ kk && (!decide ((⟨h0, h1, h2⟩ : Ch.Place) = ⟨(j : Int) + 1, v, z⟩) && !decide ((⟨h0, h1, h2⟩ : Ch.Place) = Ch.front ⟨(j : Int) + 1, v, z⟩))) = false) := by unfold Hid; rw [hv, decide_eq_false e1, show Ch.front ⟨(j : Int) + 1, v, z⟩ = ⟨(j : Int) + 1, v, 0⟩ from rfl, decide_eq_true e2]; rfl
                        have hq2 : ∀ w, (Go.binOp .neq 25 (.agg #[vi h0, vi h1, vi h2]) (.agg #[vi ((j : Int) + 1), vi v, vi 0])).run Try.prog w = .ok (.bool false) w := fun w => by rw [neqStruct w (eqPlace w 9998 ⟨h0, h1, h2⟩ ⟨(j : Int) + 1, v, 0⟩)]; simp [e2]
                        clear e1 e2
                        go_upto_region 16 with fail
                        generalize hW : World.alloc _ _ = wd0
                        have hd0 : wd0.cell? ⟨wc.heap.size + o'.size, 0, none⟩ = some (vi h0) := by rw [← hW]; simp [go_sem]
                        have hd1 : wd0.cell? ⟨wc.heap.size + o'.size, 1, none⟩ = some (vi h1) := by rw [← hW]; simp [go_sem]
                        have hd2 : wd0.cell? ⟨wc.heap.size + o'.size, 2, none⟩ = some (vi h2) := by rw [← hW]; simp [go_sem]
                        have hxd : Ext wc wd0 := by rw [← hW]; exact (by simp (maxDischargeDepth := 60))
                        generalize wc.heap.size + o'.size = D at hd0 hd1 hd2 ⊢
                        clear hW
                        have HXD := Lib.hid hxd
                        have kd0 := ext_cell hxd kc0
                        have kd1 := ext_cell hxd kc1
                        have kd2 := ext_cell hxd kc2
                        have dp0 := ext_cell hxd dx.1
                        have dp1 := ext_cell hxd dx.2.1
                        have dp2 := ext_cell hxd dx.2.2
                        have ds0 := ext_cell hxd dst.1
                        have zd0 := cell_lt hd0
                        have zd1 := cell_lt kd0
                        have zd2 := cell_lt dp0
                        have zd3 := cell_lt ds0
                        clear hxd
                        (refine wp_region_ext (by kernel_rfl) (by kernel_rfl) ?_; (repeat (first | go_big_quiet_step ((first | (intro _; go_at_call 16; exact ext_callG (front_f _ _ _ _) (by rintro w' ⟨o', n', rfl⟩; exact ⟨_, n', by first | (simp only [plus_plus]; rfl) | (simp only [plus_plus, Array.append_assoc]; rfl) | rfl⟩)))) | quiet_step ((first | (intro _; go_at_call 16; exact ext_callG (front_f _ _ _ _) (by rintro w' ⟨o', n', rfl⟩; exact ⟨_, n', by first | (simp only [plus_plus]; rfl) | (simp only [plus_plus, Array.append_assoc]; rfl) | rfl⟩)))))); refine wpQuiet_nil ?_; intro _ hw'; obtain ⟨oq, nq, hw''⟩ := hw'; subst hw'')
                        go_wp2
                        go_loopw [11, 14] (fun fv i wj => ∃ nn : Nat, nn ≤ m2 ∧ i = .int .i64 nn ∧ fv = .bool (freeJobs js false ⟨(j : Int) + 1, v, z⟩ ⟨t, ⟨ci, ⟨cx, cy, cz⟩⟩, ⟨h0, h1, h2⟩⟩ nn) ∧ Ext wd0 wj) (fun _ i _ => m2 - (intOf i).toNat)
                        case atStart => exact ⟨0, by omega, rfl, by simp [freeJobs], (by simp (maxDischargeDepth := 60))⟩
                        case round =>
                          obtain ⟨nn, hnn, rfl, rfl, o2, m2', rfl⟩ := hrel
                          by_cases hln : nn < m2
                          · obtain ⟨jb, jq, jj, rfl, hjj, dj⟩ := HKC.out.get hln
                            have dj := at2 dj
                            obtain ⟨jt, jf⟩ := jj
                            dsimp only at dj
                            have dj0 := ext_cell HXD.out dj.1
                            have dj1 := ext_cell HXD.out dj.2
                            have zj := cell_lt dj0
                            have HST := Lib.hid (freeJobs_step (f := false) (p := ⟨(j : Int) + 1, v, z⟩) (s := ⟨t, ⟨ci, ⟨cx, cy, cz⟩⟩, ⟨h0, h1, h2⟩⟩) hjj)
                            have hnj : (nn : Int) < (m2 : Int) := by omega
                            clear hjj dj
                            cases hv2 : freeJobs js false ⟨(j : Int) + 1, v, z⟩ ⟨t, ⟨ci, ⟨cx, cy, cz⟩⟩, ⟨h0, h1, h2⟩⟩ nn
                            · have HV2 : Hid ((freeJobs js false ⟨(j : Int) + 1, v, z⟩ ⟨t, ⟨ci, ⟨cx, cy, cz⟩⟩, ⟨h0, h1, h2⟩⟩ nn && (!decide ((⟨jt, jf⟩ : Ch.Job) = ⟨t, false⟩) || !decide (Ch.front ⟨h0, h1, h2⟩ = ⟨(j : Int) + 1, v, z⟩))) = false) := by unfold Hid; rw [hv2]; rfl
                              go_upto_region 20 with fail
                              (refine wp_region_ext (by kernel_rfl) (by kernel_rfl) ?_; (repeat (first | go_big_quiet_step ((first | (intro _; go_at_call 16; exact ext_callG (front_f _ _ _ _) (by rintro w' ⟨o', n', rfl⟩; exact ⟨_, n', by first | (simp only [plus_plus]; rfl) | (simp only [plus_plus, Array.append_assoc]; rfl) | rfl⟩)))) | quiet_step ((first | (intro _; go_at_call 16; exact ext_callG (front_f _ _ _ _) (by rintro w' ⟨o', n', rfl⟩; exact ⟨_, n', by first | (simp only [plus_plus]; rfl) | (simp only [plus_plus, Array.append_assoc]; rfl) | rfl⟩)))))); refine wpQuiet_nil ?_; intro _ hw'; obtain ⟨oq, nq, hw''⟩ := hw'; subst hw'')
                              go_wp2
                              go_roundw
                              case rel => first | exact ⟨nn + 1, by omega, by go_num, congrArg Value.bool (HST.out.trans HV2.out).symm, (by simp (maxDischargeDepth := 60))⟩ | (repeat apply Exists.intro; refine ⟨?_, rfl⟩; exact ⟨nn + 1, by omega, by go_num, congrArg Value.bool (HST.out.trans HV2.out).symm, (by simp (maxDischargeDepth := 60))⟩)
                              case measure => simp [intOf]; omega
                            · by_cases e3 : (⟨jt, jf⟩ : Ch.Job) = ⟨t, false⟩
                              · have hq3 : ∀ w, (Go.binOp .neq 74 (.agg #[vi jt, .bool jf]) (.agg #[vi t, .bool false])).run Try.prog w = .ok (.bool false) w := fun w => by rw [neqStruct w (eqJob w 9998 ⟨jt, jf⟩ ⟨t, false⟩)]; simp [e3]
                                by_cases e4 : (⟨h0, h1, 0⟩ : Ch.Place) = ⟨(j : Int) + 1, v, z⟩
                                · have hq4 : ∀ w, (Go.binOp .neq 25 (.agg #[vi h0, vi h1, vi 0]) (.agg #[vi ((j : Int) + 1), vi v, vi z])).run Try.prog w = .ok (.bool false) w := fun w => by rw [neqStruct w (eqPlace w 9998 ⟨h0, h1, 0⟩ ⟨(j : Int) + 1, v, z⟩)]; simp [e4]
                                  have HV2 : Hid ((freeJobs js false ⟨(j : Int) + 1, v, z⟩ ⟨t, ⟨ci, ⟨cx, cy, cz⟩⟩, ⟨h0, h1, h2⟩⟩ nn && (!decide ((⟨jt, jf⟩ : Ch.Job) = ⟨t, false⟩) || !decide (Ch.front ⟨h0, h1, h2⟩ = ⟨(j : Int) + 1, v, z⟩))) = false) := by unfold Hid; rw [hv2, decide_eq_true e3, show Ch.front ⟨h0, h1, h2⟩ = ⟨h0, h1, 0⟩ from rfl, decide_eq_true e4]; rfl
                                  clear e3 e4
                                  go_upto_region 20 with fail
                                  (refine wp_region_ext (by kernel_rfl) (by kernel_rfl) ?_; (repeat (first | go_big_quiet_step ((first | (intro _; go_at_call 16; exact ext_callG (front_f _ _ _ _) (by rintro w' ⟨o', n', rfl⟩; exact ⟨_, n', by first | (simp only [plus_plus]; rfl) | (simp only [plus_plus, Array.append_assoc]; rfl) | rfl⟩)))) | quiet_step ((first | (intro _; go_at_call 16; exact ext_callG (front_f _ _ _ _) (by rintro w' ⟨o', n', rfl⟩; exact ⟨_, n', by first | (simp only [plus_plus]; rfl) | (simp only [plus_plus, Array.append_assoc]; rfl) | rfl⟩)))))); refine wpQuiet_nil ?_; intro _ hw'; obtain ⟨oq, nq, hw''⟩ := hw'; subst hw'')
                                  go_wp2
                                  go_roundw
                                  case rel => first | exact ⟨nn + 1, by omega, by go_num, congrArg Value.bool (HST.out.trans HV2.out).symm, (by simp (maxDischargeDepth := 60))⟩ | (repeat apply Exists.intro; refine ⟨?_, rfl⟩; exact ⟨nn + 1, by omega, by go_num, congrArg Value.bool (HST.out.trans HV2.out).symm, (by simp (maxDischargeDepth := 60))⟩)
                                  case measure => simp [intOf]; omega
                                · have hq4 : ∀ w, (Go.binOp .neq 25 (.agg #[vi h0, vi h1, vi 0]) (.agg #[vi ((j : Int) + 1), vi v, vi z])).run Try.prog w = .ok (.bool true) w := fun w => by rw [neqStruct w (eqPlace w 9998 ⟨h0, h1, 0⟩ ⟨(j : Int) + 1, v, z⟩)]; simp [e4]
                                  have HV2 : Hid ((freeJobs js false ⟨(j : Int) + 1, v, z⟩ ⟨t, ⟨ci, ⟨cx, cy, cz⟩⟩, ⟨h0, h1, h2⟩⟩ nn && (!decide ((⟨jt, jf⟩ : Ch.Job) = ⟨t, false⟩) || !decide (Ch.front ⟨h0, h1, h2⟩ = ⟨(j : Int) + 1, v, z⟩))) = true) := by unfold Hid; rw [hv2, decide_eq_true e3, show Ch.front ⟨h0, h1, h2⟩ = ⟨h0, h1, 0⟩ from rfl, decide_eq_false e4]; rfl
                                  clear e3 e4
                                  go_upto_region 20 with fail
                                  (refine wp_region_ext (by kernel_rfl) (by kernel_rfl) ?_; (repeat (first | go_big_quiet_step ((first | (intro _; go_at_call 16; exact ext_callG (front_f _ _ _ _) (by rintro w' ⟨o', n', rfl⟩; exact ⟨_, n', by first | (simp only [plus_plus]; rfl) | (simp only [plus_plus, Array.append_assoc]; rfl) | rfl⟩)))) | quiet_step ((first | (intro _; go_at_call 16; exact ext_callG (front_f _ _ _ _) (by rintro w' ⟨o', n', rfl⟩; exact ⟨_, n', by first | (simp only [plus_plus]; rfl) | (simp only [plus_plus, Array.append_assoc]; rfl) | rfl⟩)))))); refine wpQuiet_nil ?_; intro _ hw'; obtain ⟨oq, nq, hw''⟩ := hw'; subst hw'')
                                  go_wp2
                                  go_roundw
                                  case rel => first | exact ⟨nn + 1, by omega, by go_num, congrArg Value.bool (HST.out.trans HV2.out).symm, (by simp (maxDischargeDepth := 60))⟩ | (repeat apply Exists.intro; refine ⟨?_, rfl⟩; exact ⟨nn + 1, by omega, by go_num, congrArg Value.bool (HST.out.trans HV2.out).symm, (by simp (maxDischargeDepth := 60))⟩)
                                  case measure => simp [intOf]; omega
                              · have hq3 : ∀ w, (Go.binOp .neq 74 (.agg #[vi jt, .bool jf]) (.agg #[vi t, .bool false])).run Try.prog w = .ok (.bool true) w := fun w => by rw [neqStruct w (eqJob w 9998 ⟨jt, jf⟩ ⟨t, false⟩)]; simp [e3]
                                have HV2 : Hid ((freeJobs js false ⟨(j : Int) + 1, v, z⟩ ⟨t, ⟨ci, ⟨cx, cy, cz⟩⟩, ⟨h0, h1, h2⟩⟩ nn && (!decide ((⟨jt, jf⟩ : Ch.Job) = ⟨t, false⟩) || !decide (Ch.front ⟨h0, h1, h2⟩ = ⟨(j : Int) + 1, v, z⟩))) = true) := by unfold Hid; rw [hv2, decide_eq_false e3]; rfl
                                clear e3
                                go_upto_region 20 with fail
                                (refine wp_region_ext (by kernel_rfl) (by kernel_rfl) ?_; (repeat (first | go_big_quiet_step ((first | (intro _; go_at_call 16; exact ext_callG (front_f _ _ _ _) (by rintro w' ⟨o', n', rfl⟩; exact ⟨_, n', by first | (simp only [plus_plus]; rfl) | (simp only [plus_plus, Array.append_assoc]; rfl) | rfl⟩)))) | quiet_step ((first | (intro _; go_at_call 16; exact ext_callG (front_f _ _ _ _) (by rintro w' ⟨o', n', rfl⟩; exact ⟨_, n', by first | (simp only [plus_plus]; rfl) | (simp only [plus_plus, Array.append_assoc]; rfl) | rfl⟩)))))); refine wpQuiet_nil ?_; intro _ hw'; obtain ⟨oq, nq, hw''⟩ := hw'; subst hw'')
                                go_wp2
                                go_roundw
                                case rel => first | exact ⟨nn + 1, by omega, by go_num, congrArg Value.bool (HST.out.trans HV2.out).symm, (by simp (maxDischargeDepth := 60))⟩ | (repeat apply Exists.intro; refine ⟨?_, rfl⟩; exact ⟨nn + 1, by omega, by go_num, congrArg Value.bool (HST.out.trans HV2.out).symm, (by simp (maxDischargeDepth := 60))⟩)
                                case measure => simp [intOf]; omega
                          · have hnm : nn = js.length := by have := HKC.out.len; omega
                            have HST2 : Hid (freeTo l js F ⟨(j : Int) + 1, v, z⟩ (kk + 1) = freeJobs js false ⟨(j : Int) + 1, v, z⟩ ⟨t, ⟨ci, ⟨cx, cy, cz⟩⟩, ⟨h0, h1, h2⟩⟩ js.length) := by unfold Hid; rw [freeTo_step HSS.out, HG.out]
                            subst hnm
                            go_wp2
                            go_roundw
                            case rel => first | exact ⟨kk + 1, by omega, by go_num, congrArg Value.bool HST2.out.symm, HXD.out.trans (by simp (maxDischargeDepth := 60))⟩ | (repeat apply Exists.intro; refine ⟨?_, rfl⟩; exact ⟨kk + 1, by omega, by go_num, congrArg Value.bool HST2.out.symm, HXD.out.trans (by simp (maxDischargeDepth := 60))⟩)
                            case measure => simp [intOf]; omega
                      · have HG : Hid ((freeTo l js F ⟨(j : Int) + 1, v, z⟩ kk && (!decide ((⟨h0, h1, h2⟩ : Ch.Place) = ⟨(j : Int) + 1, v, z⟩) && !decide ((⟨h0, h1, h2⟩ : Ch.Place) = Ch.front ⟨(j : Int) + 1, v, z⟩))) = true) := by unfold Hid; rw [hv, decide_eq_false e1, show Ch.front ⟨(j : Int) + 1, v, z⟩ = ⟨(j : Int) + 1, v, 0⟩ from rfl, decide_eq_false e2]; rfl
                        have hq2 : ∀ w, (Go.binOp .neq 25 (.agg #[vi h0, vi h1, vi h2]) (.agg #[vi ((j : Int) + 1), vi v, vi 0])).run Try.prog w = .ok (.bool true) w := fun w => by rw [neqStruct w (eqPlace w 9998 ⟨h0, h1, h2⟩ ⟨(j : Int) + 1, v, 0⟩)]; simp [e2]
                        clear e1 e2
                        go_upto_region 16 with fail
                        generalize hW : World.alloc _ _ = wd0
                        have hd0 : wd0.cell? ⟨wc.heap.size + o'.size, 0, none⟩ = some (vi h0) := by rw [← hW]; simp [go_sem]
                        have hd1 : wd0.cell? ⟨wc.heap.size + o'.size, 1, none⟩ = some (vi h1) := by rw [← hW]; simp [go_sem]
                        have hd2 : wd0.cell? ⟨wc.heap.size + o'.size, 2, none⟩ = some (vi h2) := by rw [← hW]; simp [go_sem]
                        have hxd : Ext wc wd0 := by rw [← hW]; exact (by simp (maxDischargeDepth := 60))
                        generalize wc.heap.size + o'.size = D at hd0 hd1 hd2 ⊢
                        clear hW
                        have HXD := Lib.hid hxd
                        have kd0 := ext_cell hxd kc0
                        have kd1 := ext_cell hxd kc1
                        have kd2 := ext_cell hxd kc2
                        have dp0 := ext_cell hxd dx.1
                        have dp1 := ext_cell hxd dx.2.1
                        have dp2 := ext_cell hxd dx.2.2
                        have ds0 := ext_cell hxd dst.1
                        have zd0 := cell_lt hd0
                        have zd1 := cell_lt kd0
                        have zd2 := cell_lt dp0
                        have zd3 := cell_lt ds0
                        clear hxd
                        (refine wp_region_ext (by kernel_rfl) (by kernel_rfl) ?_; (repeat (first | go_big_quiet_step ((first | (intro _; go_at_call 16; exact ext_callG (front_f _ _ _ _) (by rintro w' ⟨o', n', rfl⟩; exact ⟨_, n', by first | (simp only [plus_plus]; rfl) | (simp only [plus_plus, Array.append_assoc]; rfl) | rfl⟩)))) | quiet_step ((first | (intro _; go_at_call 16; exact ext_callG (front_f _ _ _ _) (by rintro w' ⟨o', n', rfl⟩; exact ⟨_, n', by first | (simp only [plus_plus]; rfl) | (simp only [plus_plus, Array.append_assoc]; rfl) | rfl⟩)))))); refine wpQuiet_nil ?_; intro _ hw'; obtain ⟨oq, nq, hw''⟩ := hw'; subst hw'')
                        go_wp2
                        go_loopw [11, 14] (fun fv i wj => ∃ nn : Nat, nn ≤ m2 ∧ i = .int .i64 nn ∧ fv = .bool (freeJobs js true ⟨(j : Int) + 1, v, z⟩ ⟨t, ⟨ci, ⟨cx, cy, cz⟩⟩, ⟨h0, h1, h2⟩⟩ nn) ∧ Ext wd0 wj) (fun _ i _ => m2 - (intOf i).toNat)
                        case atStart => exact ⟨0, by omega, rfl, by simp [freeJobs], (by simp (maxDischargeDepth := 60))⟩
                        case round =>
                          obtain ⟨nn, hnn, rfl, rfl, o2, m2', rfl⟩ := hrel
                          by_cases hln : nn < m2
                          · obtain ⟨jb, jq, jj, rfl, hjj, dj⟩ := HKC.out.get hln
                            have dj := at2 dj
                            obtain ⟨jt, jf⟩ := jj
                            dsimp only at dj
                            have dj0 := ext_cell HXD.out dj.1
                            have dj1 := ext_cell HXD.out dj.2
                            have zj := cell_lt dj0
                            have HST := Lib.hid (freeJobs_step (f := true) (p := ⟨(j : Int) + 1, v, z⟩) (s := ⟨t, ⟨ci, ⟨cx, cy, cz⟩⟩, ⟨h0, h1, h2⟩⟩) hjj)
                            have hnj : (nn : Int) < (m2 : Int) := by omega
                            clear hjj dj
                            cases hv2 : freeJobs js true ⟨(j : Int) + 1, v, z⟩ ⟨t, ⟨ci, ⟨cx, cy, cz⟩⟩, ⟨h0, h1, h2⟩⟩ nn
                            · have HV2 : Hid ((freeJobs js true ⟨(j : Int) + 1, v, z⟩ ⟨t, ⟨ci, ⟨cx, cy, cz⟩⟩, ⟨h0, h1, h2⟩⟩ nn && (!decide ((⟨jt, jf⟩ : Ch.Job) = ⟨t, false⟩) || !decide (Ch.front ⟨h0, h1, h2⟩ = ⟨(j : Int) + 1, v, z⟩))) = false) := by unfold Hid; rw [hv2]; rfl
                              go_upto_region 20 with fail
                              (refine wp_region_ext (by kernel_rfl) (by kernel_rfl) ?_; (repeat (first | go_big_quiet_step ((first | (intro _; go_at_call 16; exact ext_callG (front_f _ _ _ _) (by rintro w' ⟨o', n', rfl⟩; exact ⟨_, n', by first | (simp only [plus_plus]; rfl) | (simp only [plus_plus, Array.append_assoc]; rfl) | rfl⟩)))) | quiet_step ((first | (intro _; go_at_call 16; exact ext_callG (front_f _ _ _ _) (by rintro w' ⟨o', n', rfl⟩; exact ⟨_, n', by first | (simp only [plus_plus]; rfl) | (simp only [plus_plus, Array.append_assoc]; rfl) | rfl⟩)))))); refine wpQuiet_nil ?_; intro _ hw'; obtain ⟨oq, nq, hw''⟩ := hw'; subst hw'')
                              go_wp2
                              go_roundw
                              case rel => first | exact ⟨nn + 1, by omega, by go_num, congrArg Value.bool (HST.out.trans HV2.out).symm, (by simp (maxDischargeDepth := 60))⟩ | (repeat apply Exists.intro; refine ⟨?_, rfl⟩; exact ⟨nn + 1, by omega, by go_num, congrArg Value.bool (HST.out.trans HV2.out).symm, (by simp (maxDischargeDepth := 60))⟩)
                              case measure => simp [intOf]; omega
                            · by_cases e3 : (⟨jt, jf⟩ : Ch.Job) = ⟨t, false⟩
                              · have hq3 : ∀ w, (Go.binOp .neq 74 (.agg #[vi jt, .bool jf]) (.agg #[vi t, .bool false])).run Try.prog w = .ok (.bool false) w := fun w => by rw [neqStruct w (eqJob w 9998 ⟨jt, jf⟩ ⟨t, false⟩)]; simp [e3]
                                by_cases e4 : (⟨h0, h1, 0⟩ : Ch.Place) = ⟨(j : Int) + 1, v, z⟩
                                · have hq4 : ∀ w, (Go.binOp .neq 25 (.agg #[vi h0, vi h1, vi 0]) (.agg #[vi ((j : Int) + 1), vi v, vi z])).run Try.prog w = .ok (.bool false) w := fun w => by rw [neqStruct w (eqPlace w 9998 ⟨h0, h1, 0⟩ ⟨(j : Int) + 1, v, z⟩)]; simp [e4]
                                  have HV2 : Hid ((freeJobs js true ⟨(j : Int) + 1, v, z⟩ ⟨t, ⟨ci, ⟨cx, cy, cz⟩⟩, ⟨h0, h1, h2⟩⟩ nn && (!decide ((⟨jt, jf⟩ : Ch.Job) = ⟨t, false⟩) || !decide (Ch.front ⟨h0, h1, h2⟩ = ⟨(j : Int) + 1, v, z⟩))) = false) := by unfold Hid; rw [hv2, decide_eq_true e3, show Ch.front ⟨h0, h1, h2⟩ = ⟨h0, h1, 0⟩ from rfl, decide_eq_true e4]; rfl
                                  clear e3 e4
                                  go_upto_region 20 with fail
                                  (refine wp_region_ext (by kernel_rfl) (by kernel_rfl) ?_; (repeat (first | go_big_quiet_step ((first | (intro _; go_at_call 16; exact ext_callG (front_f _ _ _ _) (by rintro w' ⟨o', n', rfl⟩; exact ⟨_, n', by first | (simp only [plus_plus]; rfl) | (simp only [plus_plus, Array.append_assoc]; rfl) | rfl⟩)))) | quiet_step ((first | (intro _; go_at_call 16; exact ext_callG (front_f _ _ _ _) (by rintro w' ⟨o', n', rfl⟩; exact ⟨_, n', by first | (simp only [plus_plus]; rfl) | (simp only [plus_plus, Array.append_assoc]; rfl) | rfl⟩)))))); refine wpQuiet_nil ?_; intro _ hw'; obtain ⟨oq, nq, hw''⟩ := hw'; subst hw'')
                                  go_wp2
                                  go_roundw
                                  case rel => first | exact ⟨nn + 1, by omega, by go_num, congrArg Value.bool (HST.out.trans HV2.out).symm, (by simp (maxDischargeDepth := 60))⟩ | (repeat apply Exists.intro; refine ⟨?_, rfl⟩; exact ⟨nn + 1, by omega, by go_num, congrArg Value.bool (HST.out.trans HV2.out).symm, (by simp (maxDischargeDepth := 60))⟩)
                                  case measure => simp [intOf]; omega
                                · have hq4 : ∀ w, (Go.binOp .neq 25 (.agg #[vi h0, vi h1, vi 0]) (.agg #[vi ((j : Int) + 1), vi v, vi z])).run Try.prog w = .ok (.bool true) w := fun w => by rw [neqStruct w (eqPlace w 9998 ⟨h0, h1, 0⟩ ⟨(j : Int) + 1, v, z⟩)]; simp [e4]
                                  have HV2 : Hid ((freeJobs js true ⟨(j : Int) + 1, v, z⟩ ⟨t, ⟨ci, ⟨cx, cy, cz⟩⟩, ⟨h0, h1, h2⟩⟩ nn && (!decide ((⟨jt, jf⟩ : Ch.Job) = ⟨t, false⟩) || !decide (Ch.front ⟨h0, h1, h2⟩ = ⟨(j : Int) + 1, v, z⟩))) = true) := by unfold Hid; rw [hv2, decide_eq_true e3, show Ch.front ⟨h0, h1, h2⟩ = ⟨h0, h1, 0⟩ from rfl, decide_eq_false e4]; rfl
                                  clear e3 e4
                                  go_upto_region 20 with fail
                                  (refine wp_region_ext (by kernel_rfl) (by kernel_rfl) ?_; (repeat (first | go_big_quiet_step ((first | (intro _; go_at_call 16; exact ext_callG (front_f _ _ _ _) (by rintro w' ⟨o', n', rfl⟩; exact ⟨_, n', by first | (simp only [plus_plus]; rfl) | (simp only [plus_plus, Array.append_assoc]; rfl) | rfl⟩)))) | quiet_step ((first | (intro _; go_at_call 16; exact ext_callG (front_f _ _ _ _) (by rintro w' ⟨o', n', rfl⟩; exact ⟨_, n', by first | (simp only [plus_plus]; rfl) | (simp only [plus_plus, Array.append_assoc]; rfl) | rfl⟩)))))); refine wpQuiet_nil ?_; intro _ hw'; obtain ⟨oq, nq, hw''⟩ := hw'; subst hw'')
                                  go_wp2
                                  go_roundw
                                  case rel => first | exact ⟨nn + 1, by omega, by go_num, congrArg Value.bool (HST.out.trans HV2.out).symm, (by simp (maxDischargeDepth := 60))⟩ | (repeat apply Exists.intro; refine ⟨?_, rfl⟩; exact ⟨nn + 1, by omega, by go_num, congrArg Value.bool (HST.out.trans HV2.out).symm, (by simp (maxDischargeDepth := 60))⟩)
                                  case measure => simp [intOf]; omega
                              · have hq3 : ∀ w, (Go.binOp .neq 74 (.agg #[vi jt, .bool jf]) (.agg #[vi t, .bool false])).run Try.prog w = .ok (.bool true) w := fun w => by rw [neqStruct w (eqJob w 9998 ⟨jt, jf⟩ ⟨t, false⟩)]; simp [e3]
                                have HV2 : Hid ((freeJobs js true ⟨(j : Int) + 1, v, z⟩ ⟨t, ⟨ci, ⟨cx, cy, cz⟩⟩, ⟨h0, h1, h2⟩⟩ nn && (!decide ((⟨jt, jf⟩ : Ch.Job) = ⟨t, false⟩) || !decide (Ch.front ⟨h0, h1, h2⟩ = ⟨(j : Int) + 1, v, z⟩))) = true) := by unfold Hid; rw [hv2, decide_eq_false e3]; rfl
                                clear e3
                                go_upto_region 20 with fail
                                (refine wp_region_ext (by kernel_rfl) (by kernel_rfl) ?_; (repeat (first | go_big_quiet_step ((first | (intro _; go_at_call 16; exact ext_callG (front_f _ _ _ _) (by rintro w' ⟨o', n', rfl⟩; exact ⟨_, n', by first | (simp only [plus_plus]; rfl) | (simp only [plus_plus, Array.append_assoc]; rfl) | rfl⟩)))) | quiet_step ((first | (intro _; go_at_call 16; exact ext_callG (front_f _ _ _ _) (by rintro w' ⟨o', n', rfl⟩; exact ⟨_, n', by first | (simp only [plus_plus]; rfl) | (simp only [plus_plus, Array.append_assoc]; rfl) | rfl⟩)))))); refine wpQuiet_nil ?_; intro _ hw'; obtain ⟨oq, nq, hw''⟩ := hw'; subst hw'')
                                go_wp2
                                go_roundw
                                case rel => first | exact ⟨nn + 1, by omega, by go_num, congrArg Value.bool (HST.out.trans HV2.out).symm, (by simp (maxDischargeDepth := 60))⟩ | (repeat apply Exists.intro; refine ⟨?_, rfl⟩; exact ⟨nn + 1, by omega, by go_num, congrArg Value.bool (HST.out.trans HV2.out).symm, (by simp (maxDischargeDepth := 60))⟩)
                                case measure => simp [intOf]; omega
                          · have hnm : nn = js.length := by have := HKC.out.len; omega
                            have HST2 : Hid (freeTo l js F ⟨(j : Int) + 1, v, z⟩ (kk + 1) = freeJobs js true ⟨(j : Int) + 1, v, z⟩ ⟨t, ⟨ci, ⟨cx, cy, cz⟩⟩, ⟨h0, h1, h2⟩⟩ js.length) := by unfold Hid; rw [freeTo_step HSS.out, HG.out]
                            subst hnm
                            go_wp2
                            go_roundw
                            case rel => first | exact ⟨kk + 1, by omega, by go_num, congrArg Value.bool HST2.out.symm, HXD.out.trans (by simp (maxDischargeDepth := 60))⟩ | (repeat apply Exists.intro; refine ⟨?_, rfl⟩; exact ⟨kk + 1, by omega, by go_num, congrArg Value.bool HST2.out.symm, HXD.out.trans (by simp (maxDischargeDepth := 60))⟩)
                            case measure => simp [intOf]; omega
                · have hkm : kk = l.length := by have := HSC.out.len; omega
                  subst hkm
                  cases hv : doP l js ls ⟨lo, hi, he⟩ ⟨(j : Int) + 1, v, z⟩
                  · have hv3 : freeTo l js F ⟨(j : Int) + 1, v, z⟩ l.length = false := by rw [HD.out]; exact hv
                    have HV := Lib.hid hv
                    rw [hv3]
                    clear hv hv3
                    go_wp2
                    go_roundw
                    case rel => first | exact ⟨k + 1, by omega, by go_num, by unfold Hid; rw [HT.out]; exact find_no HXX.out HV.out, (by simp (maxDischargeDepth := 60))⟩ | (repeat apply Exists.intro; refine ⟨?_, rfl⟩; exact ⟨k + 1, by omega, by go_num, by unfold Hid; rw [HT.out]; exact find_no HXX.out HV.out, (by simp (maxDischargeDepth := 60))⟩)
                    case measure => simp [intOf]; omega
                  · have hv3 : freeTo l js F ⟨(j : Int) + 1, v, z⟩ l.length = true := by rw [HD.out]; exact hv
                    have e := HPV.out
                    rw [HPK.out, HT.out, find_yes HXX.out hv] at e
                    simp [pickV] at e
                    obtain ⟨⟨rfl, rfl, rfl⟩, rfl⟩ := e
                    have hq9 : ∀ w, (Go.binOp .eql 25 (.agg #[vi ((j : Int) + 1), vi v, vi z]) (.agg #[vi ((j : Int) + 1), vi v, vi z])).run Try.prog w = .ok (.bool true) w := fun w => by rw [eqlPlace_of]; simp
                    rw [hv3]
                    clear hv hv3
                    go_upto_region 22 with fail
                    (refine wp_region_ext (by kernel_rfl) (by kernel_rfl) ?_; (repeat (first | go_big_quiet_step (fail) | quiet_step (fail))); refine wpQuiet_nil ?_; intro _ hw'; obtain ⟨oq, nq, hw''⟩ := hw'; subst hw'')
                    go_wp2
                    go_ret
                    exact ⟨rfl, HXC.out.trans (by simp (maxDischargeDepth := 60))⟩
            · have e := HPV.out
              rw [HPK.out, HT.out, List.drop_of_length_le (by have := HPN.out; omega)] at e
              simp [pickV] at e
              obtain ⟨⟨rfl, rfl, rfl⟩, rfl⟩ := e
              have hq9 : ∀ w, (Go.binOp .eql 25 (.agg #[vi 0, vi 0, vi 0]) (.agg #[vi 0, vi 0, vi 0])).run Try.prog w = .ok (.bool true) w := fun w => by rw [eqlPlace_of]; rfl
              go_wp2
              go_ret
              exact ⟨rfl, HXC.out.trans (by simp (maxDischargeDepth := 60))⟩
        · obtain ⟨E, HBF⟩ := errV_ne hbf
          clear hbf
          go_wp2_with (first | (go_at_call 36; (with_reducible refine (lightBook_any true _ _ _ _ _ _ _ _ HB).mono ?_); rintro e w1 ⟨rfl, o1, n1, rfl⟩) | (go_at_call 18; (with_reducible refine (check_at _ _ _ _ ls _ (Sl.below HZ.out (Ext.below (by simp (maxDischargeDepth := 60)))) HLV).mono ?_); rintro e w1 ⟨rfl, o1, n1, rfl⟩) | (go_at_call 37; (with_reducible refine (bookcheck_at _ last (nL : Int) a1 m1 c1 a2 m2 c2 l js _ (Sl.below HS.out (Ext.below (by simp (maxDischargeDepth := 60)))) (Sl.below HK.out (Ext.below (by simp (maxDischargeDepth := 60)))) i4 HBF).mono ?_); rintro e w1 ⟨rfl, o1, n1, rfl⟩))
          go_ret
          exact ⟨rfl, HX.out.trans (by simp (maxDischargeDepth := 60))⟩
      · obtain ⟨E, HLV⟩ := errV_ne hlf
        clear hlf
        go_wp2_with (first | (go_at_call 36; (with_reducible refine (lightBook_any true _ _ _ _ _ _ _ _ HB).mono ?_); rintro e w1 ⟨rfl, o1, n1, rfl⟩) | (go_at_call 18; (with_reducible refine (check_at _ _ _ _ ls _ (Sl.below HZ.out (Ext.below (by simp (maxDischargeDepth := 60)))) HLV).mono ?_); rintro e w1 ⟨rfl, o1, n1, rfl⟩))
        go_ret
        exact ⟨rfl, HX.out.trans (by simp (maxDischargeDepth := 60))⟩
end Go.Proofs.Ytplomeacjbkgnab
