/-
  The walk of TopPark.
-/
import Derived.Test.YtplomeacjbkgnabLightBook
import Derived.Test.YtplomeacjbkgnabPark
import Derived.Test.YtplomeacjbkgnabSameBook
import Derived.Test.YtplomeacjbkgnabBookLaw
namespace Go.Proofs.Ytplomeacjbkgnab
open Go.RowKit

theorem park_fault {b : Ch.Book} {ls : List Ch.Size} {c : Ch.Car} {f : Int} (h : Ch.park b ls c = .error f) : ¬ f = 0 := by
  unfold Ch.park at h
  split at h
  · rename_i hc; cases h; exact hc
  · split at h
    · cases h; decide
    · split at h
      · cases h; decide
      · split at h
        · cases h; decide
        · cases h

set_option maxRecDepth 100000 in
set_option maxHeartbeats 4000000 in
theorem topPark_walk (last id lo hi he : Int) (a1 : Option Addr) (m1 c1 : Nat) (a2 : Option Addr) (m2 c2 : Nat) (aL : Option Addr) (nL cL : Nat) (l : List Ch.Stay) (js : List Ch.Job) (ls : List Ch.Size) (w : World)
    (h : Sl w 8 stayCells l a1 m1 c1) (h2 : Sl w 2 jobCells js a2 m2 c2) (hL : Sl w 3 sizeCells ls aL nL cL) :
    Calls Try.prog 12 #[bookA last a1 m1 c1 a2 m2 c2, .slice aL nL cL, .agg #[vi id, vi lo, vi hi, vi he]] w fun e w' => e = .returned (.bool true) ∧ Ext w w' := by
  have b0 := hL.bound
  have bs0 := h.bound
  have bj0 := h2.bound
  have HF := Lib.hid h
  have HJ := Lib.hid h2
  have HL := Lib.hid hL
  have E1 := Lib.hid h.len
  have E2 := Lib.hid h2.len
  have E3 := Lib.hid hL.len
  have HP0 : Hid (Ch.park ⟨4, [], []⟩ [⟨99, 99, 99⟩] ⟨1, ⟨1, 1, 1⟩⟩ = .ok (⟨5, [⟨5, ⟨1, ⟨1, 1, 1⟩⟩, ⟨1, 0, 1⟩⟩], [⟨5, false⟩]⟩, 5)) := by unfold Hid; rfl
  clear h h2 hL
  go_enter Try.func12, Try.ntmps12
  go_upto_region 4 with (first
    | (go_at_call 40; refine (one_any _).mono ?_; rintro e wo ⟨ob, rfl, hone, oO, nO, rfl⟩)
    | (go_at_call 46; refine (park_any _ _ 4 1 1 1 1 none 0 0 none 0 0 _ 1 1 [] [] [⟨99, 99, 99⟩] _ (Sl.nil _ _ _) (Sl.nil _ _ _) (Sl.below hone (Ext.below (by simp (maxDischargeDepth := 60)))) (by decide) (by decide) (by decide) (by decide) (by decide) (by decide) HP0).mono ?_; rintro e wp ⟨v1, v2, rfl, hob, oQ, nQ, rfl⟩; obtain ⟨x1, e1, rfl, -⟩ := Sl.of_owns (c := 8) (enc := stayCells) hob.stays (by decide) (fun _ => rfl); obtain ⟨x2, e2, rfl, -⟩ := Sl.of_owns (c := 2) (enc := jobCells) hob.jobs (by decide) (fun _ => rfl)))
  generalize hW : World.alloc _ _ = w0
  have k0 : w0.cell? ⟨w.heap.size, 0, none⟩ = some (vi last) := by rw [← hW]; simp [go_sem]
  have k1 : w0.cell? ⟨w.heap.size, 1, none⟩ = some (.slice a1 m1 c1) := by rw [← hW]; simp [go_sem]
  have k2 : w0.cell? ⟨w.heap.size, 2, none⟩ = some (.slice a2 m2 c2) := by rw [← hW]; simp [go_sem]
  have q0 : w0.cell? ⟨w.heap.size + 1, 0, none⟩ = some (vi id) := by rw [← hW]; simp [go_sem]
  have q1 : w0.cell? ⟨w.heap.size + 1, 1, none⟩ = some (vi lo) := by rw [← hW]; simp [go_sem]
  have q2 : w0.cell? ⟨w.heap.size + 1, 2, none⟩ = some (vi hi) := by rw [← hW]; simp [go_sem]
  have q3 : w0.cell? ⟨w.heap.size + 1, 3, none⟩ = some (vi he) := by rw [← hW]; simp [go_sem]
  have hx : Ext w w0 := by rw [← hW]; exact (by simp (maxDischargeDepth := 60))
  have HX := Lib.hid hx
  have HS := Lib.hid (Sl.below HF.out hx.below)
  have HK := Lib.hid (Sl.below HJ.out hx.below)
  have HZ := Lib.hid (Sl.below HL.out hx.below)
  have z1 := cell_lt k0
  have z2 := cell_lt q1
  clear hW hx hob
  cases hb : decide (m1 ≤ 20 ∧ m2 ≤ 12)
  · have HB := Lib.hid hb
    clear hb
    go_wp2_with (first | (go_at_call 36; (with_reducible refine (lightBook_any false _ _ _ _ _ _ _ _ HB).mono ?_); rintro e w1 ⟨rfl, o1, n1, rfl⟩))
    go_ret
    exact ⟨rfl, HX.out.trans (by simp (maxDischargeDepth := 60))⟩
  · have HB := Lib.hid hb
    have hb12 := of_decide_eq_true hb
    have hm1 : m1 ≤ 20 := hb12.1
    have hm2 : m2 ≤ 12 := hb12.2
    clear hb hb12
    by_cases h6 : 6 < nL
    · have i6 : (6 : Int) < (nL : Int) := by omega
      go_wp2_with (first | (go_at_call 36; (with_reducible refine (lightBook_any true _ _ _ _ _ _ _ _ HB).mono ?_); rintro e w1 ⟨rfl, o1, n1, rfl⟩))
      go_ret
      exact ⟨rfl, HX.out.trans (by simp (maxDischargeDepth := 60))⟩
    · have i6 : (nL : Int) ≤ 6 := by omega
      have i6' : ¬ ((6 : Int) < (nL : Int)) := by omega
      by_cases hlf : Ch.levelsFault ls = 0
      · have HLV : Hid (errV (Ch.levelsFault ls) = .nilIface) := by unfold Hid; rw [hlf]; rfl
        have n1 := levels_len hlf
        rw [E3.out] at n1
        have nn1 := n1.1
        have nn4 := n1.2
        have i4 : (nL : Int) ≤ 4 := by omega
        have i1 : (1 : Int) ≤ (nL : Int) := by omega
        clear hlf n1
        by_cases hbf : Ch.bookFault ⟨last, l, js⟩ (nL : Int) = 0
        · have HBF : Hid (errV (Ch.bookFault ⟨last, l, js⟩ (nL : Int)) = .nilIface) := by unfold Hid; rw [hbf]; rfl
          have hok := Ch.bookFault_iff.1 hbf
          have l0 := hok.l1
          have l9 := hok.l2
          dsimp only at l0 l9
          have HOK := Lib.hid hok
          clear hbf hok
          go_upto_region 6 with (first | (go_at_call 36; (with_reducible refine (lightBook_any true _ _ _ _ _ _ _ _ HB).mono ?_); rintro e w1 ⟨rfl, o1, n1, rfl⟩) | (go_at_call 18; (with_reducible refine (check_at _ _ _ _ ls _ (Sl.below HZ.out (Ext.below (by simp (maxDischargeDepth := 60)))) HLV).mono ?_); rintro e w1 ⟨rfl, o1, n1, rfl⟩) | (go_at_call 37; (with_reducible refine (bookcheck_at _ last (nL : Int) a1 m1 c1 a2 m2 c2 l js _ (Sl.below HS.out (Ext.below (by simp (maxDischargeDepth := 60)))) (Sl.below HK.out (Ext.below (by simp (maxDischargeDepth := 60)))) i4 HBF).mono ?_); rintro e w1 ⟨rfl, o1, n1, rfl⟩))
          generalize hW : World.plus _ _ _ = wa
          have hxa : Ext w0 wa := by rw [← hW]; exact (by simp (maxDischargeDepth := 60))
          clear hW
          have ka0 := ext_cell hxa k0
          have ka1 := ext_cell hxa k1
          have ka2 := ext_cell hxa k2
          have qa0 := ext_cell hxa q0
          have qa1 := ext_cell hxa q1
          have qa2 := ext_cell hxa q2
          have qa3 := ext_cell hxa q3
          have za1 := cell_lt ka0
          have za2 := cell_lt qa1
          have HXA := Lib.hid hxa
          have SA := Lib.hid (Sl.below HS.out hxa.below)
          have JA := Lib.hid (Sl.below HK.out hxa.below)
          have LA := Lib.hid (Sl.below HZ.out hxa.below)
          clear hxa k0 k1 k2 q0 q1 q2 q3 z1 z2
          cases hpk : Ch.park ⟨last, l, js⟩ ls ⟨id, ⟨lo, hi, he⟩⟩ with
          | error f =>
            have HPK := Lib.hid hpk
            have HE : Hid (errV f = .iface 100 (vi f)) := errV_pos (park_fault hpk)
            clear hpk
            go_wp2_with (go_at_call 46; (with_reducible refine (park_err f last id lo hi he a1 m1 c1 a2 m2 c2 aL nL cL l js ls _ SA.out JA.out LA.out nn1 nn4 HPK).mono ?_); rintro e wp ⟨hee, oQ2, nQ2, rfl⟩; rw [show parkErrV f = .tuple #[bookA 0 none 0 0 none 0 0, vi 0, errV f] from rfl, HE.out] at hee; subst hee)
            go_ret
            exact ⟨rfl, (HX.out.trans HXA.out).trans (by simp (maxDischargeDepth := 60))⟩
          | ok r =>
            obtain ⟨x, kk⟩ := r
            have HN4 : ls.length ≤ 4 := by rw [E3.out]; exact nn4
            obtain ⟨p, hp1, hp2, hp3, hp4, hp5, rfl, rfl, hp8⟩ := Ch.park_ok (by rw [E3.out]; exact HOK.out) HN4 hpk
            obtain ⟨p0, p1, p2⟩ := p
            dsimp only at hp4 hpk hp8
            have HPK := Lib.hid hpk
            have HBX : Hid (errV (Ch.bookFault ⟨last + 1, l ++ [⟨last + 1, ⟨id, ⟨lo, hi, he⟩⟩, ⟨p0, p1, p2⟩⟩], js ++ [⟨last + 1, false⟩]⟩ (nL : Int)) = .nilIface) := by
              unfold Hid
              rw [Ch.bookFault_iff.2 (by rw [E3.out] at hp8; exact hp8)]; rfl
            clear hpk hp1 hp2 hp3 hp5 hp8
            go_upto_region 9 with (go_at_call 46; (with_reducible refine (park_any _ _ last id lo hi he a1 m1 c1 a2 m2 c2 aL nL cL l js ls _ SA.out JA.out LA.out nn1 nn4 (by omega) (by omega) l0 l9 HPK).mono ?_); rintro e wp ⟨v1, v2, rfl, hob, hxp⟩; have hs := hob.stays; have hj := hob.jobs; (rw [show (l ++ [(⟨last + 1, ⟨id, ⟨lo, hi, he⟩⟩, ⟨p0, p1, p2⟩⟩ : Ch.Stay)]).length = m1 + 1 by rw [List.length_append, E1.out]; rfl] at hs); (rw [show (js ++ [(⟨last + 1, false⟩ : Ch.Job)]).length = m2 + 1 by rw [List.length_append, E2.out]; rfl] at hj); obtain ⟨y1, e3, rfl, sl1⟩ := Sl.of_owns (c := 8) (enc := stayCells) hs (by decide) (fun _ => rfl); obtain ⟨y2, e4, rfl, sl2⟩ := Sl.of_owns (c := 2) (enc := jobCells) hj (by decide) (fun _ => rfl); clear hob hs hj)
            generalize hW : World.alloc _ _ = wb
            generalize hX : wp.heap.size = X
            have hxb : Ext wa wb := by rw [← hW]; exact hxp.alloc _
            have kx0 : wb.cell? ⟨X, 0, none⟩ = some (vi (last + 1)) := by rw [← hW, ← hX]; simp [go_sem]
            have kx1 : wb.cell? ⟨X, 1, none⟩ = some (.slice y1 (m1 + 1) e3) := by rw [← hW, ← hX]; simp [go_sem]
            have kx2 : wb.cell? ⟨X, 2, none⟩ = some (.slice y2 (m2 + 1) e4) := by rw [← hW, ← hX]; simp [go_sem]
            have sx1 : Sl wb 8 stayCells (l ++ [⟨last + 1, ⟨id, ⟨lo, hi, he⟩⟩, ⟨p0, p1, p2⟩⟩]) y1 (m1 + 1) e3 := by rw [← hW]; exact Sl.alloc sl1 _
            have sx2 : Sl wb 2 jobCells (js ++ [⟨last + 1, false⟩]) y2 (m2 + 1) e4 := by rw [← hW]; exact Sl.alloc sl2 _
            have kb0 := ext_cell hxb ka0
            have kb1 := ext_cell hxb ka1
            have kb2 := ext_cell hxb ka2
            have qb0 := ext_cell hxb qa0
            have qb1 := ext_cell hxb qa1
            have qb2 := ext_cell hxb qa2
            have qb3 := ext_cell hxb qa3
            have zb1 := cell_lt kb0
            have zb2 := cell_lt qb0
            have zb3 := cell_lt kx0
            have by1 := sx1.bound
            have by2 := sx2.bound
            have SX1 := Lib.hid sx1
            have SX2 := Lib.hid sx2
            have SB := Lib.hid (Sl.below SA.out hxb.below)
            have JB := Lib.hid (Sl.below JA.out hxb.below)
            have HXB := Lib.hid ((HX.out.trans HXA.out).trans hxb)
            obtain ⟨yb, yo, s, rfl, hs, ds⟩ := sx1.get (k := m1) (by omega)
            obtain ⟨jb, jo, jj, rfl, hj, dj⟩ := sx2.get (k := m2) (by omega)
            have hs' : s = ⟨last + 1, ⟨id, ⟨lo, hi, he⟩⟩, ⟨p0, p1, p2⟩⟩ := by
              rw [List.getElem?_append_right (by rw [E1.out]; exact Nat.le_refl _), E1.out, Nat.sub_self] at hs
              exact (Option.some.inj hs).symm
            have hj' : jj = ⟨last + 1, false⟩ := by
              rw [List.getElem?_append_right (by rw [E2.out]; exact Nat.le_refl _), E2.out, Nat.sub_self] at hj
              exact (Option.some.inj hj).symm
            subst hs' hj'
            have ds := at8 ds
            have dj := at2 dj
            have zs := cell_lt ds.1
            have zj := cell_lt dj.1
            have hq1 : ∀ w, (Go.binOp .eql 48 (.agg #[vi id, vi lo, vi hi, vi he]) (.agg #[vi id, vi lo, vi hi, vi he])).run Try.prog w = .ok (.bool true) w := fun w => by
              rw [eqlStruct w (eqCar w 9997 ⟨id, ⟨lo, hi, he⟩⟩ ⟨id, ⟨lo, hi, he⟩⟩)]; simp
            have hq2 : ∀ w, (Go.binOp .eql 74 (.agg #[vi (last + 1), .bool false]) (.agg #[vi (last + 1), .bool false])).run Try.prog w = .ok (.bool true) w := fun w => by rw [eqlJob_of]; simp
            have hw1 : IntKind.i64.wrap (last + 1) = last + 1 := IntWalk.i64_in _ (by omega)
            have hw2 : IntKind.i64.wrap ((m1 : Int) + 1) = (m1 : Int) + 1 := IntWalk.i64_in _ (by omega)
            have hw3 : IntKind.i64.wrap ((m2 : Int) + 1) = (m2 : Int) + 1 := IntWalk.i64_in _ (by omega)
            clear hW hX hxb sx1 sx2 sl1 sl2 hxp hs hj ka0 ka1 ka2 qa0 qa1 qa2 qa3 za1 za2
            go_upto_region 12 with (first | (go_at_call 37; (with_reducible refine (bookcheck_at _ (last + 1) (nL : Int) _ _ _ _ _ _ _ _ _ (Sl.below SX1.out (Ext.below (by simp (maxDischargeDepth := 60)))) (Sl.below SX2.out (Ext.below (by simp (maxDischargeDepth := 60)))) i4 HBX).mono ?_); rintro e w1 ⟨rfl, o1, n1, rfl⟩))
            generalize hW : World.plus _ _ _ = wc
            have hxc : Ext wb wc := by rw [← hW]; exact (by simp (maxDischargeDepth := 60))
            have kc0 := ext_cell hxc kb0
            have kc1 := ext_cell hxc kb1
            have kc2 := ext_cell hxc kb2
            have kxc0 := ext_cell hxc kx0
            have kxc1 := ext_cell hxc kx1
            have kxc2 := ext_cell hxc kx2
            have zc1 := cell_lt kc0
            have zc2 := cell_lt kxc0
            have HXC := Lib.hid hxc
            have hm0 : (0 : Int) ≤ (m1 : Int) := by omega
            have hm0' : (0 : Int) ≤ (m2 : Int) := by omega
            have hm3 : (m1 : Int) ≤ (e3 : Int) := by omega
            have hm4 : (m2 : Int) ≤ (e4 : Int) := by omega
            clear hW hxc
            go_region_held3 (fun w' => w'.cell? ⟨w.heap.size, 0, none⟩ = some (vi last) ∧ w'.cell? ⟨w.heap.size, 2, none⟩ = some (.slice a2 m2 c2) ∧ w'.cell? ⟨X, 1, none⟩ = some (.slice (some ⟨yb, yo, none⟩) (m1 + 1) e3) ∧ w'.cell? ⟨X, 2, none⟩ = some (.slice (some ⟨jb, jo, none⟩) (m2 + 1) e4))
              (first | go_keep | ((try dsimp only); (repeat' apply And.intro) <;> (simp (disch := (first | assumption | (simp; done) | (simp; omega))) [plus_cell, go_sem]; done))) (first | fail)
            go_upto_region 13 with fail
            generalize hW : World.drew _ = wd
            generalize hY : wc.heap.size = Y
            have hxd : Ext wc wd := by rw [← hW]; exact (by simp (maxDischargeDepth := 60))
            have ky0 : wd.cell? ⟨Y, 0, none⟩ = some (vi last) := by rw [← hW, ← hY]; simp [go_sem]
            have ky1 : wd.cell? ⟨Y, 1, none⟩ = some (.slice (some ⟨yb, yo, none⟩) m1 e3) := by rw [← hW, ← hY]; simp [go_sem]
            have ky2 : wd.cell? ⟨Y, 2, none⟩ = some (.slice (some ⟨jb, jo, none⟩) m2 e4) := by rw [← hW, ← hY]; simp [go_sem]
            have HXD := Lib.hid (HXC.out.trans hxd)
            have hxbd := HXC.out.trans hxd
            have kd0 := ext_cell hxd kc0
            have kd1 := ext_cell hxd kc1
            have kd2 := ext_cell hxd kc2
            have kxd0 := ext_cell hxd kxc0
            have kxd1 := ext_cell hxd kxc1
            have kxd2 := ext_cell hxd kxc2
            have qd0 := ext_cell hxbd qb0
            have qd1 := ext_cell hxbd qb1
            have qd2 := ext_cell hxbd qb2
            have qd3 := ext_cell hxbd qb3
            have dd0 := ext_cell hxbd ds.1
            have dd1 := ext_cell hxbd ds.2.1
            have dd2 := ext_cell hxbd ds.2.2.1
            have dd3 := ext_cell hxbd ds.2.2.2.1
            have dd4 := ext_cell hxbd ds.2.2.2.2.1
            have dj0 := ext_cell hxbd dj.1
            have dj1 := ext_cell hxbd dj.2
            have zd1 := cell_lt kd0
            have zd2 := cell_lt kxd0
            have zd3 := cell_lt qd0
            have zd4 := cell_lt dd0
            have zd5 := cell_lt dj0
            have zd6 := cell_lt ky0
            have HT1 : (l ++ [(⟨last + 1, ⟨id, ⟨lo, hi, he⟩⟩, ⟨p0, p1, p2⟩⟩ : Ch.Stay)]).take m1 = l := by rw [← E1.out]; exact List.take_left
            have HT2 : (js ++ [(⟨last + 1, false⟩ : Ch.Job)]).take m2 = js := by rw [← E2.out]; exact List.take_left
            have sy1 := sl_takeB (Sl.below SX1.out hxbd.below) (show m1 ≤ m1 + 1 by omega)
            have sy2 := sl_takeB (Sl.below SX2.out hxbd.below) (show m2 ≤ m2 + 1 by omega)
            rw [HT1] at sy1
            rw [HT2] at sy2
            have SY1 := Lib.hid sy1
            have SY2 := Lib.hid sy2
            have SD := Lib.hid (Sl.below SB.out hxbd.below)
            have JD := Lib.hid (Sl.below JB.out hxbd.below)
            have hm5 : (m1 : Int) < (m1 : Int) + 1 := by omega
            have hm6 : (m2 : Int) < (m2 : Int) + 1 := by omega
            clear hW hY hxd hxbd HT1 HT2 sy1 sy2 kc0 kc1 kc2 kxc0 kxc1 kxc2 kb0 kb1 kb2 kx0 kx1 kx2 qb0 qb1 qb2 qb3 ds dj zs zj zc1 zc2 zb1 zb2 zb3
            (refine wp_region_ext (by kernel_rfl) (by kernel_rfl) ?_; (repeat (first | go_big_quiet_step ((first | (intro _; go_at_call 47; exact ext_callG (sameBook_yes last (some ⟨yb, yo, none⟩) m1 e3 (some ⟨jb, jo, none⟩) m2 e4 a1 c1 a2 c2 l js _ (Sl.below SY1.out (Ext.below (by simp (maxDischargeDepth := 60)))) (Sl.below SY2.out (Ext.below (by simp (maxDischargeDepth := 60)))) (Sl.below SD.out (Ext.below (by simp (maxDischargeDepth := 60)))) (Sl.below JD.out (Ext.below (by simp (maxDischargeDepth := 60))))) (by rintro w' ⟨o', n', rfl⟩; exact ⟨_, n', by first | (simp only [plus_plus]; rfl) | (simp only [plus_plus, Array.append_assoc]; rfl) | rfl⟩)))) | quiet_step ((first | (intro _; go_at_call 47; exact ext_callG (sameBook_yes last (some ⟨yb, yo, none⟩) m1 e3 (some ⟨jb, jo, none⟩) m2 e4 a1 c1 a2 c2 l js _ (Sl.below SY1.out (Ext.below (by simp (maxDischargeDepth := 60)))) (Sl.below SY2.out (Ext.below (by simp (maxDischargeDepth := 60)))) (Sl.below SD.out (Ext.below (by simp (maxDischargeDepth := 60)))) (Sl.below JD.out (Ext.below (by simp (maxDischargeDepth := 60))))) (by rintro w' ⟨o', n', rfl⟩; exact ⟨_, n', by first | (simp only [plus_plus]; rfl) | (simp only [plus_plus, Array.append_assoc]; rfl) | rfl⟩)))))); refine wpQuiet_nil ?_; intro _ hw'; obtain ⟨oq, nq, hw''⟩ := hw'; subst hw'')
            go_wp2
            go_ret
            exact ⟨rfl, (HXB.out.trans HXD.out).trans (by simp (maxDischargeDepth := 60))⟩
        · obtain ⟨E, HBF⟩ := errV_ne hbf
          clear hbf
          go_wp2_with (first | (go_at_call 36; (with_reducible refine (lightBook_any true _ _ _ _ _ _ _ _ HB).mono ?_); rintro e w1 ⟨rfl, o1, n1, rfl⟩) | (go_at_call 18; (with_reducible refine (check_at _ _ _ _ ls _ (Sl.below HZ.out (Ext.below (by simp (maxDischargeDepth := 60)))) HLV).mono ?_); rintro e w1 ⟨rfl, o1, n1, rfl⟩) | (go_at_call 37; (with_reducible refine (bookcheck_at _ last (nL : Int) a1 m1 c1 a2 m2 c2 l js _ (Sl.below HS.out (Ext.below (by simp (maxDischargeDepth := 60)))) (Sl.below HK.out (Ext.below (by simp (maxDischargeDepth := 60)))) i4 HBF).mono ?_); rintro e w1 ⟨rfl, o1, n1, rfl⟩))
          go_ret
          exact ⟨rfl, HX.out.trans (by simp (maxDischargeDepth := 60))⟩
      · obtain ⟨E, HLV⟩ := errV_ne hlf
        clear hlf
        go_wp2_with (first | (go_at_call 36; (with_reducible refine (lightBook_any true _ _ _ _ _ _ _ _ HB).mono ?_); rintro e w1 ⟨rfl, o1, n1, rfl⟩) | (go_at_call 18; (with_reducible refine (check_at _ _ _ _ ls _ (Sl.below HZ.out (Ext.below (by simp (maxDischargeDepth := 60)))) HLV).mono ?_); rintro e w1 ⟨rfl, o1, n1, rfl⟩))
        go_ret
        exact ⟨rfl, HX.out.trans (by simp (maxDischargeDepth := 60))⟩
end Go.Proofs.Ytplomeacjbkgnab
