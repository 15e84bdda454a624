/-
  The walk of TopOver. (Laid by wip/mk_topover.py.)
-/
import Derived.Test.YtplomeacjbkgnabLightBook
import Derived.Test.YtplomeacjbkgnabDone
import Derived.Test.YtplomeacjbkgnabOverLaw
namespace Go.Proofs.Ytplomeacjbkgnab
open Go.RowKit

set_option maxRecDepth 100000 in
set_option maxHeartbeats 4000000 in
theorem topOver_none (last levels jt : Int) (a1 : Option Addr) (m1 c1 : Nat) (a2 : Option Addr) (m2 c2 : Nat) (l : List Ch.Stay) (js : List Ch.Job) (w : World)
    (h : Sl w 8 stayCells l a1 m1 c1) (h2 : Sl w 2 jobCells js a2 m2 c2) :
    Calls Try.prog 7 #[bookA last a1 m1 c1 a2 m2 c2, vi levels, .agg #[vi jt, .bool false], .bool false] w fun e w' => e = .returned (.bool true) ∧ Ext w w' := by
  have bs0 := h.bound
  have bj0 := h2.bound
  have HF := Lib.hid h
  have HJ := Lib.hid h2
  have E1 := Lib.hid h.len
  have E2 := Lib.hid h2.len
  clear h h2
  go_enter Try.func7, Try.ntmps7
  go_upto_region 4 with (go_at_call 35; (with_reducible refine (done_any 1 1 false true none 0 0 none 0 0 [] [] _ (Sl.nil _ _ _) (Sl.nil _ _ _) (by decide) (by decide)).mono ?_); rintro e wp ⟨v1, v2, rfl, hob, oQ, nQ, rfl⟩; have hs := hob.stays; have hj := hob.jobs; (rw [show (Ch.doneWith ⟨1, [], []⟩ ⟨1, false⟩ true).stays = [] from rfl] at hs); (rw [show (Ch.doneWith ⟨1, [], []⟩ ⟨1, false⟩ true).jobs = [] from rfl] at hj); (rw [show (Ch.doneWith ⟨1, [], []⟩ ⟨1, false⟩ true).last = 1 from rfl]); obtain ⟨x1, e1, rfl, -⟩ := Sl.of_owns (c := 8) (enc := stayCells) (l := []) hs (by decide) (fun _ => rfl); obtain ⟨x2, e2, rfl, -⟩ := Sl.of_owns (c := 2) (enc := jobCells) (l := []) hj (by decide) (fun _ => rfl); clear hob hs hj)
  generalize hT : w.heap.size + 1 + 1 + oQ.size = X
  generalize hW : World.alloc _ _ = w0
  have hT2 : w.heap.size + 2 ≤ X := by omega
  have k0 : w0.cell? ⟨w.heap.size, 0, none⟩ = some (vi last) := by rw [← hW]; simp [go_sem]
  have k1 : w0.cell? ⟨w.heap.size, 1, none⟩ = some (.slice a1 m1 c1) := by rw [← hW]; simp [go_sem]
  have k2 : w0.cell? ⟨w.heap.size, 2, none⟩ = some (.slice a2 m2 c2) := by rw [← hW]; simp [go_sem]
  have q0 : w0.cell? ⟨w.heap.size + 1, 0, none⟩ = some (vi jt) := by rw [← hW]; simp [go_sem]
  have q1 : w0.cell? ⟨w.heap.size + 1, 1, none⟩ = some (.bool false) := by rw [← hW]; simp [go_sem]
  have kx : BookCell w0 X (vi 1) (.slice x1 0 e1) (.slice x2 0 e2) := by
    rw [← hW, ← hT]; exact ⟨by simp [go_sem], by simp [go_sem], by simp [go_sem], by simp [go_sem]⟩
  have hx : Ext w w0 := by rw [← hW]; exact (by simp (maxDischargeDepth := 60))
  have HX := Lib.hid hx
  have HKX := Lib.hid kx
  have HS := Lib.hid (Sl.below HF.out hx.below)
  have HK := Lib.hid (Sl.below HJ.out hx.below)
  have z1 := cell_lt k0
  have z2 := cell_lt q0
  have z3 := kx.lt
  clear hW hx hT kx
  cases hb : decide (m1 ≤ 20 ∧ m2 ≤ 12)
  · have HB := Lib.hid hb
    clear hb
    go_wp2_with (first | (go_at_call 36; (with_reducible refine (lightBook_any false _ _ _ _ _ _ _ _ HB).mono ?_); rintro e w1 ⟨rfl, o1, n1, rfl⟩))
    go_ret
    exact ⟨rfl, HX.out.trans (by simp (maxDischargeDepth := 60))⟩
  · have HB := Lib.hid hb
    have hb12 := of_decide_eq_true hb
    have hm1 : m1 ≤ 20 := hb12.1
    have hm2 : m2 ≤ 12 := hb12.2
    clear hb hb12
    by_cases hl1 : levels < 1
    · go_wp2_with (first | (go_at_call 36; (with_reducible refine (lightBook_any true _ _ _ _ _ _ _ _ HB).mono ?_); rintro e w1 ⟨rfl, o1, n1, rfl⟩))
      go_ret
      exact ⟨rfl, HX.out.trans (by simp (maxDischargeDepth := 60))⟩
    · have i1 : 1 ≤ levels := by omega
      by_cases hl4 : 4 < levels
      · go_wp2_with (first | (go_at_call 36; (with_reducible refine (lightBook_any true _ _ _ _ _ _ _ _ HB).mono ?_); rintro e w1 ⟨rfl, o1, n1, rfl⟩))
        go_ret
        exact ⟨rfl, HX.out.trans (by simp (maxDischargeDepth := 60))⟩
      · have i4 : levels ≤ 4 := by omega
        by_cases hbf : Ch.bookFault ⟨last, l, js⟩ levels = 0
        · have HBF : Hid (errV (Ch.bookFault ⟨last, l, js⟩ levels) = .nilIface) := by unfold Hid; rw [hbf]; rfl
          have hok := Ch.bookFault_iff.1 hbf
          have HST := Lib.hid hok.stays.2
          have hdok := Ch.done_ok hok ⟨jt, false⟩ false
          obtain ⟨dS, hdS⟩ : ∃ dS, (Ch.doneWith ⟨last, l, js⟩ ⟨jt, false⟩ false).stays = dS := ⟨_, rfl⟩
          obtain ⟨dJ, hdJ⟩ : ∃ dJ, (Ch.doneWith ⟨last, l, js⟩ ⟨jt, false⟩ false).jobs = dJ := ⟨_, rfl⟩
          have hD : Ch.doneWith ⟨last, l, js⟩ ⟨jt, false⟩ false = ⟨last, dS, dJ⟩ := by rw [← hdS, ← hdJ]; rfl
          have HDB : Hid (errV (Ch.bookFault ⟨last, dS, dJ⟩ levels) = .nilIface) := by unfold Hid; rw [← hD, Ch.bookFault_iff.2 hdok]; rfl
          have HDS : Hid (dS = l.filter (Ch.staysKept ⟨jt, false⟩ false)) := by unfold Hid; rw [← hdS, Ch.done_stays]
          have HDJ : Hid (dJ = js.filter (Ch.jobsKept ⟨jt, false⟩ false)) := by unfold Hid; rw [← hdJ, Ch.done_jobs]
          have HNE : Hid (∀ (i : Nat) x, dJ[i]? = some x → x ≠ (⟨jt, false⟩ : Ch.Job)) := by unfold Hid; intro i x hi; rw [← hdJ] at hi; exact Ch.done_job_ne hi
          have HOV : Hid (dS = l) := by
            unfold Hid
            rw [← hdS]
            exact Ch.done_stays_same (by simp)
          have HD := Lib.hid hD
          have hls : dS.length ≤ 20 := by rw [HDS.out]; have := List.length_filter_le (Ch.staysKept ⟨jt, false⟩ false) l; have := E1.out; omega
          have hlj : dJ.length ≤ 12 := by rw [HDJ.out]; have := List.length_filter_le (Ch.jobsKept ⟨jt, false⟩ false) js; have := E2.out; omega
          clear hbf hok hdok hdS hdJ hD
          go_upto_region 6 with (first | (go_at_call 36; (with_reducible refine (lightBook_any true _ _ _ _ _ _ _ _ HB).mono ?_); rintro e w1 ⟨rfl, o1, n1, rfl⟩) | (go_at_call 37; (with_reducible refine (bookcheck_at _ last levels a1 m1 c1 a2 m2 c2 l js _ (Sl.below HS.out (Ext.below (by simp (maxDischargeDepth := 60)))) (Sl.below HK.out (Ext.below (by simp (maxDischargeDepth := 60)))) i4 HBF).mono ?_); rintro e w1 ⟨rfl, o1, n1, rfl⟩))
          generalize hW : World.plus _ _ _ = wa
          have hxa : Ext w0 wa := by rw [← hW]; exact (by simp (maxDischargeDepth := 60))
          clear hW
          have ka0 := ext_cell hxa k0
          have ka1 := ext_cell hxa k1
          have ka2 := ext_cell hxa k2
          have qa0 := ext_cell hxa q0
          have qa1 := ext_cell hxa q1
          have kxa := HKX.out.ext hxa
          have za1 := cell_lt ka0
          have za2 := cell_lt qa0
          have za3 := kxa.lt
          have HKXA := Lib.hid kxa
          have HXA := Lib.hid (HX.out.trans hxa)
          have SA := Lib.hid (Sl.below HS.out hxa.below)
          have JA := Lib.hid (Sl.below HK.out hxa.below)
          clear hxa kxa k0 k1 k2 q0 q1 z1 z2 z3
          go_upto_region 7 with (go_at_call 35; (with_reducible refine (done_any last jt false false a1 m1 c1 a2 m2 c2 l js _ SA.out JA.out (by omega) (by omega)).mono ?_); rintro e wp ⟨v1, v2, rfl, hob, hxp⟩; (rw [HD.out] at hob); (rw [HD.out]); have hs := hob.stays; have hj := hob.jobs; dsimp only at hs hj; obtain ⟨y1, e3, rfl, sl1⟩ := Sl.of_owns (c := 8) (enc := stayCells) hs (by decide) (fun _ => rfl); obtain ⟨y2, e4, rfl, sl2⟩ := Sl.of_owns (c := 2) (enc := jobCells) hj (by decide) (fun _ => rfl); clear hob sl1 sl2; obtain ⟨kp0, kp1, kp2, kpf⟩ := HKXA.out.ext hxp; have zp := cell_lt kp0)
          generalize hW : World.setCell (World.setCell (World.setCell _ _ _) _ _) _ _ = wb
          have kxb : BookCell wb X (vi last) (.slice y1 dS.length e3) (.slice y2 dJ.length e4) := by rw [← hW]; exact BookCell.set ⟨kp0, kp1, kp2, kpf⟩ _ _ _
          have Kb : Kept (Is X) wp wb := by rw [← hW]; exact (((Kept.refl _ _).put 0 _).put 1 _).put 2 _
          have kb0 := Kb.cell (ext_cell hxp ka0) (by omega)
          have kb1 := Kb.cell (ext_cell hxp ka1) (by omega)
          have kb2 := Kb.cell (ext_cell hxp ka2) (by omega)
          have qb0 := Kb.cell (ext_cell hxp qa0) (by omega)
          have qb1 := Kb.cell (ext_cell hxp qa1) (by omega)
          have hxb : Ext w wb := Kb.widen (HXA.out.trans hxp) (by omega)
          have nb1 : ∀ k, (Value.slice y1 dS.length e3).ownBlock = some k → wa.heap.size ≤ k := owns_block hs
          have nb2 : ∀ k, (Value.slice y2 dJ.length e4).ownBlock = some k → wa.heap.size ≤ k := owns_block hj
          have hs2 : wb.ownsRow wa.heap.size 80 8 (.slice y1 dS.length e3) dS.length (dS.flatMap stayCells) := by
            rw [← hW]
            refine owns_set (owns_set (owns_set hs _ ?_) _ ?_) _ ?_ <;> (intro e; have := nb1 _ e; (try dsimp only at this); omega)
          have hj2 : wb.ownsRow wa.heap.size 74 2 (.slice y2 dJ.length e4) dJ.length (dJ.flatMap jobCells) := by
            rw [← hW]
            refine owns_set (owns_set (owns_set hj _ ?_) _ ?_) _ ?_ <;> (intro e; have := nb2 _ e; (try dsimp only at this); omega)
          obtain ⟨_, _, e5, sd1⟩ := Sl.of_owns (c := 8) (enc := stayCells) hs2 (by decide) (fun _ => rfl)
          cases e5
          obtain ⟨_, _, e5, sd2⟩ := Sl.of_owns (c := 2) (enc := jobCells) hj2 (by decide) (fun _ => rfl)
          cases e5
          obtain ⟨kx0, kx1, kx2, kxf⟩ := kxb
          have SB := Lib.hid (Sl.below HF.out hxb.below)
          have JB := Lib.hid (Sl.below HJ.out hxb.below)
          have SD := Lib.hid sd1
          have JD := Lib.hid sd2
          have HXB := Lib.hid hxb
          have bd1 := sd1.bound
          have bd2 := sd2.bound
          have zb1 := cell_lt kb0
          have zb2 := cell_lt qb0
          have zb3 := cell_lt kx0
          clear hW hxp hs hj hs2 hj2 sd1 sd2 nb1 nb2 hxb Kb kp0 kp1 kp2 kpf zp ka0 ka1 ka2 qa0 qa1 za1 za2 za3 kxf
          go_upto_region 9 with (first | (go_at_call 37; (with_reducible refine (bookcheck_at _ last levels _ _ _ _ _ _ dS dJ _ (Sl.below SD.out (Ext.below (by simp (maxDischargeDepth := 60)))) (Sl.below JD.out (Ext.below (by simp (maxDischargeDepth := 60)))) i4 HDB).mono ?_); rintro e w1 ⟨rfl, o1, n1, rfl⟩))
          go_wp2
          go_loopw [10] (fun i wr => ∃ k : Nat, k ≤ dJ.length ∧ i = .int .i64 k ∧ Ext wb wr) (fun i _ => dJ.length - (intOf i).toNat)
          case atStart => exact ⟨0, by omega, rfl, (by simp (maxDischargeDepth := 60))⟩
          case round =>
            obtain ⟨k, hk, rfl, o, m, rfl⟩ := hrel
            by_cases hlt : k < dJ.length
            · obtain ⟨b, q, x, rfl, hx, dx⟩ := JD.out.get hlt
              have hne := HNE.out k x hx
              have dx := at2 dx
              have hq := cell_lt dx.1
              obtain ⟨xt, xf⟩ := x
              dsimp only at dx
              have hq1 : ∀ w, (Go.binOp .eql 74 (.agg #[vi xt, .bool xf]) (.agg #[vi jt, .bool false])).run Try.prog w = .ok (.bool false) w := fun w => by rw [eqlJob_of]; congr 2; exact decide_eq_false hne
              have hkj : (k : Int) < (dJ.length : Int) := by omega
              clear hx hne
              go_upto_region 12 with fail
              (refine wp_region_ext (by kernel_rfl) (by kernel_rfl) ?_; (repeat (first | go_big_quiet_step (fail) | quiet_step (fail))); refine wpQuiet_nil ?_; intro _ hw'; obtain ⟨oq, nq, hw''⟩ := hw'; subst hw'')
              go_wp2
              go_roundw
              case rel => exact ⟨k + 1, by omega, by go_num, (by simp (maxDischargeDepth := 60))⟩
              case measure => simp [intOf]; omega
            · have hkn : k = dJ.length := by omega
              subst hkn
              obtain ⟨fx, hfx⟩ : ∃ fx, Ch.indexOf (fun s : Ch.Stay => s.ticket == jt) l = fx := ⟨_, rfl⟩
              have HI1 : Hid (Ch.indexOf (fun s : Ch.Stay => s.ticket == jt) l = fx) := hfx
              have HI2 : Hid (Ch.indexOf (fun s : Ch.Stay => s.ticket == jt) dS = fx) := by unfold Hid; rw [HOV.out]; exact hfx
              clear hfx
              go_upto_region 17 with fail
              (refine wp_region_ext (by kernel_rfl) (by kernel_rfl) ?_; (repeat (first | go_big_quiet_step ((first | (intro _; go_at_call_of 38 (Value.agg #[vi last, Value.slice y1 dS.length e3, Value.slice y2 dJ.length e4]); exact ext_callG (find_at fx _ _ _ _ _ _ _ _ dS _ (Sl.below SD.out (Ext.below (by simp (maxDischargeDepth := 60)))) HI2) (by rintro w' ⟨o', n', rfl⟩; exact ⟨_, n', by first | (simp only [plus_plus]; rfl) | (simp only [plus_plus, Array.append_assoc]; rfl) | rfl⟩)) | (intro _; go_at_call_of 38 (Value.agg #[vi last, Value.slice a1 m1 c1, Value.slice a2 m2 c2]); exact ext_callG (find_at fx _ _ _ _ _ _ _ _ l _ (Sl.below SB.out (Ext.below (by simp (maxDischargeDepth := 60)))) HI1) (by rintro w' ⟨o', n', rfl⟩; exact ⟨_, n', by first | (simp only [plus_plus]; rfl) | (simp only [plus_plus, Array.append_assoc]; rfl) | rfl⟩)))) | quiet_step ((first | (intro _; go_at_call_of 38 (Value.agg #[vi last, Value.slice y1 dS.length e3, Value.slice y2 dJ.length e4]); exact ext_callG (find_at fx _ _ _ _ _ _ _ _ dS _ (Sl.below SD.out (Ext.below (by simp (maxDischargeDepth := 60)))) HI2) (by rintro w' ⟨o', n', rfl⟩; exact ⟨_, n', by first | (simp only [plus_plus]; rfl) | (simp only [plus_plus, Array.append_assoc]; rfl) | rfl⟩)) | (intro _; go_at_call_of 38 (Value.agg #[vi last, Value.slice a1 m1 c1, Value.slice a2 m2 c2]); exact ext_callG (find_at fx _ _ _ _ _ _ _ _ l _ (Sl.below SB.out (Ext.below (by simp (maxDischargeDepth := 60)))) HI1) (by rintro w' ⟨o', n', rfl⟩; exact ⟨_, n', by first | (simp only [plus_plus]; rfl) | (simp only [plus_plus, Array.append_assoc]; rfl) | rfl⟩)))))); refine wpQuiet_nil ?_; intro _ hw'; obtain ⟨oq, nq, hw''⟩ := hw'; subst hw'')
              go_wp2
              go_loopw [11, 12] (fun at_ i wr => ∃ a k : Nat, k ≤ m1 ∧ at_ = .int .i64 a ∧ i = .int .i64 k ∧ Hid (a ≤ Ch.rank (Ch.staysKept ⟨jt, false⟩ false) l k) ∧ Ext wb wr) (fun _ i _ => m1 - (intOf i).toNat)
              case atStart => exact ⟨0, 0, by omega, rfl, rfl, Nat.zero_le _, (by simp (maxDischargeDepth := 60))⟩
              case round =>
                obtain ⟨a, k, hk, rfl, rfl, HA, o1, m1', rfl⟩ := hrel
                by_cases hlt2 : k < m1
                · obtain ⟨b, q, st, rfl, hst, dst⟩ := SB.out.get hlt2
                  have dst := at8 dst
                  have hsb := cell_lt dst.1
                  have HSS := Lib.hid hst
                  obtain ⟨t, ⟨ci, ⟨cx, cy, cz⟩⟩, ⟨h0, h1, h2⟩⟩ := st
                  dsimp only at dst
                  have hkj : (k : Int) < (m1 : Int) := by omega
                  by_cases ht : t = jt
                  · have hte : (t == jt) = true := by simpa using ht
                    have HLE := Lib.hid (Nat.le_trans HA.out (Ch.rank_le (q := Ch.staysKept ⟨jt, false⟩ false) hst))
                    clear hst
                    go_upto_region 23 with fail
                    (refine wp_region_ext (by kernel_rfl) (by kernel_rfl) ?_; (repeat (first | go_big_quiet_step (fail) | quiet_step (fail))); refine wpQuiet_nil ?_; intro _ hw'; obtain ⟨oq, nq, hw''⟩ := hw'; subst hw'')
                    go_wp2
                    go_roundw
                    case rel => first | exact ⟨a, k + 1, by omega, rfl, by go_num, HLE.out, (by simp (maxDischargeDepth := 60))⟩ | (repeat apply Exists.intro; refine ⟨?_, rfl⟩; exact ⟨a, k + 1, by omega, rfl, by go_num, HLE.out, (by simp (maxDischargeDepth := 60))⟩)
                    case measure => simp [intOf]; omega
                  · have hte : (t == jt) = false := by simpa using ht
                    have hidx := Ch.index_rank HST.out hst (q := Ch.staysKept ⟨jt, false⟩ false) (Ch.staysKept_other ht)
                    have hrs := Ch.rank_le (q := Ch.staysKept ⟨jt, false⟩ false) hst
                    have ha := HA.out
                    rw [← HDS.out] at hidx
                    generalize hr : Ch.rank (Ch.staysKept ⟨jt, false⟩ false) l k = r at hidx hrs ha
                    have HI : Hid (Ch.indexOf (fun x : Ch.Stay => x.ticket == t) dS = (r : Int)) := hidx.1
                    have hrl := lt_of_get hidx.2
                    obtain ⟨b3, q3, y, e6, hy, dy⟩ := SD.out.get hrl
                    obtain rfl : y = ⟨t, ⟨ci, ⟨cx, cy, cz⟩⟩, ⟨h0, h1, h2⟩⟩ := Option.some.inj (hy.symm.trans hidx.2)
                    subst e6
                    have dy := at8 dy
                    dsimp only at dy
                    have hyb := cell_lt dy.1
                    have hra : ¬ ((r : Int) < (a : Int)) := by omega
                    have hrd : (r : Int) < (dS.length : Int) := by omega
                    have hr0 : (0 : Int) ≤ (r : Int) := by omega
                    have hq1 : ∀ w, (Go.binOp .neq 80 (.agg #[vi t, vi ci, vi cx, vi cy, vi cz, vi h0, vi h1, vi h2]) (.agg #[vi t, vi ci, vi cx, vi cy, vi cz, vi h0, vi h1, vi h2])).run Try.prog w = .ok (.bool false) w := fun w => by
                      rw [neqStruct w (eqStay w 9996 ⟨t, ⟨ci, ⟨cx, cy, cz⟩⟩, ⟨h0, h1, h2⟩⟩ ⟨t, ⟨ci, ⟨cx, cy, cz⟩⟩, ⟨h0, h1, h2⟩⟩)]; simp
                    have HRS := Lib.hid hrs
                    clear hst hidx hy ha hr hrs
                    go_upto_region 23 with fail
                    (refine wp_region_ext (by kernel_rfl) (by kernel_rfl) ?_; (repeat (first | go_big_quiet_step (fail) | quiet_step (fail))); refine wpQuiet_nil ?_; intro _ hw'; obtain ⟨oq, nq, hw''⟩ := hw'; subst hw'')
                    go_upto_region 24 with fail
                    (refine wp_region_ext (by kernel_rfl) (by kernel_rfl) ?_; (repeat (first | go_big_quiet_step ((first | (intro _; go_at_call 38; exact ext_callG (find_at (r : Int) _ _ _ _ _ _ _ _ dS _ (Sl.below SD.out (Ext.below (by simp (maxDischargeDepth := 60)))) HI) (by rintro w' ⟨o', n', rfl⟩; exact ⟨_, n', by first | (simp only [plus_plus]; rfl) | (simp only [plus_plus, Array.append_assoc]; rfl) | rfl⟩)))) | quiet_step ((first | (intro _; go_at_call 38; exact ext_callG (find_at (r : Int) _ _ _ _ _ _ _ _ dS _ (Sl.below SD.out (Ext.below (by simp (maxDischargeDepth := 60)))) HI) (by rintro w' ⟨o', n', rfl⟩; exact ⟨_, n', by first | (simp only [plus_plus]; rfl) | (simp only [plus_plus, Array.append_assoc]; rfl) | rfl⟩)))))); refine wpQuiet_nil ?_; intro _ hw'; obtain ⟨oq, nq, hw''⟩ := hw'; subst hw'')
                    go_upto_region 25 with fail
                    (refine wp_region_ext (by kernel_rfl) (by kernel_rfl) ?_; (repeat (first | go_big_quiet_step (fail) | quiet_step (fail))); refine wpQuiet_nil ?_; intro _ hw'; obtain ⟨oq, nq, hw''⟩ := hw'; subst hw'')
                    go_wp2
                    go_roundw
                    case rel => first | exact ⟨r, k + 1, by omega, rfl, by go_num, HRS.out, (by simp (maxDischargeDepth := 60))⟩ | (repeat apply Exists.intro; refine ⟨?_, rfl⟩; exact ⟨r, k + 1, by omega, rfl, by go_num, HRS.out, (by simp (maxDischargeDepth := 60))⟩)
                    case measure => simp [intOf]; omega
                · have hkm : k = m1 := by omega
                  subst hkm
                  go_wp2
                  go_loopw [11, 14] (fun at_ i wr => ∃ a k : Nat, k ≤ dJ.length ∧ a ≤ m2 ∧ at_ = .int .i64 a ∧ i = .int .i64 k ∧ Hid (dJ.drop k = (js.drop a).filter (Ch.jobsKept ⟨jt, false⟩ false)) ∧ Ext wb wr) (fun _ i _ => dJ.length - (intOf i).toNat)
                  case atStart => exact ⟨0, 0, by omega, by omega, rfl, rfl, by simpa [Hid] using HDJ.out, (by simp (maxDischargeDepth := 60))⟩
                  case round =>
                    obtain ⟨a2', k2, hk2, ha2, rfl, rfl, HT, o2, m2', rfl⟩ := hrel
                    by_cases hlt3 : k2 < dJ.length
                    · obtain ⟨b, q, x, rfl, hx, dx⟩ := JD.out.get hlt3
                      have dx := at2 dx
                      have hq := cell_lt dx.1
                      have hkeep : Ch.jobsKept ⟨jt, false⟩ false x = true := Ch.filter_head (l := js) (i := k2) (by rw [← HDJ.out]; exact hx)
                      have hdr := drop_at hx
                      rw [HT.out] at hdr
                      obtain ⟨xt, xf⟩ := x
                      dsimp only at dx
                      have HKP := Lib.hid hkeep
                      have HDR := Lib.hid hdr
                      have hkj : (k2 : Int) < (dJ.length : Int) := by omega
                      clear hx hkeep hdr
                      go_upto_region 32 with fail
                      go_loopw [11] (fun at_ wj => ∃ c : Nat, c ≤ m2 ∧ at_ = .int .i64 c ∧ Hid ((js.drop c).filter (Ch.jobsKept ⟨jt, false⟩ false) = ⟨xt, xf⟩ :: dJ.drop (k2 + 1)) ∧ Ext wb wj) (fun at_ _ => m2 - (intOf at_).toNat)
                      case atStart => exact ⟨a2', ha2, rfl, HDR.out, (by simp (maxDischargeDepth := 60))⟩
                      case round =>
                        obtain ⟨c, hc, rfl, HC, o3, m3, rfl⟩ := hrel
                        have hcl : c < m2 := by have := Ch.filter_drop_lt HC.out; have := E2.out; omega
                        obtain ⟨b4, q4, y, rfl, hy, dy⟩ := JB.out.get hcl
                        have dy := at2 dy
                        have hq4 := cell_lt dy.1
                        have hcj : (c : Int) < (m2 : Int) := by omega
                        have hcj0 : (0 : Int) ≤ (c : Int) := by omega
                        by_cases hyx : y = ⟨xt, xf⟩
                        · subst hyx
                          dsimp only at dy
                          have hq1 : ∀ w, (Go.binOp .neq 74 (.agg #[vi xt, .bool xf]) (.agg #[vi xt, .bool xf])).run Try.prog w = .ok (.bool false) w := fun w => by
                            rw [neqStruct w (eqJob w 9998 ⟨xt, xf⟩ ⟨xt, xf⟩)]; simp
                          have HN := Lib.hid (Ch.filter_drop_eq HC.out hy HKP.out)
                          clear hy
                          go_upto_region 32 with fail
                          (refine wp_region_ext (by kernel_rfl) (by kernel_rfl) ?_; (repeat (first | go_big_quiet_step (fail) | quiet_step (fail))); refine wpQuiet_nil ?_; intro _ hw'; obtain ⟨oq, nq, hw''⟩ := hw'; subst hw'')
                          go_wp2
                          go_roundw
                          case rel => first | exact ⟨c + 1, k2 + 1, by omega, by omega, by go_num, by go_num, HN.out.symm, (by simp (maxDischargeDepth := 60))⟩ | (repeat apply Exists.intro; refine ⟨?_, rfl⟩; exact ⟨c + 1, k2 + 1, by omega, by omega, by go_num, by go_num, HN.out.symm, (by simp (maxDischargeDepth := 60))⟩)
                          case measure => simp [intOf]; omega
                        · obtain ⟨yt, yf⟩ := y
                          dsimp only at dy
                          have hq1 : ∀ w, (Go.binOp .neq 74 (.agg #[vi yt, .bool yf]) (.agg #[vi xt, .bool xf])).run Try.prog w = .ok (.bool true) w := fun w => by
                            rw [neqStruct w (eqJob w 9998 ⟨yt, yf⟩ ⟨xt, xf⟩)]; simp [hyx]
                          have hnx := Ch.filter_drop_ne HC.out hy hyx
                          have hyt : yt = jt := Ch.jobsKept_not hnx.1
                          have HN := Lib.hid hnx.2
                          subst hyt
                          clear hy hyx hnx
                          go_upto_region 32 with fail
                          (refine wp_region_ext (by kernel_rfl) (by kernel_rfl) ?_; (repeat (first | go_big_quiet_step (fail) | quiet_step (fail))); refine wpQuiet_nil ?_; intro _ hw'; obtain ⟨oq, nq, hw''⟩ := hw'; subst hw'')
                          go_upto_region 33 with fail
                          (refine wp_region_ext (by kernel_rfl) (by kernel_rfl) ?_; (repeat (first | go_big_quiet_step (fail) | quiet_step (fail))); refine wpQuiet_nil ?_; intro _ hw'; obtain ⟨oq, nq, hw''⟩ := hw'; subst hw'')
                          go_wp2
                          go_roundw
                          case rel => first | exact ⟨c + 1, by omega, by go_num, HN.out, (by simp (maxDischargeDepth := 60))⟩ | (repeat apply Exists.intro; refine ⟨?_, rfl⟩; exact ⟨c + 1, by omega, by go_num, HN.out, (by simp (maxDischargeDepth := 60))⟩)
                          case measure => simp [intOf]; omega
                    · have hkn : k2 = dJ.length := by omega
                      subst hkn
                      have HEND : Hid ((js.drop a2').filter (Ch.jobsKept ⟨jt, false⟩ false) = []) := by unfold Hid; rw [← HT.out, List.drop_length]
                      go_wp2
                      go_loopw [11] (fun at_ wj => ∃ c : Nat, c ≤ m2 ∧ at_ = .int .i64 c ∧ Hid ((js.drop c).filter (Ch.jobsKept ⟨jt, false⟩ false) = []) ∧ Ext wb wj) (fun at_ _ => m2 - (intOf at_).toNat)
                      case atStart => exact ⟨a2', ha2, rfl, HEND.out, (by simp (maxDischargeDepth := 60))⟩
                      case round =>
                        obtain ⟨c, hc, rfl, HC, o3, m3, rfl⟩ := hrel
                        by_cases hcl : c < m2
                        · obtain ⟨b4, q4, y, rfl, hy, dy⟩ := JB.out.get hcl
                          have dy := at2 dy
                          have hq4 := cell_lt dy.1
                          have hcj : (c : Int) < (m2 : Int) := by omega
                          have hnx := Ch.filter_end HC.out hy
                          obtain ⟨yt, yf⟩ := y
                          dsimp only at dy
                          have hyt : yt = jt := Ch.jobsKept_not hnx.1
                          have HN := Lib.hid hnx.2
                          subst hyt
                          clear hy hnx
                          go_upto_region 39 with fail
                          (refine wp_region_ext (by kernel_rfl) (by kernel_rfl) ?_; (repeat (first | go_big_quiet_step (fail) | quiet_step (fail))); refine wpQuiet_nil ?_; intro _ hw'; obtain ⟨oq, nq, hw''⟩ := hw'; subst hw'')
                          go_wp2
                          go_roundw
                          case rel => first | exact ⟨c + 1, by omega, by go_num, HN.out, (by simp (maxDischargeDepth := 60))⟩ | (repeat apply Exists.intro; refine ⟨?_, rfl⟩; exact ⟨c + 1, by omega, by go_num, HN.out, (by simp (maxDischargeDepth := 60))⟩)
                          case measure => simp [intOf]; omega
                        · have hcm : c = m2 := by omega
                          subst hcm
                          go_wp2
                          go_ret
                          exact ⟨rfl, HXB.out.trans (by simp (maxDischargeDepth := 60))⟩
        · obtain ⟨E, HBF⟩ := errV_ne hbf
          clear hbf
          go_wp2_with (first | (go_at_call 36; (with_reducible refine (lightBook_any true _ _ _ _ _ _ _ _ HB).mono ?_); rintro e w1 ⟨rfl, o1, n1, rfl⟩) | (go_at_call 37; (with_reducible refine (bookcheck_at _ last levels a1 m1 c1 a2 m2 c2 l js _ (Sl.below HS.out (Ext.below (by simp (maxDischargeDepth := 60)))) (Sl.below HK.out (Ext.below (by simp (maxDischargeDepth := 60)))) i4 HBF).mono ?_); rintro e w1 ⟨rfl, o1, n1, rfl⟩))
          go_ret
          exact ⟨rfl, HX.out.trans (by simp (maxDischargeDepth := 60))⟩

set_option maxRecDepth 100000 in
set_option maxHeartbeats 4000000 in
theorem topOver_gone (last levels jt : Int) (a1 : Option Addr) (m1 c1 : Nat) (a2 : Option Addr) (m2 c2 : Nat) (l : List Ch.Stay) (js : List Ch.Job) (w : World)
    (h : Sl w 8 stayCells l a1 m1 c1) (h2 : Sl w 2 jobCells js a2 m2 c2) :
    Calls Try.prog 7 #[bookA last a1 m1 c1 a2 m2 c2, vi levels, .agg #[vi jt, .bool false], .bool true] w fun e w' => e = .returned (.bool true) ∧ Ext w w' := by
  have bs0 := h.bound
  have bj0 := h2.bound
  have HF := Lib.hid h
  have HJ := Lib.hid h2
  have E1 := Lib.hid h.len
  have E2 := Lib.hid h2.len
  clear h h2
  go_enter Try.func7, Try.ntmps7
  go_upto_region 4 with (go_at_call 35; (with_reducible refine (done_any 1 1 false true none 0 0 none 0 0 [] [] _ (Sl.nil _ _ _) (Sl.nil _ _ _) (by decide) (by decide)).mono ?_); rintro e wp ⟨v1, v2, rfl, hob, oQ, nQ, rfl⟩; have hs := hob.stays; have hj := hob.jobs; (rw [show (Ch.doneWith ⟨1, [], []⟩ ⟨1, false⟩ true).stays = [] from rfl] at hs); (rw [show (Ch.doneWith ⟨1, [], []⟩ ⟨1, false⟩ true).jobs = [] from rfl] at hj); (rw [show (Ch.doneWith ⟨1, [], []⟩ ⟨1, false⟩ true).last = 1 from rfl]); obtain ⟨x1, e1, rfl, -⟩ := Sl.of_owns (c := 8) (enc := stayCells) (l := []) hs (by decide) (fun _ => rfl); obtain ⟨x2, e2, rfl, -⟩ := Sl.of_owns (c := 2) (enc := jobCells) (l := []) hj (by decide) (fun _ => rfl); clear hob hs hj)
  generalize hT : w.heap.size + 1 + 1 + oQ.size = X
  generalize hW : World.alloc _ _ = w0
  have hT2 : w.heap.size + 2 ≤ X := by omega
  have k0 : w0.cell? ⟨w.heap.size, 0, none⟩ = some (vi last) := by rw [← hW]; simp [go_sem]
  have k1 : w0.cell? ⟨w.heap.size, 1, none⟩ = some (.slice a1 m1 c1) := by rw [← hW]; simp [go_sem]
  have k2 : w0.cell? ⟨w.heap.size, 2, none⟩ = some (.slice a2 m2 c2) := by rw [← hW]; simp [go_sem]
  have q0 : w0.cell? ⟨w.heap.size + 1, 0, none⟩ = some (vi jt) := by rw [← hW]; simp [go_sem]
  have q1 : w0.cell? ⟨w.heap.size + 1, 1, none⟩ = some (.bool false) := by rw [← hW]; simp [go_sem]
  have kx : BookCell w0 X (vi 1) (.slice x1 0 e1) (.slice x2 0 e2) := by
    rw [← hW, ← hT]; exact ⟨by simp [go_sem], by simp [go_sem], by simp [go_sem], by simp [go_sem]⟩
  have hx : Ext w w0 := by rw [← hW]; exact (by simp (maxDischargeDepth := 60))
  have HX := Lib.hid hx
  have HKX := Lib.hid kx
  have HS := Lib.hid (Sl.below HF.out hx.below)
  have HK := Lib.hid (Sl.below HJ.out hx.below)
  have z1 := cell_lt k0
  have z2 := cell_lt q0
  have z3 := kx.lt
  clear hW hx hT kx
  cases hb : decide (m1 ≤ 20 ∧ m2 ≤ 12)
  · have HB := Lib.hid hb
    clear hb
    go_wp2_with (first | (go_at_call 36; (with_reducible refine (lightBook_any false _ _ _ _ _ _ _ _ HB).mono ?_); rintro e w1 ⟨rfl, o1, n1, rfl⟩))
    go_ret
    exact ⟨rfl, HX.out.trans (by simp (maxDischargeDepth := 60))⟩
  · have HB := Lib.hid hb
    have hb12 := of_decide_eq_true hb
    have hm1 : m1 ≤ 20 := hb12.1
    have hm2 : m2 ≤ 12 := hb12.2
    clear hb hb12
    by_cases hl1 : levels < 1
    · go_wp2_with (first | (go_at_call 36; (with_reducible refine (lightBook_any true _ _ _ _ _ _ _ _ HB).mono ?_); rintro e w1 ⟨rfl, o1, n1, rfl⟩))
      go_ret
      exact ⟨rfl, HX.out.trans (by simp (maxDischargeDepth := 60))⟩
    · have i1 : 1 ≤ levels := by omega
      by_cases hl4 : 4 < levels
      · go_wp2_with (first | (go_at_call 36; (with_reducible refine (lightBook_any true _ _ _ _ _ _ _ _ HB).mono ?_); rintro e w1 ⟨rfl, o1, n1, rfl⟩))
        go_ret
        exact ⟨rfl, HX.out.trans (by simp (maxDischargeDepth := 60))⟩
      · have i4 : levels ≤ 4 := by omega
        by_cases hbf : Ch.bookFault ⟨last, l, js⟩ levels = 0
        · have HBF : Hid (errV (Ch.bookFault ⟨last, l, js⟩ levels) = .nilIface) := by unfold Hid; rw [hbf]; rfl
          have hok := Ch.bookFault_iff.1 hbf
          have HST := Lib.hid hok.stays.2
          have hdok := Ch.done_ok hok ⟨jt, false⟩ true
          obtain ⟨dS, hdS⟩ : ∃ dS, (Ch.doneWith ⟨last, l, js⟩ ⟨jt, false⟩ true).stays = dS := ⟨_, rfl⟩
          obtain ⟨dJ, hdJ⟩ : ∃ dJ, (Ch.doneWith ⟨last, l, js⟩ ⟨jt, false⟩ true).jobs = dJ := ⟨_, rfl⟩
          have hD : Ch.doneWith ⟨last, l, js⟩ ⟨jt, false⟩ true = ⟨last, dS, dJ⟩ := by rw [← hdS, ← hdJ]; rfl
          have HDB : Hid (errV (Ch.bookFault ⟨last, dS, dJ⟩ levels) = .nilIface) := by unfold Hid; rw [← hD, Ch.bookFault_iff.2 hdok]; rfl
          have HDS : Hid (dS = l.filter (Ch.staysKept ⟨jt, false⟩ true)) := by unfold Hid; rw [← hdS, Ch.done_stays]
          have HDJ : Hid (dJ = js.filter (Ch.jobsKept ⟨jt, false⟩ true)) := by unfold Hid; rw [← hdJ, Ch.done_jobs]
          have HNE : Hid (∀ (i : Nat) x, dJ[i]? = some x → x ≠ (⟨jt, false⟩ : Ch.Job)) := by unfold Hid; intro i x hi; rw [← hdJ] at hi; exact Ch.done_job_ne hi
          have HOV : Hid (Ch.indexOf (fun s : Ch.Stay => s.ticket == jt) dS = -1) := by
            unfold Hid
            rw [← hdS]
            exact Ch.done_find (j := ⟨jt, false⟩) (by simp)
          have HD := Lib.hid hD
          have hls : dS.length ≤ 20 := by rw [HDS.out]; have := List.length_filter_le (Ch.staysKept ⟨jt, false⟩ true) l; have := E1.out; omega
          have hlj : dJ.length ≤ 12 := by rw [HDJ.out]; have := List.length_filter_le (Ch.jobsKept ⟨jt, false⟩ true) js; have := E2.out; omega
          clear hbf hok hdok hdS hdJ hD
          go_upto_region 6 with (first | (go_at_call 36; (with_reducible refine (lightBook_any true _ _ _ _ _ _ _ _ HB).mono ?_); rintro e w1 ⟨rfl, o1, n1, rfl⟩) | (go_at_call 37; (with_reducible refine (bookcheck_at _ last levels a1 m1 c1 a2 m2 c2 l js _ (Sl.below HS.out (Ext.below (by simp (maxDischargeDepth := 60)))) (Sl.below HK.out (Ext.below (by simp (maxDischargeDepth := 60)))) i4 HBF).mono ?_); rintro e w1 ⟨rfl, o1, n1, rfl⟩))
          generalize hW : World.plus _ _ _ = wa
          have hxa : Ext w0 wa := by rw [← hW]; exact (by simp (maxDischargeDepth := 60))
          clear hW
          have ka0 := ext_cell hxa k0
          have ka1 := ext_cell hxa k1
          have ka2 := ext_cell hxa k2
          have qa0 := ext_cell hxa q0
          have qa1 := ext_cell hxa q1
          have kxa := HKX.out.ext hxa
          have za1 := cell_lt ka0
          have za2 := cell_lt qa0
          have za3 := kxa.lt
          have HKXA := Lib.hid kxa
          have HXA := Lib.hid (HX.out.trans hxa)
          have SA := Lib.hid (Sl.below HS.out hxa.below)
          have JA := Lib.hid (Sl.below HK.out hxa.below)
          clear hxa kxa k0 k1 k2 q0 q1 z1 z2 z3
          go_upto_region 7 with (go_at_call 35; (with_reducible refine (done_any last jt false true a1 m1 c1 a2 m2 c2 l js _ SA.out JA.out (by omega) (by omega)).mono ?_); rintro e wp ⟨v1, v2, rfl, hob, hxp⟩; (rw [HD.out] at hob); (rw [HD.out]); have hs := hob.stays; have hj := hob.jobs; dsimp only at hs hj; obtain ⟨y1, e3, rfl, sl1⟩ := Sl.of_owns (c := 8) (enc := stayCells) hs (by decide) (fun _ => rfl); obtain ⟨y2, e4, rfl, sl2⟩ := Sl.of_owns (c := 2) (enc := jobCells) hj (by decide) (fun _ => rfl); clear hob sl1 sl2; obtain ⟨kp0, kp1, kp2, kpf⟩ := HKXA.out.ext hxp; have zp := cell_lt kp0)
          generalize hW : World.setCell (World.setCell (World.setCell _ _ _) _ _) _ _ = wb
          have kxb : BookCell wb X (vi last) (.slice y1 dS.length e3) (.slice y2 dJ.length e4) := by rw [← hW]; exact BookCell.set ⟨kp0, kp1, kp2, kpf⟩ _ _ _
          have Kb : Kept (Is X) wp wb := by rw [← hW]; exact (((Kept.refl _ _).put 0 _).put 1 _).put 2 _
          have kb0 := Kb.cell (ext_cell hxp ka0) (by omega)
          have kb1 := Kb.cell (ext_cell hxp ka1) (by omega)
          have kb2 := Kb.cell (ext_cell hxp ka2) (by omega)
          have qb0 := Kb.cell (ext_cell hxp qa0) (by omega)
          have qb1 := Kb.cell (ext_cell hxp qa1) (by omega)
          have hxb : Ext w wb := Kb.widen (HXA.out.trans hxp) (by omega)
          have nb1 : ∀ k, (Value.slice y1 dS.length e3).ownBlock = some k → wa.heap.size ≤ k := owns_block hs
          have nb2 : ∀ k, (Value.slice y2 dJ.length e4).ownBlock = some k → wa.heap.size ≤ k := owns_block hj
          have hs2 : wb.ownsRow wa.heap.size 80 8 (.slice y1 dS.length e3) dS.length (dS.flatMap stayCells) := by
            rw [← hW]
            refine owns_set (owns_set (owns_set hs _ ?_) _ ?_) _ ?_ <;> (intro e; have := nb1 _ e; (try dsimp only at this); omega)
          have hj2 : wb.ownsRow wa.heap.size 74 2 (.slice y2 dJ.length e4) dJ.length (dJ.flatMap jobCells) := by
            rw [← hW]
            refine owns_set (owns_set (owns_set hj _ ?_) _ ?_) _ ?_ <;> (intro e; have := nb2 _ e; (try dsimp only at this); omega)
          obtain ⟨_, _, e5, sd1⟩ := Sl.of_owns (c := 8) (enc := stayCells) hs2 (by decide) (fun _ => rfl)
          cases e5
          obtain ⟨_, _, e5, sd2⟩ := Sl.of_owns (c := 2) (enc := jobCells) hj2 (by decide) (fun _ => rfl)
          cases e5
          obtain ⟨kx0, kx1, kx2, kxf⟩ := kxb
          have SB := Lib.hid (Sl.below HF.out hxb.below)
          have JB := Lib.hid (Sl.below HJ.out hxb.below)
          have SD := Lib.hid sd1
          have JD := Lib.hid sd2
          have HXB := Lib.hid hxb
          have bd1 := sd1.bound
          have bd2 := sd2.bound
          have zb1 := cell_lt kb0
          have zb2 := cell_lt qb0
          have zb3 := cell_lt kx0
          clear hW hxp hs hj hs2 hj2 sd1 sd2 nb1 nb2 hxb Kb kp0 kp1 kp2 kpf zp ka0 ka1 ka2 qa0 qa1 za1 za2 za3 kxf
          go_upto_region 9 with (first | (go_at_call 37; (with_reducible refine (bookcheck_at _ last levels _ _ _ _ _ _ dS dJ _ (Sl.below SD.out (Ext.below (by simp (maxDischargeDepth := 60)))) (Sl.below JD.out (Ext.below (by simp (maxDischargeDepth := 60)))) i4 HDB).mono ?_); rintro e w1 ⟨rfl, o1, n1, rfl⟩))
          go_wp2
          go_loopw [10] (fun i wr => ∃ k : Nat, k ≤ dJ.length ∧ i = .int .i64 k ∧ Ext wb wr) (fun i _ => dJ.length - (intOf i).toNat)
          case atStart => exact ⟨0, by omega, rfl, (by simp (maxDischargeDepth := 60))⟩
          case round =>
            obtain ⟨k, hk, rfl, o, m, rfl⟩ := hrel
            by_cases hlt : k < dJ.length
            · obtain ⟨b, q, x, rfl, hx, dx⟩ := JD.out.get hlt
              have hne := HNE.out k x hx
              have dx := at2 dx
              have hq := cell_lt dx.1
              obtain ⟨xt, xf⟩ := x
              dsimp only at dx
              have hq1 : ∀ w, (Go.binOp .eql 74 (.agg #[vi xt, .bool xf]) (.agg #[vi jt, .bool false])).run Try.prog w = .ok (.bool false) w := fun w => by rw [eqlJob_of]; congr 2; exact decide_eq_false hne
              have hkj : (k : Int) < (dJ.length : Int) := by omega
              clear hx hne
              go_upto_region 12 with fail
              (refine wp_region_ext (by kernel_rfl) (by kernel_rfl) ?_; (repeat (first | go_big_quiet_step (fail) | quiet_step (fail))); refine wpQuiet_nil ?_; intro _ hw'; obtain ⟨oq, nq, hw''⟩ := hw'; subst hw'')
              go_wp2
              go_roundw
              case rel => exact ⟨k + 1, by omega, by go_num, (by simp (maxDischargeDepth := 60))⟩
              case measure => simp [intOf]; omega
            · have hkn : k = dJ.length := by omega
              subst hkn
              have hneg : ¬ ((0 : Int) ≤ -1) := by decide
              go_upto_region 19 with (first | (go_at_call 38; (with_reducible refine (find_at (-1) _ _ _ _ _ _ _ _ dS _ (Sl.below SD.out (Ext.below (by simp (maxDischargeDepth := 60)))) HOV).mono ?_); rintro e w1 ⟨rfl, o1, n1, rfl⟩))
              go_wp2
              go_loopw [11, 12] (fun at_ i wr => ∃ a k : Nat, k ≤ m1 ∧ at_ = .int .i64 a ∧ i = .int .i64 k ∧ Hid (a ≤ Ch.rank (Ch.staysKept ⟨jt, false⟩ true) l k) ∧ Ext wb wr) (fun _ i _ => m1 - (intOf i).toNat)
              case atStart => exact ⟨0, 0, by omega, rfl, rfl, Nat.zero_le _, (by simp (maxDischargeDepth := 60))⟩
              case round =>
                obtain ⟨a, k, hk, rfl, rfl, HA, o1, m1', rfl⟩ := hrel
                by_cases hlt2 : k < m1
                · obtain ⟨b, q, st, rfl, hst, dst⟩ := SB.out.get hlt2
                  have dst := at8 dst
                  have hsb := cell_lt dst.1
                  have HSS := Lib.hid hst
                  obtain ⟨t, ⟨ci, ⟨cx, cy, cz⟩⟩, ⟨h0, h1, h2⟩⟩ := st
                  dsimp only at dst
                  have hkj : (k : Int) < (m1 : Int) := by omega
                  by_cases ht : t = jt
                  · have hte : (t == jt) = true := by simpa using ht
                    have HLE := Lib.hid (Nat.le_trans HA.out (Ch.rank_le (q := Ch.staysKept ⟨jt, false⟩ true) hst))
                    clear hst
                    go_upto_region 23 with fail
                    (refine wp_region_ext (by kernel_rfl) (by kernel_rfl) ?_; (repeat (first | go_big_quiet_step (fail) | quiet_step (fail))); refine wpQuiet_nil ?_; intro _ hw'; obtain ⟨oq, nq, hw''⟩ := hw'; subst hw'')
                    go_wp2
                    go_roundw
                    case rel => first | exact ⟨a, k + 1, by omega, rfl, by go_num, HLE.out, (by simp (maxDischargeDepth := 60))⟩ | (repeat apply Exists.intro; refine ⟨?_, rfl⟩; exact ⟨a, k + 1, by omega, rfl, by go_num, HLE.out, (by simp (maxDischargeDepth := 60))⟩)
                    case measure => simp [intOf]; omega
                  · have hte : (t == jt) = false := by simpa using ht
                    have hidx := Ch.index_rank HST.out hst (q := Ch.staysKept ⟨jt, false⟩ true) (Ch.staysKept_other ht)
                    have hrs := Ch.rank_le (q := Ch.staysKept ⟨jt, false⟩ true) hst
                    have ha := HA.out
                    rw [← HDS.out] at hidx
                    generalize hr : Ch.rank (Ch.staysKept ⟨jt, false⟩ true) l k = r at hidx hrs ha
                    have HI : Hid (Ch.indexOf (fun x : Ch.Stay => x.ticket == t) dS = (r : Int)) := hidx.1
                    have hrl := lt_of_get hidx.2
                    obtain ⟨b3, q3, y, e6, hy, dy⟩ := SD.out.get hrl
                    obtain rfl : y = ⟨t, ⟨ci, ⟨cx, cy, cz⟩⟩, ⟨h0, h1, h2⟩⟩ := Option.some.inj (hy.symm.trans hidx.2)
                    subst e6
                    have dy := at8 dy
                    dsimp only at dy
                    have hyb := cell_lt dy.1
                    have hra : ¬ ((r : Int) < (a : Int)) := by omega
                    have hrd : (r : Int) < (dS.length : Int) := by omega
                    have hr0 : (0 : Int) ≤ (r : Int) := by omega
                    have hq1 : ∀ w, (Go.binOp .neq 80 (.agg #[vi t, vi ci, vi cx, vi cy, vi cz, vi h0, vi h1, vi h2]) (.agg #[vi t, vi ci, vi cx, vi cy, vi cz, vi h0, vi h1, vi h2])).run Try.prog w = .ok (.bool false) w := fun w => by
                      rw [neqStruct w (eqStay w 9996 ⟨t, ⟨ci, ⟨cx, cy, cz⟩⟩, ⟨h0, h1, h2⟩⟩ ⟨t, ⟨ci, ⟨cx, cy, cz⟩⟩, ⟨h0, h1, h2⟩⟩)]; simp
                    have HRS := Lib.hid hrs
                    clear hst hidx hy ha hr hrs
                    go_upto_region 23 with fail
                    (refine wp_region_ext (by kernel_rfl) (by kernel_rfl) ?_; (repeat (first | go_big_quiet_step (fail) | quiet_step (fail))); refine wpQuiet_nil ?_; intro _ hw'; obtain ⟨oq, nq, hw''⟩ := hw'; subst hw'')
                    go_upto_region 24 with fail
                    (refine wp_region_ext (by kernel_rfl) (by kernel_rfl) ?_; (repeat (first | go_big_quiet_step ((first | (intro _; go_at_call 38; exact ext_callG (find_at (r : Int) _ _ _ _ _ _ _ _ dS _ (Sl.below SD.out (Ext.below (by simp (maxDischargeDepth := 60)))) HI) (by rintro w' ⟨o', n', rfl⟩; exact ⟨_, n', by first | (simp only [plus_plus]; rfl) | (simp only [plus_plus, Array.append_assoc]; rfl) | rfl⟩)))) | quiet_step ((first | (intro _; go_at_call 38; exact ext_callG (find_at (r : Int) _ _ _ _ _ _ _ _ dS _ (Sl.below SD.out (Ext.below (by simp (maxDischargeDepth := 60)))) HI) (by rintro w' ⟨o', n', rfl⟩; exact ⟨_, n', by first | (simp only [plus_plus]; rfl) | (simp only [plus_plus, Array.append_assoc]; rfl) | rfl⟩)))))); refine wpQuiet_nil ?_; intro _ hw'; obtain ⟨oq, nq, hw''⟩ := hw'; subst hw'')
                    go_upto_region 25 with fail
                    (refine wp_region_ext (by kernel_rfl) (by kernel_rfl) ?_; (repeat (first | go_big_quiet_step (fail) | quiet_step (fail))); refine wpQuiet_nil ?_; intro _ hw'; obtain ⟨oq, nq, hw''⟩ := hw'; subst hw'')
                    go_wp2
                    go_roundw
                    case rel => first | exact ⟨r, k + 1, by omega, rfl, by go_num, HRS.out, (by simp (maxDischargeDepth := 60))⟩ | (repeat apply Exists.intro; refine ⟨?_, rfl⟩; exact ⟨r, k + 1, by omega, rfl, by go_num, HRS.out, (by simp (maxDischargeDepth := 60))⟩)
                    case measure => simp [intOf]; omega
                · have hkm : k = m1 := by omega
                  subst hkm
                  go_wp2
                  go_loopw [11, 14] (fun at_ i wr => ∃ a k : Nat, k ≤ dJ.length ∧ a ≤ m2 ∧ at_ = .int .i64 a ∧ i = .int .i64 k ∧ Hid (dJ.drop k = (js.drop a).filter (Ch.jobsKept ⟨jt, false⟩ true)) ∧ Ext wb wr) (fun _ i _ => dJ.length - (intOf i).toNat)
                  case atStart => exact ⟨0, 0, by omega, by omega, rfl, rfl, by simpa [Hid] using HDJ.out, (by simp (maxDischargeDepth := 60))⟩
                  case round =>
                    obtain ⟨a2', k2, hk2, ha2, rfl, rfl, HT, o2, m2', rfl⟩ := hrel
                    by_cases hlt3 : k2 < dJ.length
                    · obtain ⟨b, q, x, rfl, hx, dx⟩ := JD.out.get hlt3
                      have dx := at2 dx
                      have hq := cell_lt dx.1
                      have hkeep : Ch.jobsKept ⟨jt, false⟩ true x = true := Ch.filter_head (l := js) (i := k2) (by rw [← HDJ.out]; exact hx)
                      have hdr := drop_at hx
                      rw [HT.out] at hdr
                      obtain ⟨xt, xf⟩ := x
                      dsimp only at dx
                      have HKP := Lib.hid hkeep
                      have HDR := Lib.hid hdr
                      have hkj : (k2 : Int) < (dJ.length : Int) := by omega
                      clear hx hkeep hdr
                      go_upto_region 32 with fail
                      go_loopw [11] (fun at_ wj => ∃ c : Nat, c ≤ m2 ∧ at_ = .int .i64 c ∧ Hid ((js.drop c).filter (Ch.jobsKept ⟨jt, false⟩ true) = ⟨xt, xf⟩ :: dJ.drop (k2 + 1)) ∧ Ext wb wj) (fun at_ _ => m2 - (intOf at_).toNat)
                      case atStart => exact ⟨a2', ha2, rfl, HDR.out, (by simp (maxDischargeDepth := 60))⟩
                      case round =>
                        obtain ⟨c, hc, rfl, HC, o3, m3, rfl⟩ := hrel
                        have hcl : c < m2 := by have := Ch.filter_drop_lt HC.out; have := E2.out; omega
                        obtain ⟨b4, q4, y, rfl, hy, dy⟩ := JB.out.get hcl
                        have dy := at2 dy
                        have hq4 := cell_lt dy.1
                        have hcj : (c : Int) < (m2 : Int) := by omega
                        have hcj0 : (0 : Int) ≤ (c : Int) := by omega
                        by_cases hyx : y = ⟨xt, xf⟩
                        · subst hyx
                          dsimp only at dy
                          have hq1 : ∀ w, (Go.binOp .neq 74 (.agg #[vi xt, .bool xf]) (.agg #[vi xt, .bool xf])).run Try.prog w = .ok (.bool false) w := fun w => by
                            rw [neqStruct w (eqJob w 9998 ⟨xt, xf⟩ ⟨xt, xf⟩)]; simp
                          have HN := Lib.hid (Ch.filter_drop_eq HC.out hy HKP.out)
                          clear hy
                          go_upto_region 32 with fail
                          (refine wp_region_ext (by kernel_rfl) (by kernel_rfl) ?_; (repeat (first | go_big_quiet_step (fail) | quiet_step (fail))); refine wpQuiet_nil ?_; intro _ hw'; obtain ⟨oq, nq, hw''⟩ := hw'; subst hw'')
                          go_wp2
                          go_roundw
                          case rel => first | exact ⟨c + 1, k2 + 1, by omega, by omega, by go_num, by go_num, HN.out.symm, (by simp (maxDischargeDepth := 60))⟩ | (repeat apply Exists.intro; refine ⟨?_, rfl⟩; exact ⟨c + 1, k2 + 1, by omega, by omega, by go_num, by go_num, HN.out.symm, (by simp (maxDischargeDepth := 60))⟩)
                          case measure => simp [intOf]; omega
                        · obtain ⟨yt, yf⟩ := y
                          dsimp only at dy
                          have hq1 : ∀ w, (Go.binOp .neq 74 (.agg #[vi yt, .bool yf]) (.agg #[vi xt, .bool xf])).run Try.prog w = .ok (.bool true) w := fun w => by
                            rw [neqStruct w (eqJob w 9998 ⟨yt, yf⟩ ⟨xt, xf⟩)]; simp [hyx]
                          have hnx := Ch.filter_drop_ne HC.out hy hyx
                          have hyt : yt = jt := Ch.jobsKept_not hnx.1
                          have HN := Lib.hid hnx.2
                          subst hyt
                          clear hy hyx hnx
                          go_upto_region 32 with fail
                          (refine wp_region_ext (by kernel_rfl) (by kernel_rfl) ?_; (repeat (first | go_big_quiet_step (fail) | quiet_step (fail))); refine wpQuiet_nil ?_; intro _ hw'; obtain ⟨oq, nq, hw''⟩ := hw'; subst hw'')
                          go_upto_region 33 with fail
                          (refine wp_region_ext (by kernel_rfl) (by kernel_rfl) ?_; (repeat (first | go_big_quiet_step (fail) | quiet_step (fail))); refine wpQuiet_nil ?_; intro _ hw'; obtain ⟨oq, nq, hw''⟩ := hw'; subst hw'')
                          go_wp2
                          go_roundw
                          case rel => first | exact ⟨c + 1, by omega, by go_num, HN.out, (by simp (maxDischargeDepth := 60))⟩ | (repeat apply Exists.intro; refine ⟨?_, rfl⟩; exact ⟨c + 1, by omega, by go_num, HN.out, (by simp (maxDischargeDepth := 60))⟩)
                          case measure => simp [intOf]; omega
                    · have hkn : k2 = dJ.length := by omega
                      subst hkn
                      have HEND : Hid ((js.drop a2').filter (Ch.jobsKept ⟨jt, false⟩ true) = []) := by unfold Hid; rw [← HT.out, List.drop_length]
                      go_wp2
                      go_loopw [11] (fun at_ wj => ∃ c : Nat, c ≤ m2 ∧ at_ = .int .i64 c ∧ Hid ((js.drop c).filter (Ch.jobsKept ⟨jt, false⟩ true) = []) ∧ Ext wb wj) (fun at_ _ => m2 - (intOf at_).toNat)
                      case atStart => exact ⟨a2', ha2, rfl, HEND.out, (by simp (maxDischargeDepth := 60))⟩
                      case round =>
                        obtain ⟨c, hc, rfl, HC, o3, m3, rfl⟩ := hrel
                        by_cases hcl : c < m2
                        · obtain ⟨b4, q4, y, rfl, hy, dy⟩ := JB.out.get hcl
                          have dy := at2 dy
                          have hq4 := cell_lt dy.1
                          have hcj : (c : Int) < (m2 : Int) := by omega
                          have hnx := Ch.filter_end HC.out hy
                          obtain ⟨yt, yf⟩ := y
                          dsimp only at dy
                          have hyt : yt = jt := Ch.jobsKept_not hnx.1
                          have HN := Lib.hid hnx.2
                          subst hyt
                          clear hy hnx
                          go_upto_region 39 with fail
                          (refine wp_region_ext (by kernel_rfl) (by kernel_rfl) ?_; (repeat (first | go_big_quiet_step (fail) | quiet_step (fail))); refine wpQuiet_nil ?_; intro _ hw'; obtain ⟨oq, nq, hw''⟩ := hw'; subst hw'')
                          go_wp2
                          go_roundw
                          case rel => first | exact ⟨c + 1, by omega, by go_num, HN.out, (by simp (maxDischargeDepth := 60))⟩ | (repeat apply Exists.intro; refine ⟨?_, rfl⟩; exact ⟨c + 1, by omega, by go_num, HN.out, (by simp (maxDischargeDepth := 60))⟩)
                          case measure => simp [intOf]; omega
                        · have hcm : c = m2 := by omega
                          subst hcm
                          go_wp2
                          go_ret
                          exact ⟨rfl, HXB.out.trans (by simp (maxDischargeDepth := 60))⟩
        · obtain ⟨E, HBF⟩ := errV_ne hbf
          clear hbf
          go_wp2_with (first | (go_at_call 36; (with_reducible refine (lightBook_any true _ _ _ _ _ _ _ _ HB).mono ?_); rintro e w1 ⟨rfl, o1, n1, rfl⟩) | (go_at_call 37; (with_reducible refine (bookcheck_at _ last levels a1 m1 c1 a2 m2 c2 l js _ (Sl.below HS.out (Ext.below (by simp (maxDischargeDepth := 60)))) (Sl.below HK.out (Ext.below (by simp (maxDischargeDepth := 60)))) i4 HBF).mono ?_); rintro e w1 ⟨rfl, o1, n1, rfl⟩))
          go_ret
          exact ⟨rfl, HX.out.trans (by simp (maxDischargeDepth := 60))⟩

set_option maxRecDepth 100000 in
set_option maxHeartbeats 4000000 in
theorem topOver_fetch (gone : Bool) (last levels jt : Int) (a1 : Option Addr) (m1 c1 : Nat) (a2 : Option Addr) (m2 c2 : Nat) (l : List Ch.Stay) (js : List Ch.Job) (w : World)
    (h : Sl w 8 stayCells l a1 m1 c1) (h2 : Sl w 2 jobCells js a2 m2 c2) :
    Calls Try.prog 7 #[bookA last a1 m1 c1 a2 m2 c2, vi levels, .agg #[vi jt, .bool true], .bool gone] w fun e w' => e = .returned (.bool true) ∧ Ext w w' := by
  have bs0 := h.bound
  have bj0 := h2.bound
  have HF := Lib.hid h
  have HJ := Lib.hid h2
  have E1 := Lib.hid h.len
  have E2 := Lib.hid h2.len
  clear h h2
  go_enter Try.func7, Try.ntmps7
  go_upto_region 4 with (go_at_call 35; (with_reducible refine (done_any 1 1 false true none 0 0 none 0 0 [] [] _ (Sl.nil _ _ _) (Sl.nil _ _ _) (by decide) (by decide)).mono ?_); rintro e wp ⟨v1, v2, rfl, hob, oQ, nQ, rfl⟩; have hs := hob.stays; have hj := hob.jobs; (rw [show (Ch.doneWith ⟨1, [], []⟩ ⟨1, false⟩ true).stays = [] from rfl] at hs); (rw [show (Ch.doneWith ⟨1, [], []⟩ ⟨1, false⟩ true).jobs = [] from rfl] at hj); (rw [show (Ch.doneWith ⟨1, [], []⟩ ⟨1, false⟩ true).last = 1 from rfl]); obtain ⟨x1, e1, rfl, -⟩ := Sl.of_owns (c := 8) (enc := stayCells) (l := []) hs (by decide) (fun _ => rfl); obtain ⟨x2, e2, rfl, -⟩ := Sl.of_owns (c := 2) (enc := jobCells) (l := []) hj (by decide) (fun _ => rfl); clear hob hs hj)
  generalize hT : w.heap.size + 1 + 1 + oQ.size = X
  generalize hW : World.alloc _ _ = w0
  have hT2 : w.heap.size + 2 ≤ X := by omega
  have k0 : w0.cell? ⟨w.heap.size, 0, none⟩ = some (vi last) := by rw [← hW]; simp [go_sem]
  have k1 : w0.cell? ⟨w.heap.size, 1, none⟩ = some (.slice a1 m1 c1) := by rw [← hW]; simp [go_sem]
  have k2 : w0.cell? ⟨w.heap.size, 2, none⟩ = some (.slice a2 m2 c2) := by rw [← hW]; simp [go_sem]
  have q0 : w0.cell? ⟨w.heap.size + 1, 0, none⟩ = some (vi jt) := by rw [← hW]; simp [go_sem]
  have q1 : w0.cell? ⟨w.heap.size + 1, 1, none⟩ = some (.bool true) := by rw [← hW]; simp [go_sem]
  have kx : BookCell w0 X (vi 1) (.slice x1 0 e1) (.slice x2 0 e2) := by
    rw [← hW, ← hT]; exact ⟨by simp [go_sem], by simp [go_sem], by simp [go_sem], by simp [go_sem]⟩
  have hx : Ext w w0 := by rw [← hW]; exact (by simp (maxDischargeDepth := 60))
  have HX := Lib.hid hx
  have HKX := Lib.hid kx
  have HS := Lib.hid (Sl.below HF.out hx.below)
  have HK := Lib.hid (Sl.below HJ.out hx.below)
  have z1 := cell_lt k0
  have z2 := cell_lt q0
  have z3 := kx.lt
  clear hW hx hT kx
  cases hb : decide (m1 ≤ 20 ∧ m2 ≤ 12)
  · have HB := Lib.hid hb
    clear hb
    go_wp2_with (first | (go_at_call 36; (with_reducible refine (lightBook_any false _ _ _ _ _ _ _ _ HB).mono ?_); rintro e w1 ⟨rfl, o1, n1, rfl⟩))
    go_ret
    exact ⟨rfl, HX.out.trans (by simp (maxDischargeDepth := 60))⟩
  · have HB := Lib.hid hb
    have hb12 := of_decide_eq_true hb
    have hm1 : m1 ≤ 20 := hb12.1
    have hm2 : m2 ≤ 12 := hb12.2
    clear hb hb12
    by_cases hl1 : levels < 1
    · go_wp2_with (first | (go_at_call 36; (with_reducible refine (lightBook_any true _ _ _ _ _ _ _ _ HB).mono ?_); rintro e w1 ⟨rfl, o1, n1, rfl⟩))
      go_ret
      exact ⟨rfl, HX.out.trans (by simp (maxDischargeDepth := 60))⟩
    · have i1 : 1 ≤ levels := by omega
      by_cases hl4 : 4 < levels
      · go_wp2_with (first | (go_at_call 36; (with_reducible refine (lightBook_any true _ _ _ _ _ _ _ _ HB).mono ?_); rintro e w1 ⟨rfl, o1, n1, rfl⟩))
        go_ret
        exact ⟨rfl, HX.out.trans (by simp (maxDischargeDepth := 60))⟩
      · have i4 : levels ≤ 4 := by omega
        by_cases hbf : Ch.bookFault ⟨last, l, js⟩ levels = 0
        · have HBF : Hid (errV (Ch.bookFault ⟨last, l, js⟩ levels) = .nilIface) := by unfold Hid; rw [hbf]; rfl
          have hok := Ch.bookFault_iff.1 hbf
          have HST := Lib.hid hok.stays.2
          have hdok := Ch.done_ok hok ⟨jt, true⟩ gone
          obtain ⟨dS, hdS⟩ : ∃ dS, (Ch.doneWith ⟨last, l, js⟩ ⟨jt, true⟩ gone).stays = dS := ⟨_, rfl⟩
          obtain ⟨dJ, hdJ⟩ : ∃ dJ, (Ch.doneWith ⟨last, l, js⟩ ⟨jt, true⟩ gone).jobs = dJ := ⟨_, rfl⟩
          have hD : Ch.doneWith ⟨last, l, js⟩ ⟨jt, true⟩ gone = ⟨last, dS, dJ⟩ := by rw [← hdS, ← hdJ]; rfl
          have HDB : Hid (errV (Ch.bookFault ⟨last, dS, dJ⟩ levels) = .nilIface) := by unfold Hid; rw [← hD, Ch.bookFault_iff.2 hdok]; rfl
          have HDS : Hid (dS = l.filter (Ch.staysKept ⟨jt, true⟩ gone)) := by unfold Hid; rw [← hdS, Ch.done_stays]
          have HDJ : Hid (dJ = js.filter (Ch.jobsKept ⟨jt, true⟩ gone)) := by unfold Hid; rw [← hdJ, Ch.done_jobs]
          have HNE : Hid (∀ (i : Nat) x, dJ[i]? = some x → x ≠ (⟨jt, true⟩ : Ch.Job)) := by unfold Hid; intro i x hi; rw [← hdJ] at hi; exact Ch.done_job_ne hi
          have HOV : Hid (Ch.indexOf (fun s : Ch.Stay => s.ticket == jt) dS = -1) := by
            unfold Hid
            rw [← hdS]
            exact Ch.done_find (j := ⟨jt, true⟩) (by simp)
          have HD := Lib.hid hD
          have hls : dS.length ≤ 20 := by rw [HDS.out]; have := List.length_filter_le (Ch.staysKept ⟨jt, true⟩ gone) l; have := E1.out; omega
          have hlj : dJ.length ≤ 12 := by rw [HDJ.out]; have := List.length_filter_le (Ch.jobsKept ⟨jt, true⟩ gone) js; have := E2.out; omega
          clear hbf hok hdok hdS hdJ hD
          go_upto_region 6 with (first | (go_at_call 36; (with_reducible refine (lightBook_any true _ _ _ _ _ _ _ _ HB).mono ?_); rintro e w1 ⟨rfl, o1, n1, rfl⟩) | (go_at_call 37; (with_reducible refine (bookcheck_at _ last levels a1 m1 c1 a2 m2 c2 l js _ (Sl.below HS.out (Ext.below (by simp (maxDischargeDepth := 60)))) (Sl.below HK.out (Ext.below (by simp (maxDischargeDepth := 60)))) i4 HBF).mono ?_); rintro e w1 ⟨rfl, o1, n1, rfl⟩))
          generalize hW : World.plus _ _ _ = wa
          have hxa : Ext w0 wa := by rw [← hW]; exact (by simp (maxDischargeDepth := 60))
          clear hW
          have ka0 := ext_cell hxa k0
          have ka1 := ext_cell hxa k1
          have ka2 := ext_cell hxa k2
          have qa0 := ext_cell hxa q0
          have qa1 := ext_cell hxa q1
          have kxa := HKX.out.ext hxa
          have za1 := cell_lt ka0
          have za2 := cell_lt qa0
          have za3 := kxa.lt
          have HKXA := Lib.hid kxa
          have HXA := Lib.hid (HX.out.trans hxa)
          have SA := Lib.hid (Sl.below HS.out hxa.below)
          have JA := Lib.hid (Sl.below HK.out hxa.below)
          clear hxa kxa k0 k1 k2 q0 q1 z1 z2 z3
          go_upto_region 7 with (go_at_call 35; (with_reducible refine (done_any last jt true gone a1 m1 c1 a2 m2 c2 l js _ SA.out JA.out (by omega) (by omega)).mono ?_); rintro e wp ⟨v1, v2, rfl, hob, hxp⟩; (rw [HD.out] at hob); (rw [HD.out]); have hs := hob.stays; have hj := hob.jobs; dsimp only at hs hj; obtain ⟨y1, e3, rfl, sl1⟩ := Sl.of_owns (c := 8) (enc := stayCells) hs (by decide) (fun _ => rfl); obtain ⟨y2, e4, rfl, sl2⟩ := Sl.of_owns (c := 2) (enc := jobCells) hj (by decide) (fun _ => rfl); clear hob sl1 sl2; obtain ⟨kp0, kp1, kp2, kpf⟩ := HKXA.out.ext hxp; have zp := cell_lt kp0)
          generalize hW : World.setCell (World.setCell (World.setCell _ _ _) _ _) _ _ = wb
          have kxb : BookCell wb X (vi last) (.slice y1 dS.length e3) (.slice y2 dJ.length e4) := by rw [← hW]; exact BookCell.set ⟨kp0, kp1, kp2, kpf⟩ _ _ _
          have Kb : Kept (Is X) wp wb := by rw [← hW]; exact (((Kept.refl _ _).put 0 _).put 1 _).put 2 _
          have kb0 := Kb.cell (ext_cell hxp ka0) (by omega)
          have kb1 := Kb.cell (ext_cell hxp ka1) (by omega)
          have kb2 := Kb.cell (ext_cell hxp ka2) (by omega)
          have qb0 := Kb.cell (ext_cell hxp qa0) (by omega)
          have qb1 := Kb.cell (ext_cell hxp qa1) (by omega)
          have hxb : Ext w wb := Kb.widen (HXA.out.trans hxp) (by omega)
          have nb1 : ∀ k, (Value.slice y1 dS.length e3).ownBlock = some k → wa.heap.size ≤ k := owns_block hs
          have nb2 : ∀ k, (Value.slice y2 dJ.length e4).ownBlock = some k → wa.heap.size ≤ k := owns_block hj
          have hs2 : wb.ownsRow wa.heap.size 80 8 (.slice y1 dS.length e3) dS.length (dS.flatMap stayCells) := by
            rw [← hW]
            refine owns_set (owns_set (owns_set hs _ ?_) _ ?_) _ ?_ <;> (intro e; have := nb1 _ e; (try dsimp only at this); omega)
          have hj2 : wb.ownsRow wa.heap.size 74 2 (.slice y2 dJ.length e4) dJ.length (dJ.flatMap jobCells) := by
            rw [← hW]
            refine owns_set (owns_set (owns_set hj _ ?_) _ ?_) _ ?_ <;> (intro e; have := nb2 _ e; (try dsimp only at this); omega)
          obtain ⟨_, _, e5, sd1⟩ := Sl.of_owns (c := 8) (enc := stayCells) hs2 (by decide) (fun _ => rfl)
          cases e5
          obtain ⟨_, _, e5, sd2⟩ := Sl.of_owns (c := 2) (enc := jobCells) hj2 (by decide) (fun _ => rfl)
          cases e5
          obtain ⟨kx0, kx1, kx2, kxf⟩ := kxb
          have SB := Lib.hid (Sl.below HF.out hxb.below)
          have JB := Lib.hid (Sl.below HJ.out hxb.below)
          have SD := Lib.hid sd1
          have JD := Lib.hid sd2
          have HXB := Lib.hid hxb
          have bd1 := sd1.bound
          have bd2 := sd2.bound
          have zb1 := cell_lt kb0
          have zb2 := cell_lt qb0
          have zb3 := cell_lt kx0
          clear hW hxp hs hj hs2 hj2 sd1 sd2 nb1 nb2 hxb Kb kp0 kp1 kp2 kpf zp ka0 ka1 ka2 qa0 qa1 za1 za2 za3 kxf
          go_upto_region 9 with (first | (go_at_call 37; (with_reducible refine (bookcheck_at _ last levels _ _ _ _ _ _ dS dJ _ (Sl.below SD.out (Ext.below (by simp (maxDischargeDepth := 60)))) (Sl.below JD.out (Ext.below (by simp (maxDischargeDepth := 60)))) i4 HDB).mono ?_); rintro e w1 ⟨rfl, o1, n1, rfl⟩))
          go_wp2
          go_loopw [10] (fun i wr => ∃ k : Nat, k ≤ dJ.length ∧ i = .int .i64 k ∧ Ext wb wr) (fun i _ => dJ.length - (intOf i).toNat)
          case atStart => exact ⟨0, by omega, rfl, (by simp (maxDischargeDepth := 60))⟩
          case round =>
            obtain ⟨k, hk, rfl, o, m, rfl⟩ := hrel
            by_cases hlt : k < dJ.length
            · obtain ⟨b, q, x, rfl, hx, dx⟩ := JD.out.get hlt
              have hne := HNE.out k x hx
              have dx := at2 dx
              have hq := cell_lt dx.1
              obtain ⟨xt, xf⟩ := x
              dsimp only at dx
              have hq1 : ∀ w, (Go.binOp .eql 74 (.agg #[vi xt, .bool xf]) (.agg #[vi jt, .bool true])).run Try.prog w = .ok (.bool false) w := fun w => by rw [eqlJob_of]; congr 2; exact decide_eq_false hne
              have hkj : (k : Int) < (dJ.length : Int) := by omega
              clear hx hne
              go_upto_region 12 with fail
              (refine wp_region_ext (by kernel_rfl) (by kernel_rfl) ?_; (repeat (first | go_big_quiet_step (fail) | quiet_step (fail))); refine wpQuiet_nil ?_; intro _ hw'; obtain ⟨oq, nq, hw''⟩ := hw'; subst hw'')
              go_wp2
              go_roundw
              case rel => exact ⟨k + 1, by omega, by go_num, (by simp (maxDischargeDepth := 60))⟩
              case measure => simp [intOf]; omega
            · have hkn : k = dJ.length := by omega
              subst hkn
              have hneg : ¬ ((0 : Int) ≤ -1) := by decide
              go_upto_region 19 with (first | (go_at_call 38; (with_reducible refine (find_at (-1) _ _ _ _ _ _ _ _ dS _ (Sl.below SD.out (Ext.below (by simp (maxDischargeDepth := 60)))) HOV).mono ?_); rintro e w1 ⟨rfl, o1, n1, rfl⟩))
              go_wp2
              go_loopw [11, 12] (fun at_ i wr => ∃ a k : Nat, k ≤ m1 ∧ at_ = .int .i64 a ∧ i = .int .i64 k ∧ Hid (a ≤ Ch.rank (Ch.staysKept ⟨jt, true⟩ gone) l k) ∧ Ext wb wr) (fun _ i _ => m1 - (intOf i).toNat)
              case atStart => exact ⟨0, 0, by omega, rfl, rfl, Nat.zero_le _, (by simp (maxDischargeDepth := 60))⟩
              case round =>
                obtain ⟨a, k, hk, rfl, rfl, HA, o1, m1', rfl⟩ := hrel
                by_cases hlt2 : k < m1
                · obtain ⟨b, q, st, rfl, hst, dst⟩ := SB.out.get hlt2
                  have dst := at8 dst
                  have hsb := cell_lt dst.1
                  have HSS := Lib.hid hst
                  obtain ⟨t, ⟨ci, ⟨cx, cy, cz⟩⟩, ⟨h0, h1, h2⟩⟩ := st
                  dsimp only at dst
                  have hkj : (k : Int) < (m1 : Int) := by omega
                  by_cases ht : t = jt
                  · have hte : (t == jt) = true := by simpa using ht
                    have HLE := Lib.hid (Nat.le_trans HA.out (Ch.rank_le (q := Ch.staysKept ⟨jt, true⟩ gone) hst))
                    clear hst
                    go_upto_region 23 with fail
                    (refine wp_region_ext (by kernel_rfl) (by kernel_rfl) ?_; (repeat (first | go_big_quiet_step (fail) | quiet_step (fail))); refine wpQuiet_nil ?_; intro _ hw'; obtain ⟨oq, nq, hw''⟩ := hw'; subst hw'')
                    go_wp2
                    go_roundw
                    case rel => first | exact ⟨a, k + 1, by omega, rfl, by go_num, HLE.out, (by simp (maxDischargeDepth := 60))⟩ | (repeat apply Exists.intro; refine ⟨?_, rfl⟩; exact ⟨a, k + 1, by omega, rfl, by go_num, HLE.out, (by simp (maxDischargeDepth := 60))⟩)
                    case measure => simp [intOf]; omega
                  · have hte : (t == jt) = false := by simpa using ht
                    have hidx := Ch.index_rank HST.out hst (q := Ch.staysKept ⟨jt, true⟩ gone) (Ch.staysKept_other ht)
                    have hrs := Ch.rank_le (q := Ch.staysKept ⟨jt, true⟩ gone) hst
                    have ha := HA.out
                    rw [← HDS.out] at hidx
                    generalize hr : Ch.rank (Ch.staysKept ⟨jt, true⟩ gone) l k = r at hidx hrs ha
                    have HI : Hid (Ch.indexOf (fun x : Ch.Stay => x.ticket == t) dS = (r : Int)) := hidx.1
                    have hrl := lt_of_get hidx.2
                    obtain ⟨b3, q3, y, e6, hy, dy⟩ := SD.out.get hrl
                    obtain rfl : y = ⟨t, ⟨ci, ⟨cx, cy, cz⟩⟩, ⟨h0, h1, h2⟩⟩ := Option.some.inj (hy.symm.trans hidx.2)
                    subst e6
                    have dy := at8 dy
                    dsimp only at dy
                    have hyb := cell_lt dy.1
                    have hra : ¬ ((r : Int) < (a : Int)) := by omega
                    have hrd : (r : Int) < (dS.length : Int) := by omega
                    have hr0 : (0 : Int) ≤ (r : Int) := by omega
                    have hq1 : ∀ w, (Go.binOp .neq 80 (.agg #[vi t, vi ci, vi cx, vi cy, vi cz, vi h0, vi h1, vi h2]) (.agg #[vi t, vi ci, vi cx, vi cy, vi cz, vi h0, vi h1, vi h2])).run Try.prog w = .ok (.bool false) w := fun w => by
                      rw [neqStruct w (eqStay w 9996 ⟨t, ⟨ci, ⟨cx, cy, cz⟩⟩, ⟨h0, h1, h2⟩⟩ ⟨t, ⟨ci, ⟨cx, cy, cz⟩⟩, ⟨h0, h1, h2⟩⟩)]; simp
                    have HRS := Lib.hid hrs
                    clear hst hidx hy ha hr hrs
                    go_upto_region 23 with fail
                    (refine wp_region_ext (by kernel_rfl) (by kernel_rfl) ?_; (repeat (first | go_big_quiet_step (fail) | quiet_step (fail))); refine wpQuiet_nil ?_; intro _ hw'; obtain ⟨oq, nq, hw''⟩ := hw'; subst hw'')
                    go_upto_region 24 with fail
                    (refine wp_region_ext (by kernel_rfl) (by kernel_rfl) ?_; (repeat (first | go_big_quiet_step ((first | (intro _; go_at_call 38; exact ext_callG (find_at (r : Int) _ _ _ _ _ _ _ _ dS _ (Sl.below SD.out (Ext.below (by simp (maxDischargeDepth := 60)))) HI) (by rintro w' ⟨o', n', rfl⟩; exact ⟨_, n', by first | (simp only [plus_plus]; rfl) | (simp only [plus_plus, Array.append_assoc]; rfl) | rfl⟩)))) | quiet_step ((first | (intro _; go_at_call 38; exact ext_callG (find_at (r : Int) _ _ _ _ _ _ _ _ dS _ (Sl.below SD.out (Ext.below (by simp (maxDischargeDepth := 60)))) HI) (by rintro w' ⟨o', n', rfl⟩; exact ⟨_, n', by first | (simp only [plus_plus]; rfl) | (simp only [plus_plus, Array.append_assoc]; rfl) | rfl⟩)))))); refine wpQuiet_nil ?_; intro _ hw'; obtain ⟨oq, nq, hw''⟩ := hw'; subst hw'')
                    go_upto_region 25 with fail
                    (refine wp_region_ext (by kernel_rfl) (by kernel_rfl) ?_; (repeat (first | go_big_quiet_step (fail) | quiet_step (fail))); refine wpQuiet_nil ?_; intro _ hw'; obtain ⟨oq, nq, hw''⟩ := hw'; subst hw'')
                    go_wp2
                    go_roundw
                    case rel => first | exact ⟨r, k + 1, by omega, rfl, by go_num, HRS.out, (by simp (maxDischargeDepth := 60))⟩ | (repeat apply Exists.intro; refine ⟨?_, rfl⟩; exact ⟨r, k + 1, by omega, rfl, by go_num, HRS.out, (by simp (maxDischargeDepth := 60))⟩)
                    case measure => simp [intOf]; omega
                · have hkm : k = m1 := by omega
                  subst hkm
                  go_wp2
                  go_loopw [11, 14] (fun at_ i wr => ∃ a k : Nat, k ≤ dJ.length ∧ a ≤ m2 ∧ at_ = .int .i64 a ∧ i = .int .i64 k ∧ Hid (dJ.drop k = (js.drop a).filter (Ch.jobsKept ⟨jt, true⟩ gone)) ∧ Ext wb wr) (fun _ i _ => dJ.length - (intOf i).toNat)
                  case atStart => exact ⟨0, 0, by omega, by omega, rfl, rfl, by simpa [Hid] using HDJ.out, (by simp (maxDischargeDepth := 60))⟩
                  case round =>
                    obtain ⟨a2', k2, hk2, ha2, rfl, rfl, HT, o2, m2', rfl⟩ := hrel
                    by_cases hlt3 : k2 < dJ.length
                    · obtain ⟨b, q, x, rfl, hx, dx⟩ := JD.out.get hlt3
                      have dx := at2 dx
                      have hq := cell_lt dx.1
                      have hkeep : Ch.jobsKept ⟨jt, true⟩ gone x = true := Ch.filter_head (l := js) (i := k2) (by rw [← HDJ.out]; exact hx)
                      have hdr := drop_at hx
                      rw [HT.out] at hdr
                      obtain ⟨xt, xf⟩ := x
                      dsimp only at dx
                      have HKP := Lib.hid hkeep
                      have HDR := Lib.hid hdr
                      have hkj : (k2 : Int) < (dJ.length : Int) := by omega
                      clear hx hkeep hdr
                      go_upto_region 32 with fail
                      go_loopw [11] (fun at_ wj => ∃ c : Nat, c ≤ m2 ∧ at_ = .int .i64 c ∧ Hid ((js.drop c).filter (Ch.jobsKept ⟨jt, true⟩ gone) = ⟨xt, xf⟩ :: dJ.drop (k2 + 1)) ∧ Ext wb wj) (fun at_ _ => m2 - (intOf at_).toNat)
                      case atStart => exact ⟨a2', ha2, rfl, HDR.out, (by simp (maxDischargeDepth := 60))⟩
                      case round =>
                        obtain ⟨c, hc, rfl, HC, o3, m3, rfl⟩ := hrel
                        have hcl : c < m2 := by have := Ch.filter_drop_lt HC.out; have := E2.out; omega
                        obtain ⟨b4, q4, y, rfl, hy, dy⟩ := JB.out.get hcl
                        have dy := at2 dy
                        have hq4 := cell_lt dy.1
                        have hcj : (c : Int) < (m2 : Int) := by omega
                        have hcj0 : (0 : Int) ≤ (c : Int) := by omega
                        by_cases hyx : y = ⟨xt, xf⟩
                        · subst hyx
                          dsimp only at dy
                          have hq1 : ∀ w, (Go.binOp .neq 74 (.agg #[vi xt, .bool xf]) (.agg #[vi xt, .bool xf])).run Try.prog w = .ok (.bool false) w := fun w => by
                            rw [neqStruct w (eqJob w 9998 ⟨xt, xf⟩ ⟨xt, xf⟩)]; simp
                          have HN := Lib.hid (Ch.filter_drop_eq HC.out hy HKP.out)
                          clear hy
                          go_upto_region 32 with fail
                          (refine wp_region_ext (by kernel_rfl) (by kernel_rfl) ?_; (repeat (first | go_big_quiet_step (fail) | quiet_step (fail))); refine wpQuiet_nil ?_; intro _ hw'; obtain ⟨oq, nq, hw''⟩ := hw'; subst hw'')
                          go_wp2
                          go_roundw
                          case rel => first | exact ⟨c + 1, k2 + 1, by omega, by omega, by go_num, by go_num, HN.out.symm, (by simp (maxDischargeDepth := 60))⟩ | (repeat apply Exists.intro; refine ⟨?_, rfl⟩; exact ⟨c + 1, k2 + 1, by omega, by omega, by go_num, by go_num, HN.out.symm, (by simp (maxDischargeDepth := 60))⟩)
                          case measure => simp [intOf]; omega
                        · obtain ⟨yt, yf⟩ := y
                          dsimp only at dy
                          have hq1 : ∀ w, (Go.binOp .neq 74 (.agg #[vi yt, .bool yf]) (.agg #[vi xt, .bool xf])).run Try.prog w = .ok (.bool true) w := fun w => by
                            rw [neqStruct w (eqJob w 9998 ⟨yt, yf⟩ ⟨xt, xf⟩)]; simp [hyx]
                          have hnx := Ch.filter_drop_ne HC.out hy hyx
                          have hyt : yt = jt := Ch.jobsKept_not hnx.1
                          have HN := Lib.hid hnx.2
                          subst hyt
                          clear hy hyx hnx
                          go_upto_region 32 with fail
                          (refine wp_region_ext (by kernel_rfl) (by kernel_rfl) ?_; (repeat (first | go_big_quiet_step (fail) | quiet_step (fail))); refine wpQuiet_nil ?_; intro _ hw'; obtain ⟨oq, nq, hw''⟩ := hw'; subst hw'')
                          go_upto_region 33 with fail
                          (refine wp_region_ext (by kernel_rfl) (by kernel_rfl) ?_; (repeat (first | go_big_quiet_step (fail) | quiet_step (fail))); refine wpQuiet_nil ?_; intro _ hw'; obtain ⟨oq, nq, hw''⟩ := hw'; subst hw'')
                          go_wp2
                          go_roundw
                          case rel => first | exact ⟨c + 1, by omega, by go_num, HN.out, (by simp (maxDischargeDepth := 60))⟩ | (repeat apply Exists.intro; refine ⟨?_, rfl⟩; exact ⟨c + 1, by omega, by go_num, HN.out, (by simp (maxDischargeDepth := 60))⟩)
                          case measure => simp [intOf]; omega
                    · have hkn : k2 = dJ.length := by omega
                      subst hkn
                      have HEND : Hid ((js.drop a2').filter (Ch.jobsKept ⟨jt, true⟩ gone) = []) := by unfold Hid; rw [← HT.out, List.drop_length]
                      go_wp2
                      go_loopw [11] (fun at_ wj => ∃ c : Nat, c ≤ m2 ∧ at_ = .int .i64 c ∧ Hid ((js.drop c).filter (Ch.jobsKept ⟨jt, true⟩ gone) = []) ∧ Ext wb wj) (fun at_ _ => m2 - (intOf at_).toNat)
                      case atStart => exact ⟨a2', ha2, rfl, HEND.out, (by simp (maxDischargeDepth := 60))⟩
                      case round =>
                        obtain ⟨c, hc, rfl, HC, o3, m3, rfl⟩ := hrel
                        by_cases hcl : c < m2
                        · obtain ⟨b4, q4, y, rfl, hy, dy⟩ := JB.out.get hcl
                          have dy := at2 dy
                          have hq4 := cell_lt dy.1
                          have hcj : (c : Int) < (m2 : Int) := by omega
                          have hnx := Ch.filter_end HC.out hy
                          obtain ⟨yt, yf⟩ := y
                          dsimp only at dy
                          have hyt : yt = jt := Ch.jobsKept_not hnx.1
                          have HN := Lib.hid hnx.2
                          subst hyt
                          clear hy hnx
                          go_upto_region 39 with fail
                          (refine wp_region_ext (by kernel_rfl) (by kernel_rfl) ?_; (repeat (first | go_big_quiet_step (fail) | quiet_step (fail))); refine wpQuiet_nil ?_; intro _ hw'; obtain ⟨oq, nq, hw''⟩ := hw'; subst hw'')
                          go_wp2
                          go_roundw
                          case rel => first | exact ⟨c + 1, by omega, by go_num, HN.out, (by simp (maxDischargeDepth := 60))⟩ | (repeat apply Exists.intro; refine ⟨?_, rfl⟩; exact ⟨c + 1, by omega, by go_num, HN.out, (by simp (maxDischargeDepth := 60))⟩)
                          case measure => simp [intOf]; omega
                        · have hcm : c = m2 := by omega
                          subst hcm
                          go_wp2
                          go_ret
                          exact ⟨rfl, HXB.out.trans (by simp (maxDischargeDepth := 60))⟩
        · obtain ⟨E, HBF⟩ := errV_ne hbf
          clear hbf
          go_wp2_with (first | (go_at_call 36; (with_reducible refine (lightBook_any true _ _ _ _ _ _ _ _ HB).mono ?_); rintro e w1 ⟨rfl, o1, n1, rfl⟩) | (go_at_call 37; (with_reducible refine (bookcheck_at _ last levels a1 m1 c1 a2 m2 c2 l js _ (Sl.below HS.out (Ext.below (by simp (maxDischargeDepth := 60)))) (Sl.below HK.out (Ext.below (by simp (maxDischargeDepth := 60)))) i4 HBF).mono ?_); rintro e w1 ⟨rfl, o1, n1, rfl⟩))
          go_ret
          exact ⟨rfl, HX.out.trans (by simp (maxDischargeDepth := 60))⟩

theorem topOver_walk (last levels jt : Int) (jf gone : Bool) (a1 : Option Addr) (m1 c1 : Nat) (a2 : Option Addr) (m2 c2 : Nat) (l : List Ch.Stay) (js : List Ch.Job) (w : World)
    (h : Sl w 8 stayCells l a1 m1 c1) (h2 : Sl w 2 jobCells js a2 m2 c2) :
    Calls Try.prog 7 #[bookA last a1 m1 c1 a2 m2 c2, vi levels, .agg #[vi jt, .bool jf], .bool gone] w fun e w' => e = .returned (.bool true) ∧ Ext w w' := by
  cases jf
  · cases gone
    · exact topOver_none last levels jt a1 m1 c1 a2 m2 c2 l js w h h2
    · exact topOver_gone last levels jt a1 m1 c1 a2 m2 c2 l js w h h2
  · exact topOver_fetch gone last levels jt a1 m1 c1 a2 m2 c2 l js w h h2
end Go.Proofs.Ytplomeacjbkgnab
