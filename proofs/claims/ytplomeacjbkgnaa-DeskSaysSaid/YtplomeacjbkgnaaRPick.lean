/-
  The walk of the reference's Picked. (Laid by wip/mk_rpick.py.)
-/
import Derived.Test.YtplomeacjbkgnaaRPickLaw
import Derived.Test.YtplomeacjbkgnaaLevels
import Derived.Test.YtplomeacjbkgnaaPlaces
namespace Go.Proofs.Ytplomeacjbkgnaa
open Go.RowKit

theorem rfits_at (F : Bool) (a b c a' b' c' : Int) (w : World) (hf : Hid (Ch.fits ⟨a, b, c⟩ ⟨a', b', c'⟩ = F)) : Calls Try.prog 39 #[.agg #[vi a, vi b, vi c], .agg #[vi a', vi b', vi c']] w fun e w' => e = .returned (.bool F) ∧ Ext w w' := by
  have := rfits_f a b c a' b' c' w
  rw [hf.out] at this
  exact this

set_option maxRecDepth 100000 in
set_option maxHeartbeats 4000000 in
theorem rpicked_any (last id lo hi he : Int) (a1 : Option Addr) (m1 c1 : Nat) (a2 : Option Addr) (m2 c2 : Nat) (aL : Option Addr) (nL cL : Nat) (l : List Ch.Stay) (js : List Ch.Job) (ls : List Ch.Size) (w : World)
    (h : Sl w 8 stayCells l a1 m1 c1) (h2 : Sl w 2 jobCells js a2 m2 c2) (hL : Sl w 3 sizeCells ls aL nL cL) (n1' : 1 ≤ nL) (n4 : nL ≤ 4) (hdp : ∀ s ∈ l, s.home.depth = 0 ∨ s.home.depth = 1) :
    Calls Try.prog 67 #[bookA last a1 m1 c1 a2 m2 c2, .slice aL nL cL, .agg #[vi id, vi lo, vi hi, vi he]] w fun e w' => e = .returned (pickV (Ch.pick ⟨last, l, js⟩ ls ⟨id, ⟨lo, hi, he⟩⟩)) ∧ Ext w w' := by
  have b1 := hL.bound
  have bs0 := h.bound
  have bj0 := h2.bound
  have HDEP := Lib.hid hdp
  have HF := Lib.hid h
  have HJ := Lib.hid h2
  have HL := Lib.hid hL
  have E3 := Lib.hid hL.len
  have i1 : (1 : Int) ≤ (nL : Int) := by omega
  have i4 : (nL : Int) ≤ 4 := by omega
  clear h h2 hL hdp
  go_enter Try.func67, Try.ntmps67
  go_upto_region 2 with (go_at_call 45; refine (rplaces_any _ _ i1 i4).mono ?_; rintro e w1 hh; obtain ⟨pa, pn, pc, rfl, hpl, oP, nP, rfl⟩ := NewPlaces.sl hh; clear hh)
  generalize hW : World.plus _ _ _ = wc at hpl ⊢
  have kc0 : wc.cell? ⟨w.heap.size, 0, none⟩ = some (vi last) := by rw [← hW, plus_cell _ _ _ _ _ _ (by first | (simp; done) | (simp; omega))]; simp [go_sem]
  have kc1 : wc.cell? ⟨w.heap.size, 1, none⟩ = some (.slice a1 m1 c1) := by rw [← hW, plus_cell _ _ _ _ _ _ (by first | (simp; done) | (simp; omega))]; simp [go_sem]
  have kc2 : wc.cell? ⟨w.heap.size, 2, none⟩ = some (.slice a2 m2 c2) := by rw [← hW, plus_cell _ _ _ _ _ _ (by first | (simp; done) | (simp; omega))]; simp [go_sem]
  have qc1 : wc.cell? ⟨w.heap.size + 1, 1, none⟩ = some (vi lo) := by rw [← hW, plus_cell _ _ _ _ _ _ (by first | (simp; done) | (simp; omega))]; simp [go_sem]
  have qc2 : wc.cell? ⟨w.heap.size + 1, 2, none⟩ = some (vi hi) := by rw [← hW, plus_cell _ _ _ _ _ _ (by first | (simp; done) | (simp; omega))]; simp [go_sem]
  have qc3 : wc.cell? ⟨w.heap.size + 1, 3, none⟩ = some (vi he) := by rw [← hW, plus_cell _ _ _ _ _ _ (by first | (simp; done) | (simp; omega))]; simp [go_sem]
  have tc0 : wc.cell? ⟨w.heap.size + 1 + 1, 0, none⟩ = some (vi 0) := by rw [← hW, plus_cell _ _ _ _ _ _ (by first | (simp; done) | (simp; omega))]; simp [go_sem]
  have tc1 : wc.cell? ⟨w.heap.size + 1 + 1, 1, none⟩ = some (vi 0) := by rw [← hW, plus_cell _ _ _ _ _ _ (by first | (simp; done) | (simp; omega))]; simp [go_sem]
  have tc2 : wc.cell? ⟨w.heap.size + 1 + 1, 2, none⟩ = some (vi 0) := by rw [← hW, plus_cell _ _ _ _ _ _ (by first | (simp; done) | (simp; omega))]; simp [go_sem]
  have fz : ∀ i, wc.frozen? ⟨w.heap.size + 1 + 1, i, none⟩ = false := by intro i; rw [← hW, plus_frozen _ _ _ _ _ _ (by first | (simp; done) | (simp; omega))]; simp [go_sem]
  have hx : Ext w wc := by rw [← hW]; exact (by simp (maxDischargeDepth := 60))
  have HXC := Lib.hid hx
  have zc1 := cell_lt kc0
  have zc2 := cell_lt qc1
  have zc3 := cell_lt tc0
  have hpb := hpl.bound
  have HPN := Lib.hid hpl.len
  have HPL0 := Lib.hid hpl
  have HSC := Lib.hid (Sl.below HF.out hx.below)
  have HKC := Lib.hid (Sl.below HJ.out hx.below)
  have HZC := Lib.hid (Sl.below HL.out hx.below)
  have FZ := Lib.hid fz
  have HPK : Hid (Ch.pick ⟨last, l, js⟩ ls ⟨id, ⟨lo, hi, he⟩⟩ = (Ch.places (nL : Int)).find? (doP l js ls ⟨lo, hi, he⟩)) := by unfold Hid; rw [pick_doP, E3.out]
  clear hW hx hpl fz
  go_wp2
  go_loopw [9] (fun i wr => ∃ k : Nat, k ≤ pn ∧ i = .int .i64 k ∧ Hid ((Ch.places (nL : Int)).find? (doP l js ls ⟨lo, hi, he⟩) = ((Ch.places (nL : Int)).drop k).find? (doP l js ls ⟨lo, hi, he⟩)) ∧ Ext wc wr) (fun i _ => pn - (intOf i).toNat)
  case atStart => exact ⟨0, by omega, rfl, by simp [Hid], (by simp (maxDischargeDepth := 60))⟩
  case round =>
    obtain ⟨k, hk, rfl, HT, o, m, rfl⟩ := hrel
    by_cases hlt : k < pn
    · obtain ⟨b, q, x, rfl, hx, dx⟩ := HPL0.out.get hlt
      have dx := at3 dx
      have hq := cell_lt dx.1
      have HXX := Lib.hid hx
      have hok := Ch.places_ok (n := (nL : Int)) i4 x (List.mem_of_getElem? hx)
      have hokk := Ch.placeFault_iff.1 hok
      obtain ⟨u, v, z⟩ := x
      dsimp only at dx hokk
      obtain ⟨j, rfl⟩ : ∃ j : Nat, u = (j : Int) + 1 := ⟨(u - 1).toNat, by omega⟩
      have hz01 : z = 0 ∨ z = 1 := by omega
      have hjl : j < nL := by omega
      have hj0 : (0 : Int) ≤ (j : Int) := by omega
      have hj1 : (j : Int) < (nL : Int) := by omega
      have hw1 : IntKind.i64.wrap (j : Int) = (j : Int) := IntWalk.i64_in _ (by omega)
      have hw2 : IntKind.i64.wrap ((j : Int) + 1 - 1) = (j : Int) := by rw [show (j : Int) + 1 - 1 = j by omega]; exact hw1
      have hkp : (k : Int) < (pn : Int) := by omega
      obtain ⟨lb, lq, s, rfl, hs, ds⟩ := HZC.out.get hjl
      have ds := at3 ds
      have hlb := cell_lt ds.1
      obtain ⟨s0, s1, s2⟩ := s
      dsimp only at ds
      generalize hF : Ch.fits ⟨lo, hi, he⟩ ⟨s0, s1, s2⟩ = F
      have HD : Hid (rfreeTo js ((j : Int) + 1) v z F l l.length = doP l js ls ⟨lo, hi, he⟩ ⟨(j : Int) + 1, v, z⟩) := by
        unfold Hid
        refine rfree_do HDEP.out hz01 ?_
        rw [← hF, show ((j : Int) + 1 - 1).toNat = j by omega, List.getD_eq_getElem?_getD, hs]
        rfl
      have HFF := Lib.hid hF
      clear hx hok hokk hs hF
      go_upto_region 5 with fail
      (refine wp_region_ext (by kernel_rfl) (by kernel_rfl) ?_; (repeat (first | go_big_quiet_step ((first | (intro _; go_at_call 39; exact ext_callG (rfits_at F _ _ _ _ _ _ _ HFF) (by rintro w' ⟨o', n', rfl⟩; exact ⟨_, n', by first | (simp only [plus_plus]; rfl) | (simp only [plus_plus, Array.append_assoc]; rfl) | rfl⟩)))) | quiet_step ((first | (intro _; go_at_call 39; exact ext_callG (rfits_at F _ _ _ _ _ _ _ HFF) (by rintro w' ⟨o', n', rfl⟩; exact ⟨_, n', by first | (simp only [plus_plus]; rfl) | (simp only [plus_plus, Array.append_assoc]; rfl) | rfl⟩)))))); refine wpQuiet_nil ?_; intro _ hw'; obtain ⟨oq, nq, hw''⟩ := hw'; subst hw'')
      go_wp2
      go_loopw [10, 11] (fun fv i wk => ∃ kk : Nat, kk ≤ m1 ∧ i = .int .i64 kk ∧ fv = .bool (rfreeTo js ((j : Int) + 1) v z F l kk) ∧ Ext wc wk) (fun _ i _ => m1 - (intOf i).toNat)
      case atStart => exact ⟨0, by omega, rfl, by simp [rfreeTo], (by simp (maxDischargeDepth := 60))⟩
      case round =>
        obtain ⟨kk, hkk, rfl, rfl, o', m', rfl⟩ := hrel
        by_cases hlk : kk < m1
        · obtain ⟨sb, sq, st, rfl, hst, dst⟩ := HSC.out.get hlk
          have hdep := HDEP.out st (List.mem_of_getElem? hst)
          have dst := at8 dst
          have hsb := cell_lt dst.1
          obtain ⟨t, ⟨ci, ⟨cx, cy, cz⟩⟩, ⟨h0, h1, h2⟩⟩ := st
          dsimp only at dst hdep
          have HSS := Lib.hid hst
          have hkj : (kk : Int) < (m1 : Int) := by omega
          clear hst
          generalize hFK : rfreeTo js ((j : Int) + 1) v z F l kk = FK
          have HFK := Lib.hid hFK
          clear hFK
          cases e1 : (h0 == (j : Int) + 1)
          · have HG : Hid (pcond ((j : Int) + 1) v z ⟨t, ⟨ci, ⟨cx, cy, cz⟩⟩, ⟨h0, h1, h2⟩⟩ = false) := by unfold Hid pcond; dsimp only; rw [e1]; rfl
            go_upto_region 10 with fail
            generalize hW : World.alloc _ _ = wd
            generalize hDD : wc.heap.size + o'.size = DD
            have hxd : Ext wc wd := by rw [← hW]; exact (by simp (maxDischargeDepth := 60))
            have hd0 : wd.cell? ⟨DD, 0, none⟩ = some (vi (h0)) := by rw [← hW, ← hDD]; simp [go_sem]
            have hd1 : wd.cell? ⟨DD, 1, none⟩ = some (vi (h1)) := by rw [← hW, ← hDD]; simp [go_sem]
            have hd2 : wd.cell? ⟨DD, 2, none⟩ = some (vi (h2)) := by rw [← hW, ← hDD]; simp [go_sem]
            have HXD := Lib.hid hxd
            have kd0 := ext_cell hxd kc0
            have kd1 := ext_cell hxd kc1
            have kd2 := ext_cell hxd kc2
            have dp0 := ext_cell hxd dx.1
            have dp1 := ext_cell hxd dx.2.1
            have dp2 := ext_cell hxd dx.2.2
            have ds0 := ext_cell hxd dst.1
            have zd0 := cell_lt hd0
            have zd1 := cell_lt kd0
            have zd2 := cell_lt dp0
            have zd3 := cell_lt ds0
            clear hW hDD hxd
            (refine wp_region_ext (by kernel_rfl) (by kernel_rfl) ?_; (repeat (first | go_big_quiet_step (fail) | quiet_step (fail))); refine wpQuiet_nil ?_; intro _ hw'; obtain ⟨oq, nq, hw''⟩ := hw'; subst hw'')
            go_wp2
            go_loopw [10, 13] (fun fv i wj => ∃ nn : Nat, nn ≤ m2 ∧ i = .int .i64 nn ∧ fv = .bool (rfreeJ js ((j : Int) + 1) v ⟨t, ⟨ci, ⟨cx, cy, cz⟩⟩, ⟨h0, h1, h2⟩⟩ (FK && true) nn) ∧ Ext wd wj) (fun _ i _ => m2 - (intOf i).toNat)
            case atStart => exact ⟨0, by omega, rfl, congrArg Value.bool (by simp [rfreeJ]), (by simp (maxDischargeDepth := 60))⟩
            case round =>
              obtain ⟨nn, hnn, rfl, rfl, o2, m2', rfl⟩ := hrel
              by_cases hln : nn < m2
              · obtain ⟨jb, jq, jj, rfl, hjj, dj⟩ := HKC.out.get hln
                have dj := at2 dj
                obtain ⟨jt, jf⟩ := jj
                dsimp only at dj
                have dj0 := ext_cell HXD.out dj.1
                have dj1 := ext_cell HXD.out dj.2
                have zj := cell_lt dj0
                have HST := Lib.hid (rfreeJ_step (a := (j : Int) + 1) (b := v) (s := ⟨t, ⟨ci, ⟨cx, cy, cz⟩⟩, ⟨h0, h1, h2⟩⟩) (f := (FK && true)) hjj)
                have hnj : (nn : Int) < (m2 : Int) := by omega
                clear hjj dj
                cases jf
                · cases e5 : (jt == t)
                  · have HW : Hid (wjob ((j : Int) + 1) v ⟨t, ⟨ci, ⟨cx, cy, cz⟩⟩, ⟨h0, h1, h2⟩⟩ ⟨jt, false⟩ = false) := by unfold Hid wjob; dsimp only; rw [e5]; rfl
                    go_upto_region 16 with fail
                    generalize hW : World.alloc _ _ = we
                    generalize hDE : wd.heap.size + o2.size = DE
                    have hxe : Ext wd we := by rw [← hW]; exact (by simp (maxDischargeDepth := 60))
                    have he0 : we.cell? ⟨DE, 0, none⟩ = some (vi jt) := by rw [← hW, ← hDE]; simp [go_sem]
                    have he1 : we.cell? ⟨DE, 1, none⟩ = some (.bool false) := by rw [← hW, ← hDE]; simp [go_sem]
                    have HXE := Lib.hid hxe
                    have ge0 := ext_cell hxe hd0
                    have ge1 := ext_cell hxe hd1
                    have ge2 := ext_cell hxe hd2
                    have ke0 := ext_cell hxe kd0
                    have ke1 := ext_cell hxe kd1
                    have ke2 := ext_cell hxe kd2
                    have pe0 := ext_cell hxe dp0
                    have pe1 := ext_cell hxe dp1
                    have pe2 := ext_cell hxe dp2
                    have se0 := ext_cell hxe ds0
                    have ze0 := cell_lt he0
                    have ze1 := cell_lt ge0
                    have ze2 := cell_lt ke0
                    have ze3 := cell_lt pe0
                    have ze4 := cell_lt se0
                    clear hW hDE hxe
                    (refine wp_region_ext (by kernel_rfl) (by kernel_rfl) ?_; (repeat (first | go_big_quiet_step (fail) | quiet_step (fail))); refine wpQuiet_nil ?_; intro _ hw'; obtain ⟨oq, nq, hw''⟩ := hw'; subst hw'')
                    go_wp2
                    go_roundw
                    case rel => first | exact ⟨nn + 1, by omega, by go_num, congrArg Value.bool (by rw [HST.out, HW.out]; simp), HXE.out.trans (by simp (maxDischargeDepth := 60))⟩ | (repeat apply Exists.intro; refine ⟨?_, rfl⟩; exact ⟨nn + 1, by omega, by go_num, congrArg Value.bool (by rw [HST.out, HW.out]; simp), HXE.out.trans (by simp (maxDischargeDepth := 60))⟩)
                    case measure => simp [intOf]; omega

                  · obtain rfl : t = jt := by have := e5; simp at this; exact this.symm
                    clear e5
                    have HW : Hid (wjob ((j : Int) + 1) v ⟨t, ⟨ci, ⟨cx, cy, cz⟩⟩, ⟨h0, h1, h2⟩⟩ ⟨t, false⟩ = false) := by unfold Hid wjob; dsimp only; simp [e1]
                    go_upto_region 16 with fail
                    generalize hW : World.alloc _ _ = we
                    generalize hDE : wd.heap.size + o2.size = DE
                    have hxe : Ext wd we := by rw [← hW]; exact (by simp (maxDischargeDepth := 60))
                    have he0 : we.cell? ⟨DE, 0, none⟩ = some (vi t) := by rw [← hW, ← hDE]; simp [go_sem]
                    have he1 : we.cell? ⟨DE, 1, none⟩ = some (.bool false) := by rw [← hW, ← hDE]; simp [go_sem]
                    have HXE := Lib.hid hxe
                    have ge0 := ext_cell hxe hd0
                    have ge1 := ext_cell hxe hd1
                    have ge2 := ext_cell hxe hd2
                    have ke0 := ext_cell hxe kd0
                    have ke1 := ext_cell hxe kd1
                    have ke2 := ext_cell hxe kd2
                    have pe0 := ext_cell hxe dp0
                    have pe1 := ext_cell hxe dp1
                    have pe2 := ext_cell hxe dp2
                    have se0 := ext_cell hxe ds0
                    have ze0 := cell_lt he0
                    have ze1 := cell_lt ge0
                    have ze2 := cell_lt ke0
                    have ze3 := cell_lt pe0
                    have ze4 := cell_lt se0
                    clear hW hDE hxe
                    (refine wp_region_ext (by kernel_rfl) (by kernel_rfl) ?_; (repeat (first | go_big_quiet_step (fail) | quiet_step (fail))); refine wpQuiet_nil ?_; intro _ hw'; obtain ⟨oq, nq, hw''⟩ := hw'; subst hw'')
                    go_wp2
                    go_roundw
                    case rel => first | exact ⟨nn + 1, by omega, by go_num, congrArg Value.bool (by rw [HST.out, HW.out]; simp), HXE.out.trans (by simp (maxDischargeDepth := 60))⟩ | (repeat apply Exists.intro; refine ⟨?_, rfl⟩; exact ⟨nn + 1, by omega, by go_num, congrArg Value.bool (by rw [HST.out, HW.out]; simp), HXE.out.trans (by simp (maxDischargeDepth := 60))⟩)
                    case measure => simp [intOf]; omega

                · have HW : Hid (wjob ((j : Int) + 1) v ⟨t, ⟨ci, ⟨cx, cy, cz⟩⟩, ⟨h0, h1, h2⟩⟩ ⟨jt, true⟩ = false) := by unfold Hid wjob; rfl
                  go_upto_region 16 with fail
                  generalize hW : World.alloc _ _ = we
                  generalize hDE : wd.heap.size + o2.size = DE
                  have hxe : Ext wd we := by rw [← hW]; exact (by simp (maxDischargeDepth := 60))
                  have he0 : we.cell? ⟨DE, 0, none⟩ = some (vi jt) := by rw [← hW, ← hDE]; simp [go_sem]
                  have he1 : we.cell? ⟨DE, 1, none⟩ = some (.bool true) := by rw [← hW, ← hDE]; simp [go_sem]
                  have HXE := Lib.hid hxe
                  have ge0 := ext_cell hxe hd0
                  have ge1 := ext_cell hxe hd1
                  have ge2 := ext_cell hxe hd2
                  have ke0 := ext_cell hxe kd0
                  have ke1 := ext_cell hxe kd1
                  have ke2 := ext_cell hxe kd2
                  have pe0 := ext_cell hxe dp0
                  have pe1 := ext_cell hxe dp1
                  have pe2 := ext_cell hxe dp2
                  have se0 := ext_cell hxe ds0
                  have ze0 := cell_lt he0
                  have ze1 := cell_lt ge0
                  have ze2 := cell_lt ke0
                  have ze3 := cell_lt pe0
                  have ze4 := cell_lt se0
                  clear hW hDE hxe
                  (refine wp_region_ext (by kernel_rfl) (by kernel_rfl) ?_; (repeat (first | go_big_quiet_step (fail) | quiet_step (fail))); refine wpQuiet_nil ?_; intro _ hw'; obtain ⟨oq, nq, hw''⟩ := hw'; subst hw'')
                  go_wp2
                  go_roundw
                  case rel => first | exact ⟨nn + 1, by omega, by go_num, congrArg Value.bool (by rw [HST.out, HW.out]; simp), HXE.out.trans (by simp (maxDischargeDepth := 60))⟩ | (repeat apply Exists.intro; refine ⟨?_, rfl⟩; exact ⟨nn + 1, by omega, by go_num, congrArg Value.bool (by rw [HST.out, HW.out]; simp), HXE.out.trans (by simp (maxDischargeDepth := 60))⟩)
                  case measure => simp [intOf]; omega


              · have hnm : nn = js.length := by have := HKC.out.len; omega
                have HST2 : Hid (rfreeTo js ((j : Int) + 1) v z F l (kk + 1) = rfreeJ js ((j : Int) + 1) v ⟨t, ⟨ci, ⟨cx, cy, cz⟩⟩, ⟨h0, h1, h2⟩⟩ (FK && true) js.length) := by unfold Hid; rw [rfreeTo_step HSS.out, HG.out, HFK.out]; rfl
                subst hnm
                go_wp2
                go_roundw
                case rel => first | exact ⟨kk + 1, by omega, by go_num, congrArg Value.bool HST2.out.symm, HXD.out.trans (by simp (maxDischargeDepth := 60))⟩ | (repeat apply Exists.intro; refine ⟨?_, rfl⟩; exact ⟨kk + 1, by omega, by go_num, congrArg Value.bool HST2.out.symm, HXD.out.trans (by simp (maxDischargeDepth := 60))⟩)
                case measure => simp [intOf]; omega

          · obtain rfl : h0 = (j : Int) + 1 := by simpa using e1
            clear e1
            cases e2 : (h1 == v)
            · have HG : Hid (pcond ((j : Int) + 1) v z ⟨t, ⟨ci, ⟨cx, cy, cz⟩⟩, ⟨(j : Int) + 1, h1, h2⟩⟩ = false) := by unfold Hid pcond; dsimp only; rw [e2]; simp
              go_upto_region 10 with fail
              generalize hW : World.alloc _ _ = wd
              generalize hDD : wc.heap.size + o'.size = DD
              have hxd : Ext wc wd := by rw [← hW]; exact (by simp (maxDischargeDepth := 60))
              have hd0 : wd.cell? ⟨DD, 0, none⟩ = some (vi ((j : Int) + 1)) := by rw [← hW, ← hDD]; simp [go_sem]
              have hd1 : wd.cell? ⟨DD, 1, none⟩ = some (vi (h1)) := by rw [← hW, ← hDD]; simp [go_sem]
              have hd2 : wd.cell? ⟨DD, 2, none⟩ = some (vi (h2)) := by rw [← hW, ← hDD]; simp [go_sem]
              have HXD := Lib.hid hxd
              have kd0 := ext_cell hxd kc0
              have kd1 := ext_cell hxd kc1
              have kd2 := ext_cell hxd kc2
              have dp0 := ext_cell hxd dx.1
              have dp1 := ext_cell hxd dx.2.1
              have dp2 := ext_cell hxd dx.2.2
              have ds0 := ext_cell hxd dst.1
              have zd0 := cell_lt hd0
              have zd1 := cell_lt kd0
              have zd2 := cell_lt dp0
              have zd3 := cell_lt ds0
              clear hW hDD hxd
              (refine wp_region_ext (by kernel_rfl) (by kernel_rfl) ?_; (repeat (first | go_big_quiet_step (fail) | quiet_step (fail))); refine wpQuiet_nil ?_; intro _ hw'; obtain ⟨oq, nq, hw''⟩ := hw'; subst hw'')
              go_wp2
              go_loopw [10, 13] (fun fv i wj => ∃ nn : Nat, nn ≤ m2 ∧ i = .int .i64 nn ∧ fv = .bool (rfreeJ js ((j : Int) + 1) v ⟨t, ⟨ci, ⟨cx, cy, cz⟩⟩, ⟨(j : Int) + 1, h1, h2⟩⟩ (FK && true) nn) ∧ Ext wd wj) (fun _ i _ => m2 - (intOf i).toNat)
              case atStart => exact ⟨0, by omega, rfl, congrArg Value.bool (by simp [rfreeJ]), (by simp (maxDischargeDepth := 60))⟩
              case round =>
                obtain ⟨nn, hnn, rfl, rfl, o2, m2', rfl⟩ := hrel
                by_cases hln : nn < m2
                · obtain ⟨jb, jq, jj, rfl, hjj, dj⟩ := HKC.out.get hln
                  have dj := at2 dj
                  obtain ⟨jt, jf⟩ := jj
                  dsimp only at dj
                  have dj0 := ext_cell HXD.out dj.1
                  have dj1 := ext_cell HXD.out dj.2
                  have zj := cell_lt dj0
                  have HST := Lib.hid (rfreeJ_step (a := (j : Int) + 1) (b := v) (s := ⟨t, ⟨ci, ⟨cx, cy, cz⟩⟩, ⟨(j : Int) + 1, h1, h2⟩⟩) (f := (FK && true)) hjj)
                  have hnj : (nn : Int) < (m2 : Int) := by omega
                  clear hjj dj
                  cases jf
                  · cases e5 : (jt == t)
                    · have HW : Hid (wjob ((j : Int) + 1) v ⟨t, ⟨ci, ⟨cx, cy, cz⟩⟩, ⟨(j : Int) + 1, h1, h2⟩⟩ ⟨jt, false⟩ = false) := by unfold Hid wjob; dsimp only; rw [e5]; rfl
                      go_upto_region 16 with fail
                      generalize hW : World.alloc _ _ = we
                      generalize hDE : wd.heap.size + o2.size = DE
                      have hxe : Ext wd we := by rw [← hW]; exact (by simp (maxDischargeDepth := 60))
                      have he0 : we.cell? ⟨DE, 0, none⟩ = some (vi jt) := by rw [← hW, ← hDE]; simp [go_sem]
                      have he1 : we.cell? ⟨DE, 1, none⟩ = some (.bool false) := by rw [← hW, ← hDE]; simp [go_sem]
                      have HXE := Lib.hid hxe
                      have ge0 := ext_cell hxe hd0
                      have ge1 := ext_cell hxe hd1
                      have ge2 := ext_cell hxe hd2
                      have ke0 := ext_cell hxe kd0
                      have ke1 := ext_cell hxe kd1
                      have ke2 := ext_cell hxe kd2
                      have pe0 := ext_cell hxe dp0
                      have pe1 := ext_cell hxe dp1
                      have pe2 := ext_cell hxe dp2
                      have se0 := ext_cell hxe ds0
                      have ze0 := cell_lt he0
                      have ze1 := cell_lt ge0
                      have ze2 := cell_lt ke0
                      have ze3 := cell_lt pe0
                      have ze4 := cell_lt se0
                      clear hW hDE hxe
                      (refine wp_region_ext (by kernel_rfl) (by kernel_rfl) ?_; (repeat (first | go_big_quiet_step (fail) | quiet_step (fail))); refine wpQuiet_nil ?_; intro _ hw'; obtain ⟨oq, nq, hw''⟩ := hw'; subst hw'')
                      go_wp2
                      go_roundw
                      case rel => first | exact ⟨nn + 1, by omega, by go_num, congrArg Value.bool (by rw [HST.out, HW.out]; simp), HXE.out.trans (by simp (maxDischargeDepth := 60))⟩ | (repeat apply Exists.intro; refine ⟨?_, rfl⟩; exact ⟨nn + 1, by omega, by go_num, congrArg Value.bool (by rw [HST.out, HW.out]; simp), HXE.out.trans (by simp (maxDischargeDepth := 60))⟩)
                      case measure => simp [intOf]; omega

                    · obtain rfl : t = jt := by have := e5; simp at this; exact this.symm
                      clear e5
                      have HW : Hid (wjob ((j : Int) + 1) v ⟨t, ⟨ci, ⟨cx, cy, cz⟩⟩, ⟨(j : Int) + 1, h1, h2⟩⟩ ⟨t, false⟩ = false) := by unfold Hid wjob; dsimp only; simp [e2]
                      go_upto_region 16 with fail
                      generalize hW : World.alloc _ _ = we
                      generalize hDE : wd.heap.size + o2.size = DE
                      have hxe : Ext wd we := by rw [← hW]; exact (by simp (maxDischargeDepth := 60))
                      have he0 : we.cell? ⟨DE, 0, none⟩ = some (vi t) := by rw [← hW, ← hDE]; simp [go_sem]
                      have he1 : we.cell? ⟨DE, 1, none⟩ = some (.bool false) := by rw [← hW, ← hDE]; simp [go_sem]
                      have HXE := Lib.hid hxe
                      have ge0 := ext_cell hxe hd0
                      have ge1 := ext_cell hxe hd1
                      have ge2 := ext_cell hxe hd2
                      have ke0 := ext_cell hxe kd0
                      have ke1 := ext_cell hxe kd1
                      have ke2 := ext_cell hxe kd2
                      have pe0 := ext_cell hxe dp0
                      have pe1 := ext_cell hxe dp1
                      have pe2 := ext_cell hxe dp2
                      have se0 := ext_cell hxe ds0
                      have ze0 := cell_lt he0
                      have ze1 := cell_lt ge0
                      have ze2 := cell_lt ke0
                      have ze3 := cell_lt pe0
                      have ze4 := cell_lt se0
                      clear hW hDE hxe
                      (refine wp_region_ext (by kernel_rfl) (by kernel_rfl) ?_; (repeat (first | go_big_quiet_step (fail) | quiet_step (fail))); refine wpQuiet_nil ?_; intro _ hw'; obtain ⟨oq, nq, hw''⟩ := hw'; subst hw'')
                      go_wp2
                      go_roundw
                      case rel => first | exact ⟨nn + 1, by omega, by go_num, congrArg Value.bool (by rw [HST.out, HW.out]; simp), HXE.out.trans (by simp (maxDischargeDepth := 60))⟩ | (repeat apply Exists.intro; refine ⟨?_, rfl⟩; exact ⟨nn + 1, by omega, by go_num, congrArg Value.bool (by rw [HST.out, HW.out]; simp), HXE.out.trans (by simp (maxDischargeDepth := 60))⟩)
                      case measure => simp [intOf]; omega

                  · have HW : Hid (wjob ((j : Int) + 1) v ⟨t, ⟨ci, ⟨cx, cy, cz⟩⟩, ⟨(j : Int) + 1, h1, h2⟩⟩ ⟨jt, true⟩ = false) := by unfold Hid wjob; rfl
                    go_upto_region 16 with fail
                    generalize hW : World.alloc _ _ = we
                    generalize hDE : wd.heap.size + o2.size = DE
                    have hxe : Ext wd we := by rw [← hW]; exact (by simp (maxDischargeDepth := 60))
                    have he0 : we.cell? ⟨DE, 0, none⟩ = some (vi jt) := by rw [← hW, ← hDE]; simp [go_sem]
                    have he1 : we.cell? ⟨DE, 1, none⟩ = some (.bool true) := by rw [← hW, ← hDE]; simp [go_sem]
                    have HXE := Lib.hid hxe
                    have ge0 := ext_cell hxe hd0
                    have ge1 := ext_cell hxe hd1
                    have ge2 := ext_cell hxe hd2
                    have ke0 := ext_cell hxe kd0
                    have ke1 := ext_cell hxe kd1
                    have ke2 := ext_cell hxe kd2
                    have pe0 := ext_cell hxe dp0
                    have pe1 := ext_cell hxe dp1
                    have pe2 := ext_cell hxe dp2
                    have se0 := ext_cell hxe ds0
                    have ze0 := cell_lt he0
                    have ze1 := cell_lt ge0
                    have ze2 := cell_lt ke0
                    have ze3 := cell_lt pe0
                    have ze4 := cell_lt se0
                    clear hW hDE hxe
                    (refine wp_region_ext (by kernel_rfl) (by kernel_rfl) ?_; (repeat (first | go_big_quiet_step (fail) | quiet_step (fail))); refine wpQuiet_nil ?_; intro _ hw'; obtain ⟨oq, nq, hw''⟩ := hw'; subst hw'')
                    go_wp2
                    go_roundw
                    case rel => first | exact ⟨nn + 1, by omega, by go_num, congrArg Value.bool (by rw [HST.out, HW.out]; simp), HXE.out.trans (by simp (maxDischargeDepth := 60))⟩ | (repeat apply Exists.intro; refine ⟨?_, rfl⟩; exact ⟨nn + 1, by omega, by go_num, congrArg Value.bool (by rw [HST.out, HW.out]; simp), HXE.out.trans (by simp (maxDischargeDepth := 60))⟩)
                    case measure => simp [intOf]; omega


                · have hnm : nn = js.length := by have := HKC.out.len; omega
                  have HST2 : Hid (rfreeTo js ((j : Int) + 1) v z F l (kk + 1) = rfreeJ js ((j : Int) + 1) v ⟨t, ⟨ci, ⟨cx, cy, cz⟩⟩, ⟨(j : Int) + 1, h1, h2⟩⟩ (FK && true) js.length) := by unfold Hid; rw [rfreeTo_step HSS.out, HG.out, HFK.out]; rfl
                  subst hnm
                  go_wp2
                  go_roundw
                  case rel => first | exact ⟨kk + 1, by omega, by go_num, congrArg Value.bool HST2.out.symm, HXD.out.trans (by simp (maxDischargeDepth := 60))⟩ | (repeat apply Exists.intro; refine ⟨?_, rfl⟩; exact ⟨kk + 1, by omega, by go_num, congrArg Value.bool HST2.out.symm, HXD.out.trans (by simp (maxDischargeDepth := 60))⟩)
                  case measure => simp [intOf]; omega

            · obtain rfl : h1 = v := by simpa using e2
              clear e2
              rcases hdep with rfl | rfl <;> rcases hz01 with rfl | rfl
              · have HG : Hid (pcond ((j : Int) + 1) h1 0 ⟨t, ⟨ci, ⟨cx, cy, cz⟩⟩, ⟨(j : Int) + 1, h1, 0⟩⟩ = true) := by unfold Hid pcond; simp
                go_upto_region 10 with fail
                generalize hW : World.alloc _ _ = wd
                generalize hDD : wc.heap.size + o'.size = DD
                have hxd : Ext wc wd := by rw [← hW]; exact (by simp (maxDischargeDepth := 60))
                have hd0 : wd.cell? ⟨DD, 0, none⟩ = some (vi ((j : Int) + 1)) := by rw [← hW, ← hDD]; simp [go_sem]
                have hd1 : wd.cell? ⟨DD, 1, none⟩ = some (vi (h1)) := by rw [← hW, ← hDD]; simp [go_sem]
                have hd2 : wd.cell? ⟨DD, 2, none⟩ = some (vi (0)) := by rw [← hW, ← hDD]; simp [go_sem]
                have HXD := Lib.hid hxd
                have kd0 := ext_cell hxd kc0
                have kd1 := ext_cell hxd kc1
                have kd2 := ext_cell hxd kc2
                have dp0 := ext_cell hxd dx.1
                have dp1 := ext_cell hxd dx.2.1
                have dp2 := ext_cell hxd dx.2.2
                have ds0 := ext_cell hxd dst.1
                have zd0 := cell_lt hd0
                have zd1 := cell_lt kd0
                have zd2 := cell_lt dp0
                have zd3 := cell_lt ds0
                clear hW hDD hxd
                (refine wp_region_ext (by kernel_rfl) (by kernel_rfl) ?_; (repeat (first | go_big_quiet_step (fail) | quiet_step (fail))); refine wpQuiet_nil ?_; intro _ hw'; obtain ⟨oq, nq, hw''⟩ := hw'; subst hw'')
                go_wp2
                go_loopw [10, 13] (fun fv i wj => ∃ nn : Nat, nn ≤ m2 ∧ i = .int .i64 nn ∧ fv = .bool (rfreeJ js ((j : Int) + 1) h1 ⟨t, ⟨ci, ⟨cx, cy, cz⟩⟩, ⟨(j : Int) + 1, h1, 0⟩⟩ (FK && false) nn) ∧ Ext wd wj) (fun _ i _ => m2 - (intOf i).toNat)
                case atStart => exact ⟨0, by omega, rfl, congrArg Value.bool (by simp [rfreeJ]), (by simp (maxDischargeDepth := 60))⟩
                case round =>
                  obtain ⟨nn, hnn, rfl, rfl, o2, m2', rfl⟩ := hrel
                  by_cases hln : nn < m2
                  · obtain ⟨jb, jq, jj, rfl, hjj, dj⟩ := HKC.out.get hln
                    have dj := at2 dj
                    obtain ⟨jt, jf⟩ := jj
                    dsimp only at dj
                    have dj0 := ext_cell HXD.out dj.1
                    have dj1 := ext_cell HXD.out dj.2
                    have zj := cell_lt dj0
                    have HST := Lib.hid (rfreeJ_step (a := (j : Int) + 1) (b := h1) (s := ⟨t, ⟨ci, ⟨cx, cy, cz⟩⟩, ⟨(j : Int) + 1, h1, 0⟩⟩) (f := (FK && false)) hjj)
                    have hnj : (nn : Int) < (m2 : Int) := by omega
                    clear hjj dj
                    cases jf
                    · cases e5 : (jt == t)
                      · have HW : Hid (wjob ((j : Int) + 1) h1 ⟨t, ⟨ci, ⟨cx, cy, cz⟩⟩, ⟨(j : Int) + 1, h1, 0⟩⟩ ⟨jt, false⟩ = false) := by unfold Hid wjob; dsimp only; rw [e5]; rfl
                        go_upto_region 16 with fail
                        generalize hW : World.alloc _ _ = we
                        generalize hDE : wd.heap.size + o2.size = DE
                        have hxe : Ext wd we := by rw [← hW]; exact (by simp (maxDischargeDepth := 60))
                        have he0 : we.cell? ⟨DE, 0, none⟩ = some (vi jt) := by rw [← hW, ← hDE]; simp [go_sem]
                        have he1 : we.cell? ⟨DE, 1, none⟩ = some (.bool false) := by rw [← hW, ← hDE]; simp [go_sem]
                        have HXE := Lib.hid hxe
                        have ge0 := ext_cell hxe hd0
                        have ge1 := ext_cell hxe hd1
                        have ge2 := ext_cell hxe hd2
                        have ke0 := ext_cell hxe kd0
                        have ke1 := ext_cell hxe kd1
                        have ke2 := ext_cell hxe kd2
                        have pe0 := ext_cell hxe dp0
                        have pe1 := ext_cell hxe dp1
                        have pe2 := ext_cell hxe dp2
                        have se0 := ext_cell hxe ds0
                        have ze0 := cell_lt he0
                        have ze1 := cell_lt ge0
                        have ze2 := cell_lt ke0
                        have ze3 := cell_lt pe0
                        have ze4 := cell_lt se0
                        clear hW hDE hxe
                        (refine wp_region_ext (by kernel_rfl) (by kernel_rfl) ?_; (repeat (first | go_big_quiet_step (fail) | quiet_step (fail))); refine wpQuiet_nil ?_; intro _ hw'; obtain ⟨oq, nq, hw''⟩ := hw'; subst hw'')
                        go_wp2
                        go_roundw
                        case rel => first | exact ⟨nn + 1, by omega, by go_num, congrArg Value.bool (by rw [HST.out, HW.out]; simp), HXE.out.trans (by simp (maxDischargeDepth := 60))⟩ | (repeat apply Exists.intro; refine ⟨?_, rfl⟩; exact ⟨nn + 1, by omega, by go_num, congrArg Value.bool (by rw [HST.out, HW.out]; simp), HXE.out.trans (by simp (maxDischargeDepth := 60))⟩)
                        case measure => simp [intOf]; omega

                      · obtain rfl : t = jt := by have := e5; simp at this; exact this.symm
                        clear e5
                        have HW : Hid (wjob ((j : Int) + 1) h1 ⟨t, ⟨ci, ⟨cx, cy, cz⟩⟩, ⟨(j : Int) + 1, h1, 0⟩⟩ ⟨t, false⟩ = false) := by unfold Hid wjob; simp
                        go_upto_region 16 with fail
                        generalize hW : World.alloc _ _ = we
                        generalize hDE : wd.heap.size + o2.size = DE
                        have hxe : Ext wd we := by rw [← hW]; exact (by simp (maxDischargeDepth := 60))
                        have he0 : we.cell? ⟨DE, 0, none⟩ = some (vi t) := by rw [← hW, ← hDE]; simp [go_sem]
                        have he1 : we.cell? ⟨DE, 1, none⟩ = some (.bool false) := by rw [← hW, ← hDE]; simp [go_sem]
                        have HXE := Lib.hid hxe
                        have ge0 := ext_cell hxe hd0
                        have ge1 := ext_cell hxe hd1
                        have ge2 := ext_cell hxe hd2
                        have ke0 := ext_cell hxe kd0
                        have ke1 := ext_cell hxe kd1
                        have ke2 := ext_cell hxe kd2
                        have pe0 := ext_cell hxe dp0
                        have pe1 := ext_cell hxe dp1
                        have pe2 := ext_cell hxe dp2
                        have se0 := ext_cell hxe ds0
                        have ze0 := cell_lt he0
                        have ze1 := cell_lt ge0
                        have ze2 := cell_lt ke0
                        have ze3 := cell_lt pe0
                        have ze4 := cell_lt se0
                        clear hW hDE hxe
                        (refine wp_region_ext (by kernel_rfl) (by kernel_rfl) ?_; (repeat (first | go_big_quiet_step (fail) | quiet_step (fail))); refine wpQuiet_nil ?_; intro _ hw'; obtain ⟨oq, nq, hw''⟩ := hw'; subst hw'')
                        go_wp2
                        go_roundw
                        case rel => first | exact ⟨nn + 1, by omega, by go_num, congrArg Value.bool (by rw [HST.out, HW.out]; simp), HXE.out.trans (by simp (maxDischargeDepth := 60))⟩ | (repeat apply Exists.intro; refine ⟨?_, rfl⟩; exact ⟨nn + 1, by omega, by go_num, congrArg Value.bool (by rw [HST.out, HW.out]; simp), HXE.out.trans (by simp (maxDischargeDepth := 60))⟩)
                        case measure => simp [intOf]; omega

                    · have HW : Hid (wjob ((j : Int) + 1) h1 ⟨t, ⟨ci, ⟨cx, cy, cz⟩⟩, ⟨(j : Int) + 1, h1, 0⟩⟩ ⟨jt, true⟩ = false) := by unfold Hid wjob; rfl
                      go_upto_region 16 with fail
                      generalize hW : World.alloc _ _ = we
                      generalize hDE : wd.heap.size + o2.size = DE
                      have hxe : Ext wd we := by rw [← hW]; exact (by simp (maxDischargeDepth := 60))
                      have he0 : we.cell? ⟨DE, 0, none⟩ = some (vi jt) := by rw [← hW, ← hDE]; simp [go_sem]
                      have he1 : we.cell? ⟨DE, 1, none⟩ = some (.bool true) := by rw [← hW, ← hDE]; simp [go_sem]
                      have HXE := Lib.hid hxe
                      have ge0 := ext_cell hxe hd0
                      have ge1 := ext_cell hxe hd1
                      have ge2 := ext_cell hxe hd2
                      have ke0 := ext_cell hxe kd0
                      have ke1 := ext_cell hxe kd1
                      have ke2 := ext_cell hxe kd2
                      have pe0 := ext_cell hxe dp0
                      have pe1 := ext_cell hxe dp1
                      have pe2 := ext_cell hxe dp2
                      have se0 := ext_cell hxe ds0
                      have ze0 := cell_lt he0
                      have ze1 := cell_lt ge0
                      have ze2 := cell_lt ke0
                      have ze3 := cell_lt pe0
                      have ze4 := cell_lt se0
                      clear hW hDE hxe
                      (refine wp_region_ext (by kernel_rfl) (by kernel_rfl) ?_; (repeat (first | go_big_quiet_step (fail) | quiet_step (fail))); refine wpQuiet_nil ?_; intro _ hw'; obtain ⟨oq, nq, hw''⟩ := hw'; subst hw'')
                      go_wp2
                      go_roundw
                      case rel => first | exact ⟨nn + 1, by omega, by go_num, congrArg Value.bool (by rw [HST.out, HW.out]; simp), HXE.out.trans (by simp (maxDischargeDepth := 60))⟩ | (repeat apply Exists.intro; refine ⟨?_, rfl⟩; exact ⟨nn + 1, by omega, by go_num, congrArg Value.bool (by rw [HST.out, HW.out]; simp), HXE.out.trans (by simp (maxDischargeDepth := 60))⟩)
                      case measure => simp [intOf]; omega


                  · have hnm : nn = js.length := by have := HKC.out.len; omega
                    have HST2 : Hid (rfreeTo js ((j : Int) + 1) h1 0 F l (kk + 1) = rfreeJ js ((j : Int) + 1) h1 ⟨t, ⟨ci, ⟨cx, cy, cz⟩⟩, ⟨(j : Int) + 1, h1, 0⟩⟩ (FK && false) js.length) := by unfold Hid; rw [rfreeTo_step HSS.out, HG.out, HFK.out]; rfl
                    subst hnm
                    go_wp2
                    go_roundw
                    case rel => first | exact ⟨kk + 1, by omega, by go_num, congrArg Value.bool HST2.out.symm, HXD.out.trans (by simp (maxDischargeDepth := 60))⟩ | (repeat apply Exists.intro; refine ⟨?_, rfl⟩; exact ⟨kk + 1, by omega, by go_num, congrArg Value.bool HST2.out.symm, HXD.out.trans (by simp (maxDischargeDepth := 60))⟩)
                    case measure => simp [intOf]; omega

              · have HG : Hid (pcond ((j : Int) + 1) h1 1 ⟨t, ⟨ci, ⟨cx, cy, cz⟩⟩, ⟨(j : Int) + 1, h1, 0⟩⟩ = true) := by unfold Hid pcond; simp
                go_upto_region 10 with fail
                generalize hW : World.alloc _ _ = wd
                generalize hDD : wc.heap.size + o'.size = DD
                have hxd : Ext wc wd := by rw [← hW]; exact (by simp (maxDischargeDepth := 60))
                have hd0 : wd.cell? ⟨DD, 0, none⟩ = some (vi ((j : Int) + 1)) := by rw [← hW, ← hDD]; simp [go_sem]
                have hd1 : wd.cell? ⟨DD, 1, none⟩ = some (vi (h1)) := by rw [← hW, ← hDD]; simp [go_sem]
                have hd2 : wd.cell? ⟨DD, 2, none⟩ = some (vi (0)) := by rw [← hW, ← hDD]; simp [go_sem]
                have HXD := Lib.hid hxd
                have kd0 := ext_cell hxd kc0
                have kd1 := ext_cell hxd kc1
                have kd2 := ext_cell hxd kc2
                have dp0 := ext_cell hxd dx.1
                have dp1 := ext_cell hxd dx.2.1
                have dp2 := ext_cell hxd dx.2.2
                have ds0 := ext_cell hxd dst.1
                have zd0 := cell_lt hd0
                have zd1 := cell_lt kd0
                have zd2 := cell_lt dp0
                have zd3 := cell_lt ds0
                clear hW hDD hxd
                (refine wp_region_ext (by kernel_rfl) (by kernel_rfl) ?_; (repeat (first | go_big_quiet_step (fail) | quiet_step (fail))); refine wpQuiet_nil ?_; intro _ hw'; obtain ⟨oq, nq, hw''⟩ := hw'; subst hw'')
                go_wp2
                go_loopw [10, 13] (fun fv i wj => ∃ nn : Nat, nn ≤ m2 ∧ i = .int .i64 nn ∧ fv = .bool (rfreeJ js ((j : Int) + 1) h1 ⟨t, ⟨ci, ⟨cx, cy, cz⟩⟩, ⟨(j : Int) + 1, h1, 0⟩⟩ (FK && false) nn) ∧ Ext wd wj) (fun _ i _ => m2 - (intOf i).toNat)
                case atStart => exact ⟨0, by omega, rfl, congrArg Value.bool (by simp [rfreeJ]), (by simp (maxDischargeDepth := 60))⟩
                case round =>
                  obtain ⟨nn, hnn, rfl, rfl, o2, m2', rfl⟩ := hrel
                  by_cases hln : nn < m2
                  · obtain ⟨jb, jq, jj, rfl, hjj, dj⟩ := HKC.out.get hln
                    have dj := at2 dj
                    obtain ⟨jt, jf⟩ := jj
                    dsimp only at dj
                    have dj0 := ext_cell HXD.out dj.1
                    have dj1 := ext_cell HXD.out dj.2
                    have zj := cell_lt dj0
                    have HST := Lib.hid (rfreeJ_step (a := (j : Int) + 1) (b := h1) (s := ⟨t, ⟨ci, ⟨cx, cy, cz⟩⟩, ⟨(j : Int) + 1, h1, 0⟩⟩) (f := (FK && false)) hjj)
                    have hnj : (nn : Int) < (m2 : Int) := by omega
                    clear hjj dj
                    cases jf
                    · cases e5 : (jt == t)
                      · have HW : Hid (wjob ((j : Int) + 1) h1 ⟨t, ⟨ci, ⟨cx, cy, cz⟩⟩, ⟨(j : Int) + 1, h1, 0⟩⟩ ⟨jt, false⟩ = false) := by unfold Hid wjob; dsimp only; rw [e5]; rfl
                        go_upto_region 16 with fail
                        generalize hW : World.alloc _ _ = we
                        generalize hDE : wd.heap.size + o2.size = DE
                        have hxe : Ext wd we := by rw [← hW]; exact (by simp (maxDischargeDepth := 60))
                        have he0 : we.cell? ⟨DE, 0, none⟩ = some (vi jt) := by rw [← hW, ← hDE]; simp [go_sem]
                        have he1 : we.cell? ⟨DE, 1, none⟩ = some (.bool false) := by rw [← hW, ← hDE]; simp [go_sem]
                        have HXE := Lib.hid hxe
                        have ge0 := ext_cell hxe hd0
                        have ge1 := ext_cell hxe hd1
                        have ge2 := ext_cell hxe hd2
                        have ke0 := ext_cell hxe kd0
                        have ke1 := ext_cell hxe kd1
                        have ke2 := ext_cell hxe kd2
                        have pe0 := ext_cell hxe dp0
                        have pe1 := ext_cell hxe dp1
                        have pe2 := ext_cell hxe dp2
                        have se0 := ext_cell hxe ds0
                        have ze0 := cell_lt he0
                        have ze1 := cell_lt ge0
                        have ze2 := cell_lt ke0
                        have ze3 := cell_lt pe0
                        have ze4 := cell_lt se0
                        clear hW hDE hxe
                        (refine wp_region_ext (by kernel_rfl) (by kernel_rfl) ?_; (repeat (first | go_big_quiet_step (fail) | quiet_step (fail))); refine wpQuiet_nil ?_; intro _ hw'; obtain ⟨oq, nq, hw''⟩ := hw'; subst hw'')
                        go_wp2
                        go_roundw
                        case rel => first | exact ⟨nn + 1, by omega, by go_num, congrArg Value.bool (by rw [HST.out, HW.out]; simp), HXE.out.trans (by simp (maxDischargeDepth := 60))⟩ | (repeat apply Exists.intro; refine ⟨?_, rfl⟩; exact ⟨nn + 1, by omega, by go_num, congrArg Value.bool (by rw [HST.out, HW.out]; simp), HXE.out.trans (by simp (maxDischargeDepth := 60))⟩)
                        case measure => simp [intOf]; omega

                      · obtain rfl : t = jt := by have := e5; simp at this; exact this.symm
                        clear e5
                        have HW : Hid (wjob ((j : Int) + 1) h1 ⟨t, ⟨ci, ⟨cx, cy, cz⟩⟩, ⟨(j : Int) + 1, h1, 0⟩⟩ ⟨t, false⟩ = false) := by unfold Hid wjob; simp
                        go_upto_region 16 with fail
                        generalize hW : World.alloc _ _ = we
                        generalize hDE : wd.heap.size + o2.size = DE
                        have hxe : Ext wd we := by rw [← hW]; exact (by simp (maxDischargeDepth := 60))
                        have he0 : we.cell? ⟨DE, 0, none⟩ = some (vi t) := by rw [← hW, ← hDE]; simp [go_sem]
                        have he1 : we.cell? ⟨DE, 1, none⟩ = some (.bool false) := by rw [← hW, ← hDE]; simp [go_sem]
                        have HXE := Lib.hid hxe
                        have ge0 := ext_cell hxe hd0
                        have ge1 := ext_cell hxe hd1
                        have ge2 := ext_cell hxe hd2
                        have ke0 := ext_cell hxe kd0
                        have ke1 := ext_cell hxe kd1
                        have ke2 := ext_cell hxe kd2
                        have pe0 := ext_cell hxe dp0
                        have pe1 := ext_cell hxe dp1
                        have pe2 := ext_cell hxe dp2
                        have se0 := ext_cell hxe ds0
                        have ze0 := cell_lt he0
                        have ze1 := cell_lt ge0
                        have ze2 := cell_lt ke0
                        have ze3 := cell_lt pe0
                        have ze4 := cell_lt se0
                        clear hW hDE hxe
                        (refine wp_region_ext (by kernel_rfl) (by kernel_rfl) ?_; (repeat (first | go_big_quiet_step (fail) | quiet_step (fail))); refine wpQuiet_nil ?_; intro _ hw'; obtain ⟨oq, nq, hw''⟩ := hw'; subst hw'')
                        go_wp2
                        go_roundw
                        case rel => first | exact ⟨nn + 1, by omega, by go_num, congrArg Value.bool (by rw [HST.out, HW.out]; simp), HXE.out.trans (by simp (maxDischargeDepth := 60))⟩ | (repeat apply Exists.intro; refine ⟨?_, rfl⟩; exact ⟨nn + 1, by omega, by go_num, congrArg Value.bool (by rw [HST.out, HW.out]; simp), HXE.out.trans (by simp (maxDischargeDepth := 60))⟩)
                        case measure => simp [intOf]; omega

                    · have HW : Hid (wjob ((j : Int) + 1) h1 ⟨t, ⟨ci, ⟨cx, cy, cz⟩⟩, ⟨(j : Int) + 1, h1, 0⟩⟩ ⟨jt, true⟩ = false) := by unfold Hid wjob; rfl
                      go_upto_region 16 with fail
                      generalize hW : World.alloc _ _ = we
                      generalize hDE : wd.heap.size + o2.size = DE
                      have hxe : Ext wd we := by rw [← hW]; exact (by simp (maxDischargeDepth := 60))
                      have he0 : we.cell? ⟨DE, 0, none⟩ = some (vi jt) := by rw [← hW, ← hDE]; simp [go_sem]
                      have he1 : we.cell? ⟨DE, 1, none⟩ = some (.bool true) := by rw [← hW, ← hDE]; simp [go_sem]
                      have HXE := Lib.hid hxe
                      have ge0 := ext_cell hxe hd0
                      have ge1 := ext_cell hxe hd1
                      have ge2 := ext_cell hxe hd2
                      have ke0 := ext_cell hxe kd0
                      have ke1 := ext_cell hxe kd1
                      have ke2 := ext_cell hxe kd2
                      have pe0 := ext_cell hxe dp0
                      have pe1 := ext_cell hxe dp1
                      have pe2 := ext_cell hxe dp2
                      have se0 := ext_cell hxe ds0
                      have ze0 := cell_lt he0
                      have ze1 := cell_lt ge0
                      have ze2 := cell_lt ke0
                      have ze3 := cell_lt pe0
                      have ze4 := cell_lt se0
                      clear hW hDE hxe
                      (refine wp_region_ext (by kernel_rfl) (by kernel_rfl) ?_; (repeat (first | go_big_quiet_step (fail) | quiet_step (fail))); refine wpQuiet_nil ?_; intro _ hw'; obtain ⟨oq, nq, hw''⟩ := hw'; subst hw'')
                      go_wp2
                      go_roundw
                      case rel => first | exact ⟨nn + 1, by omega, by go_num, congrArg Value.bool (by rw [HST.out, HW.out]; simp), HXE.out.trans (by simp (maxDischargeDepth := 60))⟩ | (repeat apply Exists.intro; refine ⟨?_, rfl⟩; exact ⟨nn + 1, by omega, by go_num, congrArg Value.bool (by rw [HST.out, HW.out]; simp), HXE.out.trans (by simp (maxDischargeDepth := 60))⟩)
                      case measure => simp [intOf]; omega


                  · have hnm : nn = js.length := by have := HKC.out.len; omega
                    have HST2 : Hid (rfreeTo js ((j : Int) + 1) h1 1 F l (kk + 1) = rfreeJ js ((j : Int) + 1) h1 ⟨t, ⟨ci, ⟨cx, cy, cz⟩⟩, ⟨(j : Int) + 1, h1, 0⟩⟩ (FK && false) js.length) := by unfold Hid; rw [rfreeTo_step HSS.out, HG.out, HFK.out]; rfl
                    subst hnm
                    go_wp2
                    go_roundw
                    case rel => first | exact ⟨kk + 1, by omega, by go_num, congrArg Value.bool HST2.out.symm, HXD.out.trans (by simp (maxDischargeDepth := 60))⟩ | (repeat apply Exists.intro; refine ⟨?_, rfl⟩; exact ⟨kk + 1, by omega, by go_num, congrArg Value.bool HST2.out.symm, HXD.out.trans (by simp (maxDischargeDepth := 60))⟩)
                    case measure => simp [intOf]; omega

              · have HG : Hid (pcond ((j : Int) + 1) h1 0 ⟨t, ⟨ci, ⟨cx, cy, cz⟩⟩, ⟨(j : Int) + 1, h1, 1⟩⟩ = false) := by unfold Hid pcond; simp
                go_upto_region 10 with fail
                generalize hW : World.alloc _ _ = wd
                generalize hDD : wc.heap.size + o'.size = DD
                have hxd : Ext wc wd := by rw [← hW]; exact (by simp (maxDischargeDepth := 60))
                have hd0 : wd.cell? ⟨DD, 0, none⟩ = some (vi ((j : Int) + 1)) := by rw [← hW, ← hDD]; simp [go_sem]
                have hd1 : wd.cell? ⟨DD, 1, none⟩ = some (vi (h1)) := by rw [← hW, ← hDD]; simp [go_sem]
                have hd2 : wd.cell? ⟨DD, 2, none⟩ = some (vi (1)) := by rw [← hW, ← hDD]; simp [go_sem]
                have HXD := Lib.hid hxd
                have kd0 := ext_cell hxd kc0
                have kd1 := ext_cell hxd kc1
                have kd2 := ext_cell hxd kc2
                have dp0 := ext_cell hxd dx.1
                have dp1 := ext_cell hxd dx.2.1
                have dp2 := ext_cell hxd dx.2.2
                have ds0 := ext_cell hxd dst.1
                have zd0 := cell_lt hd0
                have zd1 := cell_lt kd0
                have zd2 := cell_lt dp0
                have zd3 := cell_lt ds0
                clear hW hDD hxd
                (refine wp_region_ext (by kernel_rfl) (by kernel_rfl) ?_; (repeat (first | go_big_quiet_step (fail) | quiet_step (fail))); refine wpQuiet_nil ?_; intro _ hw'; obtain ⟨oq, nq, hw''⟩ := hw'; subst hw'')
                go_wp2
                go_loopw [10, 13] (fun fv i wj => ∃ nn : Nat, nn ≤ m2 ∧ i = .int .i64 nn ∧ fv = .bool (rfreeJ js ((j : Int) + 1) h1 ⟨t, ⟨ci, ⟨cx, cy, cz⟩⟩, ⟨(j : Int) + 1, h1, 1⟩⟩ (FK && true) nn) ∧ Ext wd wj) (fun _ i _ => m2 - (intOf i).toNat)
                case atStart => exact ⟨0, by omega, rfl, congrArg Value.bool (by simp [rfreeJ]), (by simp (maxDischargeDepth := 60))⟩
                case round =>
                  obtain ⟨nn, hnn, rfl, rfl, o2, m2', rfl⟩ := hrel
                  by_cases hln : nn < m2
                  · obtain ⟨jb, jq, jj, rfl, hjj, dj⟩ := HKC.out.get hln
                    have dj := at2 dj
                    obtain ⟨jt, jf⟩ := jj
                    dsimp only at dj
                    have dj0 := ext_cell HXD.out dj.1
                    have dj1 := ext_cell HXD.out dj.2
                    have zj := cell_lt dj0
                    have HST := Lib.hid (rfreeJ_step (a := (j : Int) + 1) (b := h1) (s := ⟨t, ⟨ci, ⟨cx, cy, cz⟩⟩, ⟨(j : Int) + 1, h1, 1⟩⟩) (f := (FK && true)) hjj)
                    have hnj : (nn : Int) < (m2 : Int) := by omega
                    clear hjj dj
                    cases jf
                    · cases e5 : (jt == t)
                      · have HW : Hid (wjob ((j : Int) + 1) h1 ⟨t, ⟨ci, ⟨cx, cy, cz⟩⟩, ⟨(j : Int) + 1, h1, 1⟩⟩ ⟨jt, false⟩ = false) := by unfold Hid wjob; dsimp only; rw [e5]; rfl
                        go_upto_region 16 with fail
                        generalize hW : World.alloc _ _ = we
                        generalize hDE : wd.heap.size + o2.size = DE
                        have hxe : Ext wd we := by rw [← hW]; exact (by simp (maxDischargeDepth := 60))
                        have he0 : we.cell? ⟨DE, 0, none⟩ = some (vi jt) := by rw [← hW, ← hDE]; simp [go_sem]
                        have he1 : we.cell? ⟨DE, 1, none⟩ = some (.bool false) := by rw [← hW, ← hDE]; simp [go_sem]
                        have HXE := Lib.hid hxe
                        have ge0 := ext_cell hxe hd0
                        have ge1 := ext_cell hxe hd1
                        have ge2 := ext_cell hxe hd2
                        have ke0 := ext_cell hxe kd0
                        have ke1 := ext_cell hxe kd1
                        have ke2 := ext_cell hxe kd2
                        have pe0 := ext_cell hxe dp0
                        have pe1 := ext_cell hxe dp1
                        have pe2 := ext_cell hxe dp2
                        have se0 := ext_cell hxe ds0
                        have ze0 := cell_lt he0
                        have ze1 := cell_lt ge0
                        have ze2 := cell_lt ke0
                        have ze3 := cell_lt pe0
                        have ze4 := cell_lt se0
                        clear hW hDE hxe
                        (refine wp_region_ext (by kernel_rfl) (by kernel_rfl) ?_; (repeat (first | go_big_quiet_step (fail) | quiet_step (fail))); refine wpQuiet_nil ?_; intro _ hw'; obtain ⟨oq, nq, hw''⟩ := hw'; subst hw'')
                        go_wp2
                        go_roundw
                        case rel => first | exact ⟨nn + 1, by omega, by go_num, congrArg Value.bool (by rw [HST.out, HW.out]; simp), HXE.out.trans (by simp (maxDischargeDepth := 60))⟩ | (repeat apply Exists.intro; refine ⟨?_, rfl⟩; exact ⟨nn + 1, by omega, by go_num, congrArg Value.bool (by rw [HST.out, HW.out]; simp), HXE.out.trans (by simp (maxDischargeDepth := 60))⟩)
                        case measure => simp [intOf]; omega

                      · obtain rfl : t = jt := by have := e5; simp at this; exact this.symm
                        clear e5
                        have HW : Hid (wjob ((j : Int) + 1) h1 ⟨t, ⟨ci, ⟨cx, cy, cz⟩⟩, ⟨(j : Int) + 1, h1, 1⟩⟩ ⟨t, false⟩ = true) := by unfold Hid wjob; simp
                        go_upto_region 16 with fail
                        generalize hW : World.alloc _ _ = we
                        generalize hDE : wd.heap.size + o2.size = DE
                        have hxe : Ext wd we := by rw [← hW]; exact (by simp (maxDischargeDepth := 60))
                        have he0 : we.cell? ⟨DE, 0, none⟩ = some (vi t) := by rw [← hW, ← hDE]; simp [go_sem]
                        have he1 : we.cell? ⟨DE, 1, none⟩ = some (.bool false) := by rw [← hW, ← hDE]; simp [go_sem]
                        have HXE := Lib.hid hxe
                        have ge0 := ext_cell hxe hd0
                        have ge1 := ext_cell hxe hd1
                        have ge2 := ext_cell hxe hd2
                        have ke0 := ext_cell hxe kd0
                        have ke1 := ext_cell hxe kd1
                        have ke2 := ext_cell hxe kd2
                        have pe0 := ext_cell hxe dp0
                        have pe1 := ext_cell hxe dp1
                        have pe2 := ext_cell hxe dp2
                        have se0 := ext_cell hxe ds0
                        have ze0 := cell_lt he0
                        have ze1 := cell_lt ge0
                        have ze2 := cell_lt ke0
                        have ze3 := cell_lt pe0
                        have ze4 := cell_lt se0
                        clear hW hDE hxe
                        (refine wp_region_ext (by kernel_rfl) (by kernel_rfl) ?_; (repeat (first | go_big_quiet_step (fail) | quiet_step (fail))); refine wpQuiet_nil ?_; intro _ hw'; obtain ⟨oq, nq, hw''⟩ := hw'; subst hw'')
                        go_wp2
                        go_roundw
                        case rel => first | exact ⟨nn + 1, by omega, by go_num, congrArg Value.bool (by rw [HST.out, HW.out]; simp), HXE.out.trans (by simp (maxDischargeDepth := 60))⟩ | (repeat apply Exists.intro; refine ⟨?_, rfl⟩; exact ⟨nn + 1, by omega, by go_num, congrArg Value.bool (by rw [HST.out, HW.out]; simp), HXE.out.trans (by simp (maxDischargeDepth := 60))⟩)
                        case measure => simp [intOf]; omega

                    · have HW : Hid (wjob ((j : Int) + 1) h1 ⟨t, ⟨ci, ⟨cx, cy, cz⟩⟩, ⟨(j : Int) + 1, h1, 1⟩⟩ ⟨jt, true⟩ = false) := by unfold Hid wjob; rfl
                      go_upto_region 16 with fail
                      generalize hW : World.alloc _ _ = we
                      generalize hDE : wd.heap.size + o2.size = DE
                      have hxe : Ext wd we := by rw [← hW]; exact (by simp (maxDischargeDepth := 60))
                      have he0 : we.cell? ⟨DE, 0, none⟩ = some (vi jt) := by rw [← hW, ← hDE]; simp [go_sem]
                      have he1 : we.cell? ⟨DE, 1, none⟩ = some (.bool true) := by rw [← hW, ← hDE]; simp [go_sem]
                      have HXE := Lib.hid hxe
                      have ge0 := ext_cell hxe hd0
                      have ge1 := ext_cell hxe hd1
                      have ge2 := ext_cell hxe hd2
                      have ke0 := ext_cell hxe kd0
                      have ke1 := ext_cell hxe kd1
                      have ke2 := ext_cell hxe kd2
                      have pe0 := ext_cell hxe dp0
                      have pe1 := ext_cell hxe dp1
                      have pe2 := ext_cell hxe dp2
                      have se0 := ext_cell hxe ds0
                      have ze0 := cell_lt he0
                      have ze1 := cell_lt ge0
                      have ze2 := cell_lt ke0
                      have ze3 := cell_lt pe0
                      have ze4 := cell_lt se0
                      clear hW hDE hxe
                      (refine wp_region_ext (by kernel_rfl) (by kernel_rfl) ?_; (repeat (first | go_big_quiet_step (fail) | quiet_step (fail))); refine wpQuiet_nil ?_; intro _ hw'; obtain ⟨oq, nq, hw''⟩ := hw'; subst hw'')
                      go_wp2
                      go_roundw
                      case rel => first | exact ⟨nn + 1, by omega, by go_num, congrArg Value.bool (by rw [HST.out, HW.out]; simp), HXE.out.trans (by simp (maxDischargeDepth := 60))⟩ | (repeat apply Exists.intro; refine ⟨?_, rfl⟩; exact ⟨nn + 1, by omega, by go_num, congrArg Value.bool (by rw [HST.out, HW.out]; simp), HXE.out.trans (by simp (maxDischargeDepth := 60))⟩)
                      case measure => simp [intOf]; omega


                  · have hnm : nn = js.length := by have := HKC.out.len; omega
                    have HST2 : Hid (rfreeTo js ((j : Int) + 1) h1 0 F l (kk + 1) = rfreeJ js ((j : Int) + 1) h1 ⟨t, ⟨ci, ⟨cx, cy, cz⟩⟩, ⟨(j : Int) + 1, h1, 1⟩⟩ (FK && true) js.length) := by unfold Hid; rw [rfreeTo_step HSS.out, HG.out, HFK.out]; rfl
                    subst hnm
                    go_wp2
                    go_roundw
                    case rel => first | exact ⟨kk + 1, by omega, by go_num, congrArg Value.bool HST2.out.symm, HXD.out.trans (by simp (maxDischargeDepth := 60))⟩ | (repeat apply Exists.intro; refine ⟨?_, rfl⟩; exact ⟨kk + 1, by omega, by go_num, congrArg Value.bool HST2.out.symm, HXD.out.trans (by simp (maxDischargeDepth := 60))⟩)
                    case measure => simp [intOf]; omega

              · have HG : Hid (pcond ((j : Int) + 1) h1 1 ⟨t, ⟨ci, ⟨cx, cy, cz⟩⟩, ⟨(j : Int) + 1, h1, 1⟩⟩ = true) := by unfold Hid pcond; simp
                go_upto_region 10 with fail
                generalize hW : World.alloc _ _ = wd
                generalize hDD : wc.heap.size + o'.size = DD
                have hxd : Ext wc wd := by rw [← hW]; exact (by simp (maxDischargeDepth := 60))
                have hd0 : wd.cell? ⟨DD, 0, none⟩ = some (vi ((j : Int) + 1)) := by rw [← hW, ← hDD]; simp [go_sem]
                have hd1 : wd.cell? ⟨DD, 1, none⟩ = some (vi (h1)) := by rw [← hW, ← hDD]; simp [go_sem]
                have hd2 : wd.cell? ⟨DD, 2, none⟩ = some (vi (1)) := by rw [← hW, ← hDD]; simp [go_sem]
                have HXD := Lib.hid hxd
                have kd0 := ext_cell hxd kc0
                have kd1 := ext_cell hxd kc1
                have kd2 := ext_cell hxd kc2
                have dp0 := ext_cell hxd dx.1
                have dp1 := ext_cell hxd dx.2.1
                have dp2 := ext_cell hxd dx.2.2
                have ds0 := ext_cell hxd dst.1
                have zd0 := cell_lt hd0
                have zd1 := cell_lt kd0
                have zd2 := cell_lt dp0
                have zd3 := cell_lt ds0
                clear hW hDD hxd
                (refine wp_region_ext (by kernel_rfl) (by kernel_rfl) ?_; (repeat (first | go_big_quiet_step (fail) | quiet_step (fail))); refine wpQuiet_nil ?_; intro _ hw'; obtain ⟨oq, nq, hw''⟩ := hw'; subst hw'')
                go_wp2
                go_loopw [10, 13] (fun fv i wj => ∃ nn : Nat, nn ≤ m2 ∧ i = .int .i64 nn ∧ fv = .bool (rfreeJ js ((j : Int) + 1) h1 ⟨t, ⟨ci, ⟨cx, cy, cz⟩⟩, ⟨(j : Int) + 1, h1, 1⟩⟩ (FK && false) nn) ∧ Ext wd wj) (fun _ i _ => m2 - (intOf i).toNat)
                case atStart => exact ⟨0, by omega, rfl, congrArg Value.bool (by simp [rfreeJ]), (by simp (maxDischargeDepth := 60))⟩
                case round =>
                  obtain ⟨nn, hnn, rfl, rfl, o2, m2', rfl⟩ := hrel
                  by_cases hln : nn < m2
                  · obtain ⟨jb, jq, jj, rfl, hjj, dj⟩ := HKC.out.get hln
                    have dj := at2 dj
                    obtain ⟨jt, jf⟩ := jj
                    dsimp only at dj
                    have dj0 := ext_cell HXD.out dj.1
                    have dj1 := ext_cell HXD.out dj.2
                    have zj := cell_lt dj0
                    have HST := Lib.hid (rfreeJ_step (a := (j : Int) + 1) (b := h1) (s := ⟨t, ⟨ci, ⟨cx, cy, cz⟩⟩, ⟨(j : Int) + 1, h1, 1⟩⟩) (f := (FK && false)) hjj)
                    have hnj : (nn : Int) < (m2 : Int) := by omega
                    clear hjj dj
                    cases jf
                    · cases e5 : (jt == t)
                      · have HW : Hid (wjob ((j : Int) + 1) h1 ⟨t, ⟨ci, ⟨cx, cy, cz⟩⟩, ⟨(j : Int) + 1, h1, 1⟩⟩ ⟨jt, false⟩ = false) := by unfold Hid wjob; dsimp only; rw [e5]; rfl
                        go_upto_region 16 with fail
                        generalize hW : World.alloc _ _ = we
                        generalize hDE : wd.heap.size + o2.size = DE
                        have hxe : Ext wd we := by rw [← hW]; exact (by simp (maxDischargeDepth := 60))
                        have he0 : we.cell? ⟨DE, 0, none⟩ = some (vi jt) := by rw [← hW, ← hDE]; simp [go_sem]
                        have he1 : we.cell? ⟨DE, 1, none⟩ = some (.bool false) := by rw [← hW, ← hDE]; simp [go_sem]
                        have HXE := Lib.hid hxe
                        have ge0 := ext_cell hxe hd0
                        have ge1 := ext_cell hxe hd1
                        have ge2 := ext_cell hxe hd2
                        have ke0 := ext_cell hxe kd0
                        have ke1 := ext_cell hxe kd1
                        have ke2 := ext_cell hxe kd2
                        have pe0 := ext_cell hxe dp0
                        have pe1 := ext_cell hxe dp1
                        have pe2 := ext_cell hxe dp2
                        have se0 := ext_cell hxe ds0
                        have ze0 := cell_lt he0
                        have ze1 := cell_lt ge0
                        have ze2 := cell_lt ke0
                        have ze3 := cell_lt pe0
                        have ze4 := cell_lt se0
                        clear hW hDE hxe
                        (refine wp_region_ext (by kernel_rfl) (by kernel_rfl) ?_; (repeat (first | go_big_quiet_step (fail) | quiet_step (fail))); refine wpQuiet_nil ?_; intro _ hw'; obtain ⟨oq, nq, hw''⟩ := hw'; subst hw'')
                        go_wp2
                        go_roundw
                        case rel => first | exact ⟨nn + 1, by omega, by go_num, congrArg Value.bool (by rw [HST.out, HW.out]; simp), HXE.out.trans (by simp (maxDischargeDepth := 60))⟩ | (repeat apply Exists.intro; refine ⟨?_, rfl⟩; exact ⟨nn + 1, by omega, by go_num, congrArg Value.bool (by rw [HST.out, HW.out]; simp), HXE.out.trans (by simp (maxDischargeDepth := 60))⟩)
                        case measure => simp [intOf]; omega

                      · obtain rfl : t = jt := by have := e5; simp at this; exact this.symm
                        clear e5
                        have HW : Hid (wjob ((j : Int) + 1) h1 ⟨t, ⟨ci, ⟨cx, cy, cz⟩⟩, ⟨(j : Int) + 1, h1, 1⟩⟩ ⟨t, false⟩ = true) := by unfold Hid wjob; simp
                        go_upto_region 16 with fail
                        generalize hW : World.alloc _ _ = we
                        generalize hDE : wd.heap.size + o2.size = DE
                        have hxe : Ext wd we := by rw [← hW]; exact (by simp (maxDischargeDepth := 60))
                        have he0 : we.cell? ⟨DE, 0, none⟩ = some (vi t) := by rw [← hW, ← hDE]; simp [go_sem]
                        have he1 : we.cell? ⟨DE, 1, none⟩ = some (.bool false) := by rw [← hW, ← hDE]; simp [go_sem]
                        have HXE := Lib.hid hxe
                        have ge0 := ext_cell hxe hd0
                        have ge1 := ext_cell hxe hd1
                        have ge2 := ext_cell hxe hd2
                        have ke0 := ext_cell hxe kd0
                        have ke1 := ext_cell hxe kd1
                        have ke2 := ext_cell hxe kd2
                        have pe0 := ext_cell hxe dp0
                        have pe1 := ext_cell hxe dp1
                        have pe2 := ext_cell hxe dp2
                        have se0 := ext_cell hxe ds0
                        have ze0 := cell_lt he0
                        have ze1 := cell_lt ge0
                        have ze2 := cell_lt ke0
                        have ze3 := cell_lt pe0
                        have ze4 := cell_lt se0
                        clear hW hDE hxe
                        (refine wp_region_ext (by kernel_rfl) (by kernel_rfl) ?_; (repeat (first | go_big_quiet_step (fail) | quiet_step (fail))); refine wpQuiet_nil ?_; intro _ hw'; obtain ⟨oq, nq, hw''⟩ := hw'; subst hw'')
                        go_wp2
                        go_roundw
                        case rel => first | exact ⟨nn + 1, by omega, by go_num, congrArg Value.bool (by rw [HST.out, HW.out]; simp), HXE.out.trans (by simp (maxDischargeDepth := 60))⟩ | (repeat apply Exists.intro; refine ⟨?_, rfl⟩; exact ⟨nn + 1, by omega, by go_num, congrArg Value.bool (by rw [HST.out, HW.out]; simp), HXE.out.trans (by simp (maxDischargeDepth := 60))⟩)
                        case measure => simp [intOf]; omega

                    · have HW : Hid (wjob ((j : Int) + 1) h1 ⟨t, ⟨ci, ⟨cx, cy, cz⟩⟩, ⟨(j : Int) + 1, h1, 1⟩⟩ ⟨jt, true⟩ = false) := by unfold Hid wjob; rfl
                      go_upto_region 16 with fail
                      generalize hW : World.alloc _ _ = we
                      generalize hDE : wd.heap.size + o2.size = DE
                      have hxe : Ext wd we := by rw [← hW]; exact (by simp (maxDischargeDepth := 60))
                      have he0 : we.cell? ⟨DE, 0, none⟩ = some (vi jt) := by rw [← hW, ← hDE]; simp [go_sem]
                      have he1 : we.cell? ⟨DE, 1, none⟩ = some (.bool true) := by rw [← hW, ← hDE]; simp [go_sem]
                      have HXE := Lib.hid hxe
                      have ge0 := ext_cell hxe hd0
                      have ge1 := ext_cell hxe hd1
                      have ge2 := ext_cell hxe hd2
                      have ke0 := ext_cell hxe kd0
                      have ke1 := ext_cell hxe kd1
                      have ke2 := ext_cell hxe kd2
                      have pe0 := ext_cell hxe dp0
                      have pe1 := ext_cell hxe dp1
                      have pe2 := ext_cell hxe dp2
                      have se0 := ext_cell hxe ds0
                      have ze0 := cell_lt he0
                      have ze1 := cell_lt ge0
                      have ze2 := cell_lt ke0
                      have ze3 := cell_lt pe0
                      have ze4 := cell_lt se0
                      clear hW hDE hxe
                      (refine wp_region_ext (by kernel_rfl) (by kernel_rfl) ?_; (repeat (first | go_big_quiet_step (fail) | quiet_step (fail))); refine wpQuiet_nil ?_; intro _ hw'; obtain ⟨oq, nq, hw''⟩ := hw'; subst hw'')
                      go_wp2
                      go_roundw
                      case rel => first | exact ⟨nn + 1, by omega, by go_num, congrArg Value.bool (by rw [HST.out, HW.out]; simp), HXE.out.trans (by simp (maxDischargeDepth := 60))⟩ | (repeat apply Exists.intro; refine ⟨?_, rfl⟩; exact ⟨nn + 1, by omega, by go_num, congrArg Value.bool (by rw [HST.out, HW.out]; simp), HXE.out.trans (by simp (maxDischargeDepth := 60))⟩)
                      case measure => simp [intOf]; omega


                  · have hnm : nn = js.length := by have := HKC.out.len; omega
                    have HST2 : Hid (rfreeTo js ((j : Int) + 1) h1 1 F l (kk + 1) = rfreeJ js ((j : Int) + 1) h1 ⟨t, ⟨ci, ⟨cx, cy, cz⟩⟩, ⟨(j : Int) + 1, h1, 1⟩⟩ (FK && false) js.length) := by unfold Hid; rw [rfreeTo_step HSS.out, HG.out, HFK.out]; rfl
                    subst hnm
                    go_wp2
                    go_roundw
                    case rel => first | exact ⟨kk + 1, by omega, by go_num, congrArg Value.bool HST2.out.symm, HXD.out.trans (by simp (maxDischargeDepth := 60))⟩ | (repeat apply Exists.intro; refine ⟨?_, rfl⟩; exact ⟨kk + 1, by omega, by go_num, congrArg Value.bool HST2.out.symm, HXD.out.trans (by simp (maxDischargeDepth := 60))⟩)
                    case measure => simp [intOf]; omega
        · have hkm : kk = l.length := by have := HSC.out.len; omega
          subst hkm
          cases hv : doP l js ls ⟨lo, hi, he⟩ ⟨(j : Int) + 1, v, z⟩
          · have hv3 : rfreeTo js ((j : Int) + 1) v z F l l.length = false := by rw [HD.out]; exact hv
            have HV := Lib.hid hv
            rw [hv3]
            clear hv hv3
            go_wp2
            go_roundw
            case rel => first | exact ⟨k + 1, by omega, by go_num, by unfold Hid; rw [HT.out]; exact find_no HXX.out HV.out, (by simp (maxDischargeDepth := 60))⟩ | (repeat apply Exists.intro; refine ⟨?_, rfl⟩; exact ⟨k + 1, by omega, by go_num, by unfold Hid; rw [HT.out]; exact find_no HXX.out HV.out, (by simp (maxDischargeDepth := 60))⟩)
            case measure => simp [intOf]; omega
          · have hv3 : rfreeTo js ((j : Int) + 1) v z F l l.length = true := by rw [HD.out]; exact hv
            have HR : Hid (Ch.pick ⟨last, l, js⟩ ls ⟨id, ⟨lo, hi, he⟩⟩ = some ⟨(j : Int) + 1, v, z⟩) := by unfold Hid; rw [HPK.out, HT.out, find_yes HXX.out hv]
            rw [hv3]
            clear hv hv3
            go_upto_region 19 with fail
            generalize hZ : World.plus _ _ _ = wz
            have hxz : Ext wc wz := by rw [← hZ]; exact (by simp (maxDischargeDepth := 60))
            clear hZ
            have y0 := xfree hxz zc3 (FZ.out 0)
            have y1 := xfree hxz zc3 (FZ.out 1)
            have y2 := xfree hxz zc3 (FZ.out 2)
            have t0 := ext_cell hxz tc0
            have t1 := ext_cell hxz tc1
            have t2 := ext_cell hxz tc2
            have x0 := ext_cell hxz dx.1
            have x1 := ext_cell hxz dx.2.1
            have x2 := ext_cell hxz dx.2.2
            have HXZ := Lib.hid (HXC.out.trans hxz)
            clear hxz tc0 tc1 tc2 dx kc0 kc1 kc2 qc1 qc2 qc3
            go_wp2
            obtain ⟨p0, p1, p2, px⟩ := put3 (w := w) (x := vi ((j : Int) + 1)) (y := vi v) (z := vi z) HXZ.out (show w.heap.size ≤ w.heap.size + 1 + 1 by omega) t0 t1 t2
            exact bodyPost_ret (v := .tuple #[.agg #[vi ((j : Int) + 1), vi v, vi z], .bool true]) (by simp [results, Try.results67, go_sem, p0, p1, p2]) rfl ⟨by rw [HR.out]; rfl, px⟩
    · have hkq : k = pn := by omega
      subst hkq
      go_upto_region 20 with fail
      generalize hZ : World.plus _ _ _ = wz
      have hxz : Ext wc wz := by rw [← hZ]; exact (by simp (maxDischargeDepth := 60))
      clear hZ
      have y0 := xfree hxz zc3 (FZ.out 0)
      have y1 := xfree hxz zc3 (FZ.out 1)
      have y2 := xfree hxz zc3 (FZ.out 2)
      have t0 := ext_cell hxz tc0
      have t1 := ext_cell hxz tc1
      have t2 := ext_cell hxz tc2
      have HXZ := Lib.hid (HXC.out.trans hxz)
      clear hxz tc0 tc1 tc2 kc0 kc1 kc2 qc1 qc2 qc3
      go_wp2
      obtain ⟨p0, p1, p2, px⟩ := put3 (w := w) (x := vi 0) (y := vi 0) (z := vi 0) HXZ.out (show w.heap.size ≤ w.heap.size + 1 + 1 by omega) t0 t1 t2
      refine bodyPost_ret (v := .tuple #[.agg #[vi 0, vi 0, vi 0], .bool false]) (by simp [results, Try.results67, go_sem, p0, p1, p2]) rfl ⟨?_, px⟩
      rw [HPK.out, HT.out, List.drop_of_length_le (by have := HPN.out; omega)]; rfl
end Go.Proofs.Ytplomeacjbkgnaa
