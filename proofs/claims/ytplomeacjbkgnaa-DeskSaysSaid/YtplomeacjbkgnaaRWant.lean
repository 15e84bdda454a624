/-
  The walk of the reference's Wanted. (Laid by wip/mk_rwant.py.)
-/
import Derived.Test.YtplomeacjbkgnaaRFault
import Derived.Test.YtplomeacjbkgnaaAppend
import Derived.Test.YtplomeacjbkgnaaCopy
import Derived.Deep.RegionHeld3
namespace Go.Proofs.Ytplomeacjbkgnaa
open Go.RowKit

theorem put3r {w a : World} {R : Nat} {x y z x' y' z' : Value} (hx : Ext w a) (hR : w.heap.size ≤ R) (c0 : a.cell? ⟨R, 0, none⟩ = some x') (c1 : a.cell? ⟨R, 1, none⟩ = some y') (c2 : a.cell? ⟨R, 2, none⟩ = some z') :
    (((a.setCell ⟨R, 0, none⟩ x).setCell ⟨R, 1, none⟩ y).setCell ⟨R, 2, none⟩ z).cell? ⟨R, 0, none⟩ = some x ∧ (((a.setCell ⟨R, 0, none⟩ x).setCell ⟨R, 1, none⟩ y).setCell ⟨R, 2, none⟩ z).cell? ⟨R, 1, none⟩ = some y ∧
    (((a.setCell ⟨R, 0, none⟩ x).setCell ⟨R, 1, none⟩ y).setCell ⟨R, 2, none⟩ z).cell? ⟨R, 2, none⟩ = some z ∧ Ext w (((a.setCell ⟨R, 0, none⟩ x).setCell ⟨R, 1, none⟩ y).setCell ⟨R, 2, none⟩ z) := by
  have n01 : (⟨R, 0, none⟩ : Addr) ≠ ⟨R, 1, none⟩ := by intro e; cases e
  have n02 : (⟨R, 0, none⟩ : Addr) ≠ ⟨R, 2, none⟩ := by intro e; cases e
  have n12 : (⟨R, 1, none⟩ : Addr) ≠ ⟨R, 2, none⟩ := by intro e; cases e
  refine ⟨?_, ?_, ?_, ?_⟩
  · rw [World.cell?_setCell_other (h := n02.symm), World.cell?_setCell_other (h := n01.symm), World.cell?_setCell_same (h := c0)]
  · rw [World.cell?_setCell_other (h := n12.symm), World.cell?_setCell_same (h := (show (a.setCell ⟨R, 0, none⟩ x).cell? ⟨R, 1, none⟩ = some y' by rw [World.cell?_setCell_other (h := n01)]; exact c1))]
  · rw [World.cell?_setCell_same (h := (show ((a.setCell ⟨R, 0, none⟩ x).setCell ⟨R, 1, none⟩ y).cell? ⟨R, 2, none⟩ = some z' by rw [World.cell?_setCell_other (h := n12), World.cell?_setCell_other (h := n02)]; exact c2))]
  · exact Ext.of_below (below_kept (S := fun i => w.heap.size ≤ i) (Ext.refl w).below (Nat.le_refl _) ((((Kept.of_ext hx).setCell (Or.inl hR) _).setCell (Or.inl hR) _).setCell (Or.inl hR) _) (fun _ h => h))

/-- what comes back: an error's number, or a book whose stays are those that came in -/
def RWant (w : World) (r : Except Int Ch.Book) (a1 : Option Addr) (m1 c1 : Nat) (e : Ending) (w' : World) : Prop :=
  match r with
  | .error f => e = .returned (.tuple #[bookA 0 none 0 0 none 0 0, vi f]) ∧ Ext w w'
  | .ok x => ∃ v2, e = .returned (.tuple #[.agg #[vi x.last, .slice a1 m1 c1, v2], vi 0]) ∧ w'.ownsRow w.heap.size 94 2 v2 x.jobs.length (x.jobs.flatMap jobCells) ∧ Ext w w'

theorem grown_none {a b : World} (h : a.grownBy b (Value.ownBlock (.slice none 0 0))) : Ext a b := by
  refine Ext.of_below ⟨h.os, h.tape, h.output, h.size, fun k hk => h.block k hk (by simp [Value.ownBlock])⟩

set_option maxRecDepth 100000 in
set_option maxHeartbeats 4000000 in
theorem rwant_any (last t : Int) (a1 : Option Addr) (m1 c1 : Nat) (a2 : Option Addr) (m2 c2 : Nat) (l : List Ch.Stay) (js : List Ch.Job) (w : World)
    (h : Sl w 8 stayCells l a1 m1 c1) (h2 : Sl w 2 jobCells js a2 m2 c2) (hm2 : m2 ≤ 100) :
    Calls Try.prog 72 #[bookA last a1 m1 c1 a2 m2 c2, vi t] w (RWant w (Ch.want ⟨last, l, js⟩ t) a1 m1 c1) := by
  obtain ⟨j0, hj0, hy0, hy1, hy2⟩ := info_parts infoJob
  have b1 := h.bound
  have b2 := h2.bound
  have HF := Lib.hid h
  have HJ := Lib.hid h2
  have E1 := Lib.hid h.len
  have E2 := Lib.hid h2.len
  clear h h2
  go_enter Try.func72, Try.ntmps72
  go_upto_region 1 with fail
  generalize hW : World.alloc _ _ = w0
  have k0 : w0.cell? ⟨w.heap.size, 0, none⟩ = some (vi last) := by rw [← hW]; simp [go_sem]
  have k1 : w0.cell? ⟨w.heap.size, 1, none⟩ = some (.slice a1 m1 c1) := by rw [← hW]; simp [go_sem]
  have k2 : w0.cell? ⟨w.heap.size, 2, none⟩ = some (.slice a2 m2 c2) := by rw [← hW]; simp [go_sem]
  have r0 : w0.cell? ⟨w.heap.size + 1, 0, none⟩ = some (vi 0) := by rw [← hW]; simp [go_sem]
  have r1 : w0.cell? ⟨w.heap.size + 1, 1, none⟩ = some (.slice none 0 0) := by rw [← hW]; simp [go_sem]
  have r2 : w0.cell? ⟨w.heap.size + 1, 2, none⟩ = some (.slice none 0 0) := by rw [← hW]; simp [go_sem]
  have fz : ∀ i, w0.frozen? ⟨w.heap.size + 1, i, none⟩ = false := by intro i; rw [← hW]; simp [go_sem]
  have hx : Ext w w0 := by rw [← hW]; exact (by simp (maxDischargeDepth := 60))
  have HX := Lib.hid hx
  have FZ := Lib.hid fz
  have z0 := cell_lt k0
  have hR0 := cell_lt r0
  have HS := Lib.hid (Sl.below HF.out hx.below)
  have HK := Lib.hid (Sl.below HJ.out hx.below)
  clear hW hx fz
  go_wp2
  go_loopw [6, 7] (fun fv i wr => ∃ k : Nat, k ≤ m1 ∧ i = .int .i64 k ∧ fv = .bool ((l.take k).any (fun s : Ch.Stay => s.ticket == t)) ∧ Ext w0 wr) (fun _ i _ => m1 - (intOf i).toNat)
  case atStart => exact ⟨0, by omega, rfl, rfl, (by simp (maxDischargeDepth := 60))⟩
  case round =>
    obtain ⟨k, hk, rfl, rfl, o, m, rfl⟩ := hrel
    by_cases hlt : k < m1
    · obtain ⟨b, q, s, rfl, hs, ds⟩ := HS.out.get hlt
      have ds := at8 ds
      obtain ⟨xt, ⟨xi, ⟨xx, xy, xz⟩⟩, ⟨x0, x1, x2⟩⟩ := s
      dsimp only at ds
      have hq0 := cell_lt ds.1
      have HXX := Lib.hid hs
      have hkj : (k : Int) < (m1 : Int) := by omega
      generalize hFK : (l.take k).any (fun s : Ch.Stay => s.ticket == t) = FK
      have HFK := Lib.hid hFK
      clear hs hFK
      cases FK
      · cases hte : (xt == t)
        · have hst : (l.take (k + 1)).any (fun s : Ch.Stay => s.ticket == t) = false := by rw [any_takeF _ HXX.out, HFK.out]; simp [hte]
          have HST := Lib.hid hst
          clear hst
          go_wp2
          go_roundw
          case rel => first | exact ⟨k + 1, by omega, by go_num, congrArg Value.bool HST.out.symm, (by simp (maxDischargeDepth := 60))⟩ | (repeat apply Exists.intro; refine ⟨?_, rfl⟩; exact ⟨k + 1, by omega, by go_num, congrArg Value.bool HST.out.symm, (by simp (maxDischargeDepth := 60))⟩)
          case measure => simp [intOf]; omega

        · have hst : (l.take (k + 1)).any (fun s : Ch.Stay => s.ticket == t) = true := by rw [any_takeF _ HXX.out, HFK.out]; simp [hte]
          have HST := Lib.hid hst
          clear hst
          go_wp2
          go_roundw
          case rel => first | exact ⟨k + 1, by omega, by go_num, congrArg Value.bool HST.out.symm, (by simp (maxDischargeDepth := 60))⟩ | (repeat apply Exists.intro; refine ⟨?_, rfl⟩; exact ⟨k + 1, by omega, by go_num, congrArg Value.bool HST.out.symm, (by simp (maxDischargeDepth := 60))⟩)
          case measure => simp [intOf]; omega

      · have hst : (l.take (k + 1)).any (fun s : Ch.Stay => s.ticket == t) = true := by rw [any_takeF _ HXX.out, HFK.out]; simp
        have HST := Lib.hid hst
        clear hst
        go_wp2
        go_roundw
        case rel => first | exact ⟨k + 1, by omega, by go_num, congrArg Value.bool HST.out.symm, (by simp (maxDischargeDepth := 60))⟩ | (repeat apply Exists.intro; refine ⟨?_, rfl⟩; exact ⟨k + 1, by omega, by go_num, congrArg Value.bool HST.out.symm, (by simp (maxDischargeDepth := 60))⟩)
        case measure => simp [intOf]; omega

    · have hall : (l.take k).any (fun s : Ch.Stay => s.ticket == t) = l.any (fun s : Ch.Stay => s.ticket == t) := by rw [List.take_of_length_le (by have := E1.out; omega)]
      rw [hall]
      clear hall
      cases hF : l.any (fun s : Ch.Stay => s.ticket == t)
      · have HW : Hid (Ch.want ⟨last, l, js⟩ t = .error 5) := by
          unfold Hid Ch.want Ch.Book.find
          rw [if_pos]
          simp only [Option.isNone_iff_eq_none, List.find?_eq_none]
          intro x hx
          have := List.any_eq_false.1 hF x hx
          simpa using this
        clear hF
        have y0 := xfree (w := w0) (w' := w0.plus o m) (by simp (maxDischargeDepth := 60)) hR0 (FZ.out 0)
        have y1 := xfree (w := w0) (w' := w0.plus o m) (by simp (maxDischargeDepth := 60)) hR0 (FZ.out 1)
        have y2 := xfree (w := w0) (w' := w0.plus o m) (by simp (maxDischargeDepth := 60)) hR0 (FZ.out 2)
        have t0 := xcell (w := w0) (w' := w0.plus o m) (by simp (maxDischargeDepth := 60)) r0
        have t1 := xcell (w := w0) (w' := w0.plus o m) (by simp (maxDischargeDepth := 60)) r1
        have t2 := xcell (w := w0) (w' := w0.plus o m) (by simp (maxDischargeDepth := 60)) r2
        go_wp2
        obtain ⟨p0, p1, p2, px⟩ := put3r (w := w) (R := w.heap.size + 1) (x := vi 0) (y := .slice none 0 0) (z := .slice none 0 0) (HX.out.trans (c := w0.plus o m) (by simp (maxDischargeDepth := 60))) (by omega) t0 t1 t2
        refine bodyPost_ret (v := .tuple #[bookA 0 none 0 0 none 0 0, vi 5]) (by simp [results, Try.results72, go_sem, p0, p1, p2]) rfl ?_
        unfold RWant
        rw [HW.out]
        exact ⟨rfl, px⟩

      · have HFD : Hid ((({ last := last, stays := l, jobs := js } : Ch.Book).find t).isNone = false) := by
          unfold Hid Ch.Book.find
          obtain ⟨x, hx, hp⟩ := List.any_eq_true.1 hF
          cases hf : l.find? (fun s => s.ticket == t) with
          | none => rw [List.find?_eq_none] at hf; exact absurd hp (hf x hx)
          | some y => rfl
        clear hF
        go_upto_region 9 with fail
        generalize hW : World.alloc _ _ = wj
        generalize hD : w0.heap.size + o.size = D
        have hxj : Ext w0 wj := by rw [← hW]; exact (by simp (maxDischargeDepth := 60))
        have d0 : wj.cell? ⟨D, 0, none⟩ = some (vi t) := by rw [← hW, ← hD]; simp [go_sem]
        have d1 : wj.cell? ⟨D, 1, none⟩ = some (.bool true) := by rw [← hW, ← hD]; simp [go_sem]
        have kj0 := xcell hxj k0
        have kj1 := xcell hxj k1
        have kj2 := xcell hxj k2
        have zj0 := cell_lt kj0
        have zd := cell_lt d0
        have zrj := cell_lt (xcell hxj r0)
        have HXJ := Lib.hid hxj
        have HKJ := Lib.hid (Sl.below HK.out hxj.below)
        have hD1 : ¬ D = w.heap.size + 1 := by omega
        have hD2 : ¬ w.heap.size + 1 = D := by omega
        clear hW hD hxj k0 k1 k2
        go_wp2
        go_loopw [9] (fun i wr => ∃ n : Nat, n ≤ m2 ∧ i = .int .i64 n ∧ Hid ((js.take n).any (fun x : Ch.Job => decide (x = ⟨t, true⟩)) = false) ∧ Ext wj wr) (fun i _ => m2 - (intOf i).toNat)
        case atStart => exact ⟨0, by omega, rfl, rfl, (by simp (maxDischargeDepth := 60))⟩
        case round =>
          obtain ⟨n, hn, rfl, HN, o', m', rfl⟩ := hrel
          by_cases hln : n < m2
          · obtain ⟨b, q, s, rfl, hs, ds⟩ := HKJ.out.get hln
            have ds := at2 ds
            obtain ⟨jt, jf⟩ := s
            dsimp only at ds
            have hq0 := cell_lt ds.1
            have HXX := Lib.hid hs
            have hnj : (n : Int) < (m2 : Int) := by omega
            clear hs
            by_cases hxe : (⟨jt, jf⟩ : Ch.Job) = ⟨t, true⟩
            · have hq : ∀ w, (Go.binOp .eql 94 (.agg #[vi jt, .bool jf]) (.agg #[vi t, .bool true])).run Try.prog w = .ok (.bool true) w := fun w => by rw [eqlStruct w (eqJob w 9998 ⟨jt, jf⟩ ⟨t, true⟩)]; simp [hxe]
              have HW : Hid (Ch.want ⟨last, l, js⟩ t = .error 6) := by
                unfold Hid Ch.want
                rw [if_neg (by rw [HFD.out]; simp), if_pos]
                rw [List.contains_iff_mem]
                rw [← hxe]; exact List.mem_of_getElem? HXX.out
              clear hxe
              go_upto_region 12 with fail
              (refine wp_region_ext (by kernel_rfl) (by kernel_rfl) ?_; (repeat (first | go_big_quiet_step (fail) | quiet_step (fail))); refine wpQuiet_nil ?_; intro _ hw'; obtain ⟨oq, nq, hw''⟩ := hw'; subst hw'')
              go_upto_region 13 with fail
              have y0 := xfree (w := w0) (w' := wj.plus (o' ++ oq) nq) (HXJ.out.trans (by simp (maxDischargeDepth := 60))) hR0 (FZ.out 0)
              have y1 := xfree (w := w0) (w' := wj.plus (o' ++ oq) nq) (HXJ.out.trans (by simp (maxDischargeDepth := 60))) hR0 (FZ.out 1)
              have y2 := xfree (w := w0) (w' := wj.plus (o' ++ oq) nq) (HXJ.out.trans (by simp (maxDischargeDepth := 60))) hR0 (FZ.out 2)
              have t0 := xcell (w := w0) (w' := wj.plus (o' ++ oq) nq) (HXJ.out.trans (by simp (maxDischargeDepth := 60))) r0
              have t1 := xcell (w := w0) (w' := wj.plus (o' ++ oq) nq) (HXJ.out.trans (by simp (maxDischargeDepth := 60))) r1
              have t2 := xcell (w := w0) (w' := wj.plus (o' ++ oq) nq) (HXJ.out.trans (by simp (maxDischargeDepth := 60))) r2
              go_wp2
              obtain ⟨p0, p1, p2, px⟩ := put3r (w := w) (R := w.heap.size + 1) (x := vi 0) (y := .slice none 0 0) (z := .slice none 0 0) (HX.out.trans (c := wj.plus (o' ++ oq) nq) (HXJ.out.trans (by simp (maxDischargeDepth := 60)))) (by omega) t0 t1 t2
              refine bodyPost_ret (v := .tuple #[bookA 0 none 0 0 none 0 0, vi 6]) (by simp [results, Try.results72, go_sem, p0, p1, p2]) rfl ?_
              unfold RWant
              rw [HW.out]
              exact ⟨rfl, px⟩

            · have hq : ∀ w, (Go.binOp .eql 94 (.agg #[vi jt, .bool jf]) (.agg #[vi t, .bool true])).run Try.prog w = .ok (.bool false) w := fun w => by rw [eqlStruct w (eqJob w 9998 ⟨jt, jf⟩ ⟨t, true⟩)]; simp [hxe]
              have HST : Hid ((js.take (n + 1)).any (fun x : Ch.Job => decide (x = ⟨t, true⟩)) = false) := by unfold Hid; rw [any_takeF _ HXX.out, HN.out, decide_eq_false hxe]; rfl
              clear hxe
              go_upto_region 12 with fail
              (refine wp_region_ext (by kernel_rfl) (by kernel_rfl) ?_; (repeat (first | go_big_quiet_step (fail) | quiet_step (fail))); refine wpQuiet_nil ?_; intro _ hw'; obtain ⟨oq, nq, hw''⟩ := hw'; subst hw'')
              go_wp2
              go_roundw
              case rel => first | exact ⟨n + 1, by omega, by go_num, HST, (by simp (maxDischargeDepth := 60))⟩ | (repeat apply Exists.intro; refine ⟨?_, rfl⟩; exact ⟨n + 1, by omega, by go_num, HST, (by simp (maxDischargeDepth := 60))⟩)
              case measure => simp [intOf]; omega

          · have hnc : Hid (js.contains ⟨t, true⟩ = false) := by
              have e := HN.out
              rw [List.take_of_length_le (by have := E2.out; omega), List.any_eq_false] at e
              unfold Hid
              rw [← Bool.not_eq_true, List.contains_iff_mem]
              intro hm
              exact e _ hm (by simp)
            by_cases h8 : m2 = 8
            · have h8i : ((m2 : Int) == 8) = true := by simp; omega
              have HW : Hid (Ch.want ⟨last, l, js⟩ t = .error 8) := by
                unfold Hid Ch.want
                rw [if_neg (by rw [HFD.out]; simp), if_neg (by rw [hnc.out]; simp), if_pos (by dsimp only; rw [E2.out]; exact h8)]
              clear h8
              have y0 := xfree (w := w0) (w' := wj.plus o' m') (HXJ.out.trans (by simp (maxDischargeDepth := 60))) hR0 (FZ.out 0)
              have y1 := xfree (w := w0) (w' := wj.plus o' m') (HXJ.out.trans (by simp (maxDischargeDepth := 60))) hR0 (FZ.out 1)
              have y2 := xfree (w := w0) (w' := wj.plus o' m') (HXJ.out.trans (by simp (maxDischargeDepth := 60))) hR0 (FZ.out 2)
              have t0 := xcell (w := w0) (w' := wj.plus o' m') (HXJ.out.trans (by simp (maxDischargeDepth := 60))) r0
              have t1 := xcell (w := w0) (w' := wj.plus o' m') (HXJ.out.trans (by simp (maxDischargeDepth := 60))) r1
              have t2 := xcell (w := w0) (w' := wj.plus o' m') (HXJ.out.trans (by simp (maxDischargeDepth := 60))) r2
              go_wp2
              obtain ⟨p0, p1, p2, px⟩ := put3r (w := w) (R := w.heap.size + 1) (x := vi 0) (y := .slice none 0 0) (z := .slice none 0 0) (HX.out.trans (c := wj.plus o' m') (HXJ.out.trans (by simp (maxDischargeDepth := 60)))) (by omega) t0 t1 t2
              refine bodyPost_ret (v := .tuple #[bookA 0 none 0 0 none 0 0, vi 8]) (by simp [results, Try.results72, go_sem, p0, p1, p2]) rfl ?_
              unfold RWant
              rw [HW.out]
              exact ⟨rfl, px⟩

            · have h8i : ((m2 : Int) == 8) = false := by simp; omega
              have HW : Hid (Ch.want ⟨last, l, js⟩ t = .ok ⟨last, l, js ++ [⟨t, true⟩]⟩) := by
                unfold Hid Ch.want
                rw [if_neg (by rw [HFD.out]; simp), if_neg (by rw [hnc.out]; simp), if_neg (by dsimp only; rw [E2.out]; exact h8)]
              clear h8
              go_upto_region 16 with fail
              generalize hW : World.plus _ _ _ = wz
              have hxz : Ext wj wz := by rw [← hW]; exact (by simp (maxDischargeDepth := 60))
              clear hW
              have kz0 := xcell hxz kj0
              have kz1 := xcell hxz kj1
              have kz2 := xcell hxz kj2
              have dz0 := xcell hxz d0
              have dz1 := xcell hxz d1
              have zz := cell_lt kz0
              have zdz := cell_lt dz0
              have y0 := xfree (w := w0) (HXJ.out.trans hxz) hR0 (FZ.out 0)
              have y1 := xfree (w := w0) (HXJ.out.trans hxz) hR0 (FZ.out 1)
              have y2 := xfree (w := w0) (HXJ.out.trans hxz) hR0 (FZ.out 2)
              have t0 := xcell (w := w0) (HXJ.out.trans hxz) r0
              have t1 := xcell (w := w0) (HXJ.out.trans hxz) r1
              have t2 := xcell (w := w0) (HXJ.out.trans hxz) r2
              have zR := cell_lt t0
              have HXZ := Lib.hid (HXJ.out.trans hxz)
              have HKZ := Lib.hid (Sl.below HKJ.out hxz.below)
              clear hxz kj0 kj1 kj2 d0 d1 zj0 zd HKJ
              have HKJ := HKZ
              clear HKZ
              go_region_held3 (fun w' => w'.cell? ⟨w.heap.size, 0, none⟩ = some (vi last) ∧ w'.cell? ⟨w.heap.size, 1, none⟩ = some (.slice a1 m1 c1) ∧ w'.cell? ⟨w.heap.size, 2, none⟩ = some (.slice a2 m2 c2) ∧ w'.cell? ⟨D, 0, none⟩ = some (vi t) ∧ w'.cell? ⟨D, 1, none⟩ = some (.bool true))
                (first | go_keep | ((try dsimp only); (repeat' apply And.intro) <;> (simp (disch := (first | assumption | (simp; done) | (simp; omega))) [plus_cell, go_sem, *]; done)))
                (first
                  | (refine step_append_all _ rfl _ _ _ rfl wz.heap.size 94 j0 _ 2 16 Try.underlying74 hj0 hy0 hy1 hy2 rfl (by decide) (.slice none 0 0) 0 [] rfl (World.ownsRow_nil _ _ _ _) (.slice a2 m2 c2) m2 (js.flatMap jobCells) rfl (SrcAt.of (Sl.below HKJ.out (Ext.below (by simp (maxDischargeDepth := 60)))) (fun _ => rfl)) (by intro u hu; obtain ⟨y, _, hy⟩ := List.mem_flatMap.1 hu; simp only [jobCells, List.mem_cons, List.not_mem_nil, or_false] at hy; rcases hy with rfl | rfl <;> rfl) (by unfold maxLen; omega) (by omega) (by first | (simp; done) | (simp; omega)) ?_; intro v1 w5 hown1 hgrow1 hat1; obtain ⟨o3, n3, rfl⟩ := grown_none hgrow1)
                  | (refine step_append_all _ rfl _ _ _ rfl wz.heap.size 94 j0 _ 2 16 Try.underlying74 hj0 hy0 hy1 hy2 rfl (by decide) v1 (0 + m2) ([] ++ js.flatMap jobCells) rfl (by first | exact hown1 | exact owns_x hown1 (by simp (maxDischargeDepth := 60))) _ 1 [vi t, .bool true] rfl ⟨rfl, Or.inr ⟨_, 1, rfl, by first | exact World.news_of_block (alloc_at _ _ _ (by simp)) | exact World.news_of_block ((plus_heap _ _ _ _ (by simp)).trans (alloc_at _ _ _ (by simp)))⟩⟩ (by simp [Value.oneCell']) (by unfold maxLen; omega) (by omega) (by first | (simp; done) | (simp; omega)) ?_; intro v2 w6 hown2 hgrow2 hat2; obtain ⟨o4, n4, rfl⟩ := ext_grown (w := wz) (by simp (maxDischargeDepth := 60)) hgrow2 (owns_block hown1); rw [Nat.zero_add, List.nil_append, show js.flatMap jobCells ++ [vi t, .bool true] = (js ++ [(⟨t, true⟩ : Ch.Job)]).flatMap jobCells by simp [jobCells]] at hown2; obtain ⟨x2, e2, rfl, sl2⟩ := Sl.of_owns (c := 2) (enc := jobCells) hown2 (by decide) (fun _ => rfl)))
              all_goals
                have hR2 := owns_block hown2
                have zx : w.heap.size ≤ wz.heap.size := by omega
                obtain ⟨p0, p1, p2, px⟩ := put3r (w := w) (a := wz.plus o4 n4) (R := w.heap.size + 1) (x := vi last) (y := .slice a1 m1 c1) (z := .slice x2 (m2 + 1) e2) ((HX.out.trans HXZ.out).trans (by simp (maxDischargeDepth := 60))) (by omega) (xcell (w := wz) (by simp (maxDischargeDepth := 60)) t0) (xcell (w := wz) (by simp (maxDischargeDepth := 60)) t1) (xcell (w := wz) (by simp (maxDischargeDepth := 60)) t2)
                go_wp2
                refine bodyPost_ret (v := .tuple #[.agg #[vi last, .slice a1 m1 c1, .slice x2 (m2 + 1) e2], vi 0]) (by simp [results, Try.results72, go_sem, p0, p1, p2]) rfl ?_
                unfold RWant
                rw [HW.out]
                refine ⟨_, rfl, ?_, px⟩
                dsimp only
                rw [show (js ++ [(⟨t, true⟩ : Ch.Job)]).length = m2 + 1 by rw [List.length_append, E2.out]; rfl]
                refine owns_base (owns_set (owns_set (owns_set hown2 _ ?_) _ ?_) _ ?_) zx <;> (intro e; have := hR2 _ e; (try dsimp only at this); omega)
end Go.Proofs.Ytplomeacjbkgnaa
