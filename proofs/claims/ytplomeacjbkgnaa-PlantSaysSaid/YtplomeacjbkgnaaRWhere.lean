/-
  The walks of Where, the reference's and the machine's. (Laid by wip/mk_where.py.)
-/
import Derived.Test.YtplomeacjbkgnaaRPlantDo
import Derived.Test.YtplomeacjbkgnaaWhereLaw
import Derived.Test.YtplomeacjbkgnaaPlantDo4
import Derived.Deep.RegionHeld3
namespace Go.Proofs.Ytplomeacjbkgnaa
open Go.RowKit

/-- where a car is, as a value -/
def whereV (o : Option Ch.Place) : Value := .tuple #[placeA (o.getD ⟨0, 0, 0⟩), .bool o.isSome]

theorem findw_next {α : Type} {P : α → Bool} {l : List α} {k : Nat} {x : α} (hx : l[k]? = some x) : (l.drop k).find? P = if P x then some x else (l.drop (k + 1)).find? P := by
  have hk : k < l.length := by
    rcases Nat.lt_or_ge k l.length with h1 | h1
    · exact h1
    · rw [List.getElem?_eq_none h1] at hx; cases hx
  rw [List.drop_eq_getElem_cons hk, List.find?_cons]
  rw [List.getElem?_eq_getElem hk] at hx
  cases hx
  cases P l[k] <;> rfl

theorem checkPlace_at (V : Value) (a b c n : Int) (w : World) (hv : Hid (errV (Ch.placeFault ⟨a, b, c⟩ n) = V)) : Calls Try.prog 37 #[.agg #[vi a, vi b, vi c], vi n] w fun e w' => e = .returned V ∧ Ext w w' := by
  have := checkPlace_f a b c n w
  rw [hv.out] at this
  exact this

/-- what is left to be looked at -/
def whereLeft (p : Ch.Plant) (id n : Int) (k : Nat) : Option Ch.Place := ((Ch.allPlaces n).drop k).find? (Ch.whereP p id)

theorem where_no {p : Ch.Plant} {id n : Int} (h4 : n ≤ 4) {a s d : Nat} (ha : 1 ≤ a) (han : (a : Int) ≤ n) (hs : s < 2) (hd : d < 2) (hw : Ch.whereP p id ⟨(a : Int), (s : Int), (d : Int)⟩ = false) :
    whereLeft p id n (4 * (a - 1) + 2 * s + d) = whereLeft p id n (4 * (a - 1) + 2 * s + (d + 1)) := by
  have h := Ch.place_nth h4 (k := a - 1) (s := s) (d := d) (by omega) hs hd
  rw [show ((a - 1 : Nat) : Int) + 1 = (a : Int) by omega] at h
  unfold whereLeft
  rw [findw_next h, hw]
  rfl

theorem where_yes {p : Ch.Plant} {id n : Int} (h4 : n ≤ 4) {a s d : Nat} (ha : 1 ≤ a) (han : (a : Int) ≤ n) (hs : s < 2) (hd : d < 2) (hw : Ch.whereP p id ⟨(a : Int), (s : Int), (d : Int)⟩ = true) :
    whereLeft p id n (4 * (a - 1) + 2 * s + d) = some ⟨(a : Int), (s : Int), (d : Int)⟩ := by
  have h := Ch.place_nth h4 (k := a - 1) (s := s) (d := d) (by omega) hs hd
  rw [show ((a - 1 : Nat) : Int) + 1 = (a : Int) by omega] at h
  unfold whereLeft
  rw [findw_next h, hw]
  rfl

theorem put3w {w a : World} {R : Nat} {x y z x' y' z' : Value} (hx : Ext w a) (hR : w.heap.size ≤ R) (c0 : a.cell? ⟨R, 0, none⟩ = some x') (c1 : a.cell? ⟨R, 1, none⟩ = some y') (c2 : a.cell? ⟨R, 2, none⟩ = some z') :
    (((a.setCell ⟨R, 0, none⟩ x).setCell ⟨R, 1, none⟩ y).setCell ⟨R, 2, none⟩ z).cell? ⟨R, 0, none⟩ = some x ∧ (((a.setCell ⟨R, 0, none⟩ x).setCell ⟨R, 1, none⟩ y).setCell ⟨R, 2, none⟩ z).cell? ⟨R, 1, none⟩ = some y ∧
    (((a.setCell ⟨R, 0, none⟩ x).setCell ⟨R, 1, none⟩ y).setCell ⟨R, 2, none⟩ z).cell? ⟨R, 2, none⟩ = some z ∧ Ext w (((a.setCell ⟨R, 0, none⟩ x).setCell ⟨R, 1, none⟩ y).setCell ⟨R, 2, none⟩ z) := by
  have n01 : (⟨R, 0, none⟩ : Addr) ≠ ⟨R, 1, none⟩ := by intro e; cases e
  have n02 : (⟨R, 0, none⟩ : Addr) ≠ ⟨R, 2, none⟩ := by intro e; cases e
  have n12 : (⟨R, 1, none⟩ : Addr) ≠ ⟨R, 2, none⟩ := by intro e; cases e
  refine ⟨?_, ?_, ?_, ?_⟩
  · rw [World.cell?_setCell_other (h := n02.symm), World.cell?_setCell_other (h := n01.symm), World.cell?_setCell_same (h := c0)]
  · rw [World.cell?_setCell_other (h := n12.symm), World.cell?_setCell_same (h := (show (a.setCell ⟨R, 0, none⟩ x).cell? ⟨R, 1, none⟩ = some y' by rw [World.cell?_setCell_other (h := n01)]; exact c1))]
  · rw [World.cell?_setCell_same (h := (show ((a.setCell ⟨R, 0, none⟩ x).setCell ⟨R, 1, none⟩ y).cell? ⟨R, 2, none⟩ = some z' by rw [World.cell?_setCell_other (h := n12), World.cell?_setCell_other (h := n02)]; exact c2))]
  · exact Ext.of_below (below_kept (S := fun i => w.heap.size ≤ i) (Ext.refl w).below (Nat.le_refl _) ((((Kept.of_ext hx).setCell (Or.inl hR) _).setCell (Or.inl hR) _).setCell (Or.inl hR) _) (fun _ h => h))


set_option maxRecDepth 100000 in
set_option maxHeartbeats 4000000 in
theorem rwhere_any {rb : Nat} {p : Ch.Plant} {w : World} (h : RPlantAt w rb p) (hp : p.WF) (id : Int) :
    Calls Try.prog 81 #[.pointer (some ⟨rb, 0, none⟩), vi id] w fun e w' => e = .returned (whereV (p.where_ id)) ∧ Ext w w' := by
  have HP0 := Lib.hid h
  have hb := h.lt
  have hbw := h.lt
  have h4 : (4 : Int) ≤ 4 := by decide
  have h41 : (1 : Int) ≤ 4 := by decide
  have HW : Hid (p.where_ id = whereLeft p id 4 0) := Ch.where_find4 hp id
  clear h
  go_enter Try.func81, Try.ntmps81
  go_upto_region 1 with fail
  generalize hW : World.alloc _ _ = w0
  have r0 : w0.cell? ⟨w.heap.size, 0, none⟩ = some (vi 0) := by rw [← hW]; simp [go_sem]
  have r1 : w0.cell? ⟨w.heap.size, 1, none⟩ = some (vi 0) := by rw [← hW]; simp [go_sem]
  have r2 : w0.cell? ⟨w.heap.size, 2, none⟩ = some (vi 0) := by rw [← hW]; simp [go_sem]
  have fz : ∀ i, w0.frozen? ⟨w.heap.size, i, none⟩ = false := by intro i; rw [← hW]; simp [go_sem]
  have hx : Ext w w0 := by rw [← hW]; exact (by simp (maxDischargeDepth := 60))
  have HX := Lib.hid hx
  have HP := Lib.hid (HP0.out.ext hx)
  have FZ := Lib.hid fz
  have hlev0 := HP.out.cells.1
  have zlev := cell_lt hlev0
  clear hW hx HP0 fz hb
  go_wp2
  go_loopw [6] (fun i wr => ∃ a : Nat, 1 ≤ a ∧ (a : Int) ≤ 4 + 1 ∧ i = .int .i64 (a : Int) ∧ Hid (p.where_ id = whereLeft p id 4 (4 * (a - 1))) ∧ Ext w0 wr) (fun i _ => (5 - intOf i).toNat)
  case atStart => exact ⟨1, by omega, by omega, rfl, HW, (by simp (maxDischargeDepth := 60))⟩
  case round =>
    obtain ⟨a, ha, han', rfl, HR1, hxr⟩ := hrel
    have HXR := Lib.hid hxr
    have hlev := xcell hxr hlev0
    have zl := cell_lt hlev
    clear hxr
    by_cases han : (a : Int) ≤ 4
    · go_wp2
      go_loopw [7] (fun i wr => ∃ s : Nat, s ≤ 2 ∧ i = .int .i64 (s : Int) ∧ Hid (p.where_ id = whereLeft p id 4 (4 * (a - 1) + 2 * s)) ∧ Ext w0 wr) (fun i _ => (2 - intOf i).toNat)
      case atStart => exact ⟨0, by omega, rfl, HR1, HXR.out.trans (by simp (maxDischargeDepth := 60))⟩
      case round =>
        obtain ⟨s, hs, rfl, HR2, hxr⟩ := hrel
        have HXR := Lib.hid hxr
        clear hxr
        by_cases hs2 : s < 2
        · have js : (s : Int) < 2 := by omega
          go_wp2
          go_loopw [8] (fun i wr => ∃ d : Nat, d ≤ 2 ∧ i = .int .i64 (d : Int) ∧ Hid (p.where_ id = whereLeft p id 4 (4 * (a - 1) + 2 * s + d)) ∧ Ext w0 wr) (fun i _ => (2 - intOf i).toNat)
          case atStart => exact ⟨0, by omega, rfl, HR2, HXR.out.trans (by simp (maxDischargeDepth := 60))⟩
          case round =>
            obtain ⟨d, hd, rfl, HR3, hxr⟩ := hrel
            have HXR := Lib.hid hxr
            clear hxr
            have hR : w.heap.size < w0.heap.size := cell_lt r0
            by_cases hlt : d < 2
            · have hcell := slotNat _ (HP.out.ext HXR.out) (a := a) (b := s) (c := d) (by omega) (by omega) (by omega)
              have j0 : (0 : Int) ≤ (a : Int) := by omega
              have j1 : (a : Int) < 5 := by omega
              have j2 : (0 : Int) ≤ (s : Int) := by omega
              have j3 : (s : Int) < 2 := by omega
              have j4 : (0 : Int) ≤ (d : Int) := by omega
              have j5 : (d : Int) < 2 := by omega
              have hbr := (HP.out.ext HXR.out).lt

              cases e0 : (id != 0)
              · have HNO : Hid (Ch.whereP p id ⟨(a : Int), (s : Int), (d : Int)⟩ = false) := by unfold Hid Ch.whereP; rw [e0]; rfl
                go_wp2
                go_roundw
                case rel => first | exact ⟨d + 1, by omega, by go_num, by unfold Hid; rw [HR3.out]; exact where_no h4 ha han hs2 hlt HNO.out, HXR.out.trans (by simp (maxDischargeDepth := 60))⟩ | (repeat apply Exists.intro; refine ⟨?_, rfl⟩; exact ⟨d + 1, by omega, by go_num, by unfold Hid; rw [HR3.out]; exact where_no h4 ha han hs2 hlt HNO.out, HXR.out.trans (by simp (maxDischargeDepth := 60))⟩)
                case measure => simp [intOf]; omega

              · cases e1 : (p.slots ⟨(a : Int), (s : Int), (d : Int)⟩ == id)
                · have HNO : Hid (Ch.whereP p id ⟨(a : Int), (s : Int), (d : Int)⟩ = false) := by unfold Hid Ch.whereP; rw [e0, e1]; rfl
                  go_wp2
                  go_roundw
                  case rel => first | exact ⟨d + 1, by omega, by go_num, by unfold Hid; rw [HR3.out]; exact where_no h4 ha han hs2 hlt HNO.out, HXR.out.trans (by simp (maxDischargeDepth := 60))⟩ | (repeat apply Exists.intro; refine ⟨?_, rfl⟩; exact ⟨d + 1, by omega, by go_num, by unfold Hid; rw [HR3.out]; exact where_no h4 ha han hs2 hlt HNO.out, HXR.out.trans (by simp (maxDischargeDepth := 60))⟩)
                  case measure => simp [intOf]; omega

                · have HYES : Hid (p.where_ id = some ⟨(a : Int), (s : Int), (d : Int)⟩) := by unfold Hid; rw [HR3.out]; exact where_yes h4 ha han hs2 hlt (by unfold Ch.whereP; rw [e0, e1]; rfl)
                  go_upto_region 11 with fail
                  have y0 := xfree HXR.out hR (FZ.out 0)
                  have y1 := xfree HXR.out hR (FZ.out 1)
                  have y2 := xfree HXR.out hR (FZ.out 2)
                  have t0 := xcell HXR.out r0
                  have t1 := xcell HXR.out r1
                  have t2 := xcell HXR.out r2
                  go_wp2
                  obtain ⟨p0, p1, p2, px⟩ := put3w (w := w) (a := wr) (R := w.heap.size) (x := vi (a : Int)) (y := vi (s : Int)) (z := vi (d : Int)) (HX.out.trans HXR.out) (Nat.le_refl _) t0 t1 t2

                  exact bodyPost_ret (v := .tuple #[.agg #[vi (a : Int), vi (s : Int), vi (d : Int)], .bool true]) (by simp [results, Try.results81, go_sem, p0, p1, p2]) rfl ⟨by rw [HYES.out]; rfl, px⟩

            · have hd2 : d = 2 := by omega
              subst hd2
              go_wp2
              go_roundw
              case rel => first | exact ⟨s + 1, by omega, by go_num, by unfold Hid; rw [HR3.out]; exact congrArg _ (by omega), HXR.out.trans (by simp (maxDischargeDepth := 60))⟩ | (repeat apply Exists.intro; refine ⟨?_, rfl⟩; exact ⟨s + 1, by omega, by go_num, by unfold Hid; rw [HR3.out]; exact congrArg _ (by omega), HXR.out.trans (by simp (maxDischargeDepth := 60))⟩)
              case measure => simp [intOf]; omega

        · have hs3 : s = 2 := by omega
          subst hs3
          go_wp2
          go_roundw
          case rel => first | exact ⟨a + 1, by omega, by omega, by go_num, by unfold Hid; rw [HR2.out]; exact congrArg _ (by omega), HXR.out.trans (by simp (maxDischargeDepth := 60))⟩ | (repeat apply Exists.intro; refine ⟨?_, rfl⟩; exact ⟨a + 1, by omega, by omega, by go_num, by unfold Hid; rw [HR2.out]; exact congrArg _ (by omega), HXR.out.trans (by simp (maxDischargeDepth := 60))⟩)
          case measure => simp [intOf]; omega

    · have hend : Hid (p.where_ id = none) := by
        unfold Hid
        rw [HR1.out]
        unfold whereLeft
        rw [List.drop_of_length_le (by rw [Ch.places_len (by omega) h4]; omega)]
        rfl
      have y0 := xfree HXR.out (cell_lt r0) (FZ.out 0)
      have y1 := xfree HXR.out (cell_lt r0) (FZ.out 1)
      have y2 := xfree HXR.out (cell_lt r0) (FZ.out 2)
      have t0 := xcell HXR.out r0
      have t1 := xcell HXR.out r1
      have t2 := xcell HXR.out r2
      go_wp2
      obtain ⟨p0, p1, p2, px⟩ := put3w (w := w) (a := wr) (R := w.heap.size) (x := vi 0) (y := vi 0) (z := vi 0) (HX.out.trans HXR.out) (Nat.le_refl _) t0 t1 t2
      exact bodyPost_ret (v := .tuple #[.agg #[vi 0, vi 0, vi 0], .bool false]) (by simp [results, Try.results81, go_sem, p0, p1, p2]) rfl ⟨by rw [hend.out]; rfl, px⟩

set_option maxRecDepth 100000 in
set_option maxHeartbeats 4000000 in
theorem where_any {pb mb : Nat} {p : Ch.Plant} {w : World} (h : PlantAt w pb mb p) (hp : p.WF) (id : Int) :
    Calls Try.prog 80 #[.pointer (some ⟨pb, 0, none⟩), vi id] w fun e w' => e = .returned (whereV (p.where_ id)) ∧ Ext w w' := by
  have HP0 := Lib.hid h
  have hb := h.lt
  have hbw := h.lt.1
  have h4 : (p.levels : Int) ≤ 4 := hp.lv2
  have h41 : (1 : Int) ≤ p.levels := hp.lv1
  have HW : Hid (p.where_ id = whereLeft p id p.levels 0) := Ch.where_find p id
  clear h
  go_enter Try.func80, Try.ntmps80
  go_upto_region 1 with fail
  generalize hW : World.alloc _ _ = w0
  have r0 : w0.cell? ⟨w.heap.size, 0, none⟩ = some (vi 0) := by rw [← hW]; simp [go_sem]
  have r1 : w0.cell? ⟨w.heap.size, 1, none⟩ = some (vi 0) := by rw [← hW]; simp [go_sem]
  have r2 : w0.cell? ⟨w.heap.size, 2, none⟩ = some (vi 0) := by rw [← hW]; simp [go_sem]
  have fz : ∀ i, w0.frozen? ⟨w.heap.size, i, none⟩ = false := by intro i; rw [← hW]; simp [go_sem]
  have hx : Ext w w0 := by rw [← hW]; exact (by simp (maxDischargeDepth := 60))
  have HX := Lib.hid hx
  have HP := Lib.hid (HP0.out.ext hx)
  have FZ := Lib.hid fz
  have hlev0 := HP.out.cells.1
  have zlev := cell_lt hlev0
  clear hW hx HP0 fz hb
  go_wp2
  go_loopw [6] (fun i wr => ∃ a : Nat, 1 ≤ a ∧ (a : Int) ≤ p.levels + 1 ∧ i = .int .i64 (a : Int) ∧ Hid (p.where_ id = whereLeft p id p.levels (4 * (a - 1))) ∧ Ext w0 wr) (fun i _ => (5 - intOf i).toNat)
  case atStart => exact ⟨1, by omega, by omega, rfl, HW, (by simp (maxDischargeDepth := 60))⟩
  case round =>
    obtain ⟨a, ha, han', rfl, HR1, hxr⟩ := hrel
    have HXR := Lib.hid hxr
    have hlev := xcell hxr hlev0
    have zl := cell_lt hlev
    clear hxr
    by_cases han : (a : Int) ≤ p.levels
    · go_wp2
      go_loopw [18] (fun i wr => ∃ s : Nat, s ≤ 2 ∧ i = .int .i64 (s : Int) ∧ Hid (p.where_ id = whereLeft p id p.levels (4 * (a - 1) + 2 * s)) ∧ Ext w0 wr) (fun i _ => (2 - intOf i).toNat)
      case atStart => exact ⟨0, by omega, rfl, HR1, HXR.out.trans (by simp (maxDischargeDepth := 60))⟩
      case round =>
        obtain ⟨s, hs, rfl, HR2, hxr⟩ := hrel
        have HXR := Lib.hid hxr
        clear hxr
        by_cases hs2 : s < 2
        · have js : (s : Int) < 2 := by omega
          go_wp2
          go_loopw [21] (fun i wr => ∃ d : Nat, d ≤ 2 ∧ i = .int .i64 (d : Int) ∧ Hid (p.where_ id = whereLeft p id p.levels (4 * (a - 1) + 2 * s + d)) ∧ Ext w0 wr) (fun i _ => (2 - intOf i).toNat)
          case atStart => exact ⟨0, by omega, rfl, HR2, HXR.out.trans (by simp (maxDischargeDepth := 60))⟩
          case round =>
            obtain ⟨d, hd, rfl, HR3, hxr⟩ := hrel
            have HXR := Lib.hid hxr
            clear hxr
            have hR : w.heap.size < w0.heap.size := cell_lt r0
            by_cases hlt : d < 2
            · have hcell := (HP.out.ext HXR.out).cells.2.2.2.2.2.2.2.1
              have hlev := (HP.out.ext HXR.out).cells.1
              have j2 : (0 : Int) ≤ (s : Int) := by omega
              have j3 : (s : Int) < 2 := by omega
              have j4 : (0 : Int) ≤ (d : Int) := by omega
              have j5 : (d : Int) < 2 := by omega
              have hbr := (HP.out.ext HXR.out).lt.1
              have hlk : ∀ o n, (Instr.lookup 163 (.map (some mb)) (.agg #[vi (a : Int), vi (s : Int), vi (d : Int)]) false).run Try.prog (World.plus (wr.alloc (.cells #[vi (a : Int), vi (s : Int), vi (d : Int)] 23)) o n) = .ok (vi (p.slots ⟨(a : Int), (s : Int), (d : Int)⟩)) (World.plus (wr.alloc (.cells #[vi (a : Int), vi (s : Int), vi (d : Int)] 23)) o n) := fun o n => by
                obtain ⟨l, k, hs⟩ := ((HP.out.ext HXR.out).ext (w' := World.plus (wr.alloc (.cells #[vi (a : Int), vi (s : Int), vi (d : Int)] 23)) o n) (by simp (maxDischargeDepth := 60))).slots
                exact hs.look ⟨(a : Int), (s : Int), (d : Int)⟩

              cases e0 : (id != 0)
              · have HNO : Hid (Ch.whereP p id ⟨(a : Int), (s : Int), (d : Int)⟩ = false) := by unfold Hid Ch.whereP; rw [e0]; rfl
                go_upto_region 11 with fail
                (refine wp_region_ext (by kernel_rfl) (by kernel_rfl) ?_; (repeat (first | go_big_quiet_step (fail) | quiet_step (fail))); refine wpQuiet_nil ?_; intro _ hw'; obtain ⟨oq, nq, hw''⟩ := hw'; subst hw'')
                go_wp2
                go_roundw
                case rel => first | exact ⟨d + 1, by omega, by go_num, by unfold Hid; rw [HR3.out]; exact where_no h4 ha han hs2 hlt HNO.out, HXR.out.trans (by simp (maxDischargeDepth := 60))⟩ | (repeat apply Exists.intro; refine ⟨?_, rfl⟩; exact ⟨d + 1, by omega, by go_num, by unfold Hid; rw [HR3.out]; exact where_no h4 ha han hs2 hlt HNO.out, HXR.out.trans (by simp (maxDischargeDepth := 60))⟩)
                case measure => simp [intOf]; omega

              · cases e1 : (p.slots ⟨(a : Int), (s : Int), (d : Int)⟩ == id)
                · have HNO : Hid (Ch.whereP p id ⟨(a : Int), (s : Int), (d : Int)⟩ = false) := by unfold Hid Ch.whereP; rw [e0, e1]; rfl
                  go_upto_region 11 with fail
                  (refine wp_region_ext (by kernel_rfl) (by kernel_rfl) ?_; (repeat (first | go_big_quiet_step (fail) | quiet_step (fail))); refine wpQuiet_nil ?_; intro _ hw'; obtain ⟨oq, nq, hw''⟩ := hw'; subst hw'')
                  go_wp2
                  go_roundw
                  case rel => first | exact ⟨d + 1, by omega, by go_num, by unfold Hid; rw [HR3.out]; exact where_no h4 ha han hs2 hlt HNO.out, HXR.out.trans (by simp (maxDischargeDepth := 60))⟩ | (repeat apply Exists.intro; refine ⟨?_, rfl⟩; exact ⟨d + 1, by omega, by go_num, by unfold Hid; rw [HR3.out]; exact where_no h4 ha han hs2 hlt HNO.out, HXR.out.trans (by simp (maxDischargeDepth := 60))⟩)
                  case measure => simp [intOf]; omega

                · have HYES : Hid (p.where_ id = some ⟨(a : Int), (s : Int), (d : Int)⟩) := by unfold Hid; rw [HR3.out]; exact where_yes h4 ha han hs2 hlt (by unfold Ch.whereP; rw [e0, e1]; rfl)
                  go_upto_region 11 with fail
                  (refine wp_region_ext (by kernel_rfl) (by kernel_rfl) ?_; (repeat (first | go_big_quiet_step (fail) | quiet_step (fail))); refine wpQuiet_nil ?_; intro _ hw'; obtain ⟨oq, nq, hw''⟩ := hw'; subst hw'')
                  go_upto_region 12 with fail
                  generalize hZ : World.plus _ _ _ = wz
                  have hxz : Ext wr wz := by rw [← hZ]; exact (by simp (maxDischargeDepth := 60))
                  have q0 : wz.cell? ⟨wr.heap.size, 0, none⟩ = some (vi (a : Int)) := by rw [← hZ]; simp [go_sem]
                  have q1 : wz.cell? ⟨wr.heap.size, 1, none⟩ = some (vi (s : Int)) := by rw [← hZ]; simp [go_sem]
                  have q2 : wz.cell? ⟨wr.heap.size, 2, none⟩ = some (vi (d : Int)) := by rw [← hZ]; simp [go_sem]
                  clear hZ
                  have hlev := xcell hxz hlev
                  have zq := cell_lt q0
                  have zl := cell_lt hlev
                  have HXZ := Lib.hid (HXR.out.trans hxz)
                  clear hxz hcell hlk
                  have HNIL : Hid (errV (Ch.placeFault ⟨(a : Int), (s : Int), (d : Int)⟩ p.levels) = .nilIface) := by unfold Hid; rw [Ch.where_ok HYES.out]; rfl
                  have y0 := xfree HXZ.out hR (FZ.out 0)
                  have y1 := xfree HXZ.out hR (FZ.out 1)
                  have y2 := xfree HXZ.out hR (FZ.out 2)
                  have t0 := xcell HXZ.out r0
                  have t1 := xcell HXZ.out r1
                  have t2 := xcell HXZ.out r2
                  have zr : w.heap.size < wz.heap.size := by have := HXZ.out.below.size; omega
                  have u0 : ∀ o n, (wz.drew.plus o n).cell? ⟨w.heap.size, 0, none⟩ = some (vi 0) := fun o n => xcell (w := wz) (Ext.plus (Ext.drew (Ext.refl _)) o n) t0
                  have u1 : ∀ o n, (wz.drew.plus o n).cell? ⟨w.heap.size, 1, none⟩ = some (vi 0) := fun o n => xcell (w := wz) (Ext.plus (Ext.drew (Ext.refl _)) o n) t1
                  have u2 : ∀ o n, (wz.drew.plus o n).cell? ⟨w.heap.size, 2, none⟩ = some (vi 0) := fun o n => xcell (w := wz) (Ext.plus (Ext.drew (Ext.refl _)) o n) t2
                  have v0 : ∀ o n, (wz.drew.plus o n).frozen? ⟨w.heap.size, 0, none⟩ = false := fun o n => xfree (w := wz) (Ext.plus (Ext.drew (Ext.refl _)) o n) zr y0
                  have v1 : ∀ o n, (wz.drew.plus o n).frozen? ⟨w.heap.size, 1, none⟩ = false := fun o n => xfree (w := wz) (Ext.plus (Ext.drew (Ext.refl _)) o n) zr y1
                  have v2 : ∀ o n, (wz.drew.plus o n).frozen? ⟨w.heap.size, 2, none⟩ = false := fun o n => xfree (w := wz) (Ext.plus (Ext.drew (Ext.refl _)) o n) zr y2
                  have zwr : w.heap.size < wr.heap.size := by have := HXR.out.below.size; omega
                  have ne1 : ¬ wr.heap.size = w.heap.size := by omega
                  have ne2 : ¬ w.heap.size = wr.heap.size := by omega
                  have ne3 : ¬ pb = w.heap.size := by omega
                  have ne4 : ¬ w.heap.size = pb := by omega
                  have k0 : ∀ o n, (wz.drew.plus o n).cell? ⟨wr.heap.size, 0, none⟩ = some (vi (a : Int)) := fun o n => xcell (w := wz) (Ext.plus (Ext.drew (Ext.refl _)) o n) q0
                  have k1 : ∀ o n, (wz.drew.plus o n).cell? ⟨wr.heap.size, 1, none⟩ = some (vi (s : Int)) := fun o n => xcell (w := wz) (Ext.plus (Ext.drew (Ext.refl _)) o n) q1
                  have k2 : ∀ o n, (wz.drew.plus o n).cell? ⟨wr.heap.size, 2, none⟩ = some (vi (d : Int)) := fun o n => xcell (w := wz) (Ext.plus (Ext.drew (Ext.refl _)) o n) q2
                  have k3 : ∀ o n, (wz.drew.plus o n).cell? ⟨pb, 0, none⟩ = some (vi p.levels) := fun o n => xcell (w := wz) (Ext.plus (Ext.drew (Ext.refl _)) o n) hlev
                  have HU := Lib.hid u0
                  have HU1 := Lib.hid u1
                  have HU2 := Lib.hid u2
                  go_region_held3 (fun w' => w'.cell? ⟨wr.heap.size, 0, none⟩ = some (vi (a : Int)) ∧ w'.cell? ⟨wr.heap.size, 1, none⟩ = some (vi (s : Int)) ∧ w'.cell? ⟨wr.heap.size, 2, none⟩ = some (vi (d : Int)) ∧ w'.cell? ⟨pb, 0, none⟩ = some (vi p.levels))
                    (first | go_keep | ((try dsimp only); (repeat' apply And.intro) <;> (simp (disch := (first | assumption | (simp; done) | (simp; omega))) [plus_cell, go_sem, *]; done)))
                    (first | (go_simp; go_at_call 37; refine (checkPlace_f (a : Int) (s : Int) (d : Int) p.levels _).mono ?_; rintro e w1 ⟨he1, o1, n1, rfl⟩; rw [HNIL.out] at he1; subst he1))
                  go_wp2
                  obtain ⟨p0, p1, p2, px⟩ := put3w (w := w) (a := wz.drew.plus o1 n1) (R := w.heap.size) (x := vi (a : Int)) (y := vi (s : Int)) (z := vi (d : Int)) ((HX.out.trans HXZ.out).trans (by simp (maxDischargeDepth := 60))) (Nat.le_refl _) (HU.out _ _) (HU1.out _ _) (HU2.out _ _)
                  exact bodyPost_ret (v := .tuple #[.agg #[vi (a : Int), vi (s : Int), vi (d : Int)], .bool true]) (by simp [results, Try.results80, go_sem, p0, p1, p2]) rfl ⟨by rw [HYES.out]; rfl, px⟩

            · have hd2 : d = 2 := by omega
              subst hd2
              go_wp2
              go_roundw
              case rel => first | exact ⟨s + 1, by omega, by go_num, by unfold Hid; rw [HR3.out]; exact congrArg _ (by omega), HXR.out.trans (by simp (maxDischargeDepth := 60))⟩ | (repeat apply Exists.intro; refine ⟨?_, rfl⟩; exact ⟨s + 1, by omega, by go_num, by unfold Hid; rw [HR3.out]; exact congrArg _ (by omega), HXR.out.trans (by simp (maxDischargeDepth := 60))⟩)
              case measure => simp [intOf]; omega

        · have hs3 : s = 2 := by omega
          subst hs3
          go_wp2
          go_roundw
          case rel => first | exact ⟨a + 1, by omega, by omega, by go_num, by unfold Hid; rw [HR2.out]; exact congrArg _ (by omega), HXR.out.trans (by simp (maxDischargeDepth := 60))⟩ | (repeat apply Exists.intro; refine ⟨?_, rfl⟩; exact ⟨a + 1, by omega, by omega, by go_num, by unfold Hid; rw [HR2.out]; exact congrArg _ (by omega), HXR.out.trans (by simp (maxDischargeDepth := 60))⟩)
          case measure => simp [intOf]; omega

    · have hend : Hid (p.where_ id = none) := by
        unfold Hid
        rw [HR1.out]
        unfold whereLeft
        rw [List.drop_of_length_le (by rw [Ch.places_len (by omega) h4]; omega)]
        rfl
      have y0 := xfree HXR.out (cell_lt r0) (FZ.out 0)
      have y1 := xfree HXR.out (cell_lt r0) (FZ.out 1)
      have y2 := xfree HXR.out (cell_lt r0) (FZ.out 2)
      have t0 := xcell HXR.out r0
      have t1 := xcell HXR.out r1
      have t2 := xcell HXR.out r2
      go_wp2
      obtain ⟨p0, p1, p2, px⟩ := put3w (w := w) (a := wr) (R := w.heap.size) (x := vi 0) (y := vi 0) (z := vi 0) (HX.out.trans HXR.out) (Nat.le_refl _) t0 t1 t2
      exact bodyPost_ret (v := .tuple #[.agg #[vi 0, vi 0, vi 0], .bool false]) (by simp [results, Try.results80, go_sem, p0, p1, p2]) rfl ⟨by rw [hend.out]; rfl, px⟩
end Go.Proofs.Ytplomeacjbkgnaa
