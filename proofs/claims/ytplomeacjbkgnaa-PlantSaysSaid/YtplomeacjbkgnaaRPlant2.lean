/-
  The walks of the reference's machine: what is seen; what is done to it.
-/
import Derived.Test.YtplomeacjbkgnaaRPlant
import Derived.Test.YtplomeacjbkgnaaPlantLaw
import Derived.Deep.RegionHeld3
namespace Go.Proofs.Ytplomeacjbkgnaa
open Go.RowKit

theorem slot_out {p : Ch.Plant} (hp : p.WF) {x : Ch.Place} (hx : ¬ Ch.placeFault x 4 = 0) : p.slots x = 0 := by
  by_cases hz : p.slots x = 0
  · exact hz
  · have h := Ch.placeFault_iff.1 (hp.sl x hz)
    have h2 := hp.lv2
    exact absurd (Ch.placeFault_iff.2 ⟨h.1, by omega, h.2.2.1, h.2.2.2.1, h.2.2.2.2.1, h.2.2.2.2.2⟩) hx

theorem rat_any {rb : Nat} {p : Ch.Plant} {w : World} (h : RPlantAt w rb p) (hp : p.WF) (a b c : Int) :
    Calls Try.prog 128 #[.pointer (some ⟨rb, 0, none⟩), .agg #[vi a, vi b, vi c]] w fun r w' => r = .returned (vi (p.slots ⟨a, b, c⟩)) ∧ Ext w w' := by
  by_cases hf : Ch.placeFault ⟨a, b, c⟩ 4 = 0
  · have h6 := Ch.placeFault_iff.1 hf
    dsimp only at h6
    obtain ⟨a', rfl⟩ : ∃ n : Nat, a = n := ⟨a.toNat, by omega⟩
    obtain ⟨b', rfl⟩ : ∃ n : Nat, b = n := ⟨b.toNat, by omega⟩
    obtain ⟨c', rfl⟩ : ∃ n : Nat, c = n := ⟨c.toNat, by omega⟩
    exact rat_in h a' b' c' (by omega) (by omega) (by omega) (by omega)
  · rw [slot_out hp hf]
    exact rat_out (p := p) a b c hf

set_option maxRecDepth 100000 in
set_option maxHeartbeats 2000000 in
theorem rfull_any {rb : Nat} {p : Ch.Plant} {w : World} (h : RPlantAt w rb p) (hp : p.WF) (e : Int) (e0 : -3 ≤ e) (e1 : e ≤ 3) :
    Calls Try.prog 152 #[.pointer (some ⟨rb, 0, none⟩), vi e] w fun r w' => r = .returned (.bool (p.full e)) ∧ Ext w w' := by
  obtain ⟨c0, c1, c2, c3, c4, c5, c6, c7, c8⟩ := h.cells
  have hb := cell_lt c1
  have h0 := hp.ht1
  have h1 : p.height ≤ 12 := by have := hp.ht2; have := hp.lv2; omega
  cases hx : placeAt p.height e with
  | none =>
    have HF : Hid (p.full e = false) := by unfold Hid Ch.Plant.full; rw [place_at, hx]
    have HX := Lib.hid hx
    clear hx h
    go_enter Try.func152, Try.ntmps152
    go_wp2_with (first | (go_at_call 151; (with_reducible refine (rplace_none _ _ _ _ (by assumption) (by omega) (by omega) (by omega) (by omega) HX.out).mono ?_); rintro e w1 ⟨rfl, o1, n1, rfl⟩) | (go_at_call 128; (with_reducible refine (rat_out (p := p) 0 0 0 (by decide)).mono ?_); rintro e w1 ⟨rfl, o1, n1, rfl⟩))
    exact bodyPost_ret (v := .bool false) (by simp [results, Try.results152, go_sem]) rfl ⟨by rw [HF.out], (by simp (maxDischargeDepth := 60))⟩
  | some x =>
    obtain ⟨a, b, c⟩ := x
    have HF : Hid (p.full e = (p.slots ⟨a, b, c⟩ != 0)) := by unfold Hid Ch.Plant.full; rw [place_at, hx]
    have HX := Lib.hid hx
    have HP := Lib.hid h
    clear hx h
    go_enter Try.func152, Try.ntmps152
    go_wp2_with (first | (go_at_call 151; (with_reducible refine (rplace_some _ _ _ a b c _ (by assumption) (by omega) (by omega) (by omega) (by omega) HX.out).mono ?_); rintro e w1 ⟨rfl, o1, n1, rfl⟩) | (go_at_call 128; (with_reducible refine (rat_any (HP.out.ext (by simp (maxDischargeDepth := 60))) hp a b c).mono ?_); rintro e w1 ⟨rfl, o1, n1, rfl⟩))
    all_goals
      exact bodyPost_ret (v := .bool (p.slots ⟨a, b, c⟩ != 0)) (by simp [results, Try.results152, go_sem]) rfl ⟨by rw [HF.out], (by simp (maxDischargeDepth := 60))⟩

theorem ext_setCellsR {w a : World} {R : Nat} (hR : w.heap.size ≤ R) : ∀ (vs : List Value) (o : Nat) (a : World), Ext w a → Ext w (a.setCells R o vs)
  | [], _, _, h => h
  | v :: r, o, a, h => by
    rw [World.setCells]
    exact ext_setCellsR (a := a) hR r (o + 1) _ (Ext.setCell h hR v)

/-- nine stores into a block of the call's own -/
theorem put9 {w a : World} {R : Nat} {x0 x1 x2 x3 x4 x5 x6 x7 x8 : Value} (hx : Ext w a) (hR : w.heap.size ≤ R) (hc : ∀ j, j < 9 → (a.cell? ⟨R, j, none⟩).isSome = true) :
    let W := (((((((((a.setCell ⟨R, 0, none⟩ x0).setCell ⟨R, 1, none⟩ x1).setCell ⟨R, 2, none⟩ x2).setCell ⟨R, 3, none⟩ x3).setCell ⟨R, 4, none⟩ x4).setCell ⟨R, 5, none⟩ x5).setCell ⟨R, 6, none⟩ x6).setCell ⟨R, 7, none⟩ x7).setCell ⟨R, 8, none⟩ x8)
    W.cell? ⟨R, 0, none⟩ = some x0 ∧ W.cell? ⟨R, 1, none⟩ = some x1 ∧ W.cell? ⟨R, 2, none⟩ = some x2 ∧ W.cell? ⟨R, 3, none⟩ = some x3 ∧ W.cell? ⟨R, 4, none⟩ = some x4 ∧ W.cell? ⟨R, 5, none⟩ = some x5 ∧ W.cell? ⟨R, 6, none⟩ = some x6 ∧ W.cell? ⟨R, 7, none⟩ = some x7 ∧ W.cell? ⟨R, 8, none⟩ = some x8 ∧ Ext w W := by
  intro W
  have e : W = a.setCells R 0 [x0, x1, x2, x3, x4, x5, x6, x7, x8] := rfl
  have h := World.cell?_setCells_in R [x0, x1, x2, x3, x4, x5, x6, x7, x8] 0 a (by intro j hj; simpa using hc j (by simpa using hj))
  rw [e]
  refine ⟨?_, ?_, ?_, ?_, ?_, ?_, ?_, ?_, ?_, ext_setCellsR (a := a) hR _ _ _ hx⟩
  · simpa using h 0 (by simp)
  · simpa using h 1 (by simp)
  · simpa using h 2 (by simp)
  · simpa using h 3 (by simp)
  · simpa using h 4 (by simp)
  · simpa using h 5 (by simp)
  · simpa using h 6 (by simp)
  · simpa using h 7 (by simp)
  · simpa using h 8 (by simp)

theorem block_ext {w w' : World} {b : Nat} {o : Obj} (h : w.heap[b]? = some o) (x : Ext w w') : w'.heap[b]? = some o := by
  have hb : b < w.heap.size := by
    by_cases hb : b < w.heap.size
    · exact hb
    · rw [Array.getElem?_eq_none (Nat.le_of_not_lt hb)] at h; cases h
  obtain ⟨o', n, rfl⟩ := x
  rw [plus_heap w o' n b hb]; exact h

set_option maxRecDepth 100000 in
set_option maxHeartbeats 4000000 in
theorem rsense_any {rb : Nat} {p : Ch.Plant} {w : World} (h : RPlantAt w rb p) (hp : p.WF) :
    Calls Try.prog 126 #[.pointer (some ⟨rb, 0, none⟩)] w fun r w' => r = .returned (senseA p) ∧ Ext w w' := by
  obtain ⟨c0, c1, c2, c3, c4, c5, c6, c7, c8⟩ := h.cells
  have hb := cell_lt c1
  have HP := Lib.hid h
  have h3 := hp.ex1
  have h4 := hp.ex2
  have i1 : IntKind.i64.wrap (p.ext - 1) = p.ext - 1 := IntWalk.i64_in _ (by omega)
  have i2 : IntKind.i64.wrap (p.ext + 1) = p.ext + 1 := IntWalk.i64_in _ (by omega)
  clear h
  go_enter Try.func126, Try.ntmps126
  go_upto_region 1 with fail
  go_region_held3 (fun w' => w'.cell? ⟨rb, 1, none⟩ = some (vi p.height) ∧ w'.cell? ⟨rb, 2, none⟩ = some (vi p.ext) ∧ w'.cell? ⟨rb, 3, none⟩ = some (.bool p.door) ∧ w'.cell? ⟨rb, 4, none⟩ = some (vi p.people) ∧ w'.cell? ⟨rb, 5, none⟩ = some (vi p.lift) ∧ w'.cell? ⟨rb, 6, none⟩ = some (vi p.bay)) (first | go_keep | ((try dsimp only); (repeat' apply And.intro) <;> (simp (disch := (first | assumption | (simp; done) | (simp; omega))) [plus_cell, go_sem]; done))) (first | fail)
  go_upto_region 2 with fail
  generalize hW : World.drew _ = w1
  have hx : Ext w w1 := by rw [← hW]; exact (by simp (maxDischargeDepth := 60))
  have hblk : w1.heap[w.heap.size + 1]? = some (.cells #[vi p.height, vi p.ext, .bool p.door, vi p.people, vi p.lift, vi p.bay, .bool false, .bool false, .bool false] 33 (0, 0)) := by rw [← hW]; exact alloc_at _ _ _ (by simp)
  have q0 : ∀ j, j < 9 → (w1.cell? ⟨w.heap.size, j, none⟩).isSome = true := by
    intro j hj
    have : j = 0 ∨ j = 1 ∨ j = 2 ∨ j = 3 ∨ j = 4 ∨ j = 5 ∨ j = 6 ∨ j = 7 ∨ j = 8 := by omega
    rcases this with rfl | rfl | rfl | rfl | rfl | rfl | rfl | rfl | rfl <;> (rw [← hW]; simp [go_sem])
  have qf : ∀ j, w1.frozen? ⟨w.heap.size, j, none⟩ = false := by intro j; rw [← hW]; simp [go_sem]
  generalize hD : w.heap.size + 1 = D at *
  have hDw : w.heap.size < D := by omega
  have HX1 := Lib.hid hx
  have HK1 : Hid (Kept (Is D) w1 w1) := Kept.refl _ _
  have HQ1 := Lib.hid q0
  have HF1 := Lib.hid qf
  clear hW hD c0 c1 c3 c4 c5 c6 c7 c8 q0 qf hx
  have cD1 := block_cell hblk (i := 6) rfl
  have fD1 := block_free hblk
  have hr1 := HP.out.ext (HK1.out.widen HX1.out (by omega))
  have ce1 := hr1.cells.2.2.1
  have ze1 := cell_lt ce1
  have zD1 := cell_lt cD1
  have HR1 := Lib.hid hr1
  clear hr1
  go_upto_region 3 with (go_at_call 152; (with_reducible refine (rfull_any HR1.out hp _ (by omega) (by omega)).mono ?_); rintro e w1 ⟨rfl, o1, n1, rfl⟩)
  generalize hW : World.setCell _ _ _ = w2
  have hblk2 : w2.heap[D]? = some (.cells #[vi p.height, vi p.ext, .bool p.door, vi p.people, vi p.lift, vi p.bay, .bool (p.full p.ext), .bool false, .bool false] 33 (0, 0)) := by
    rw [← hW, setCell_block (block_ext hblk (x := (by exact (by simp (maxDischargeDepth := 60)))))]; rfl
  have HK2 : Hid (Kept (Is D) w1 w2) := by
    rw [← hW]; exact Kept.put (HK1.out.trans (Kept.of_ext (by simp (maxDischargeDepth := 60)))) _ _
  clear hW cD1 fD1 ce1 ze1 zD1 hblk
  have hblk := hblk2
  clear hblk2
  have cD2 := block_cell hblk (i := 7) rfl
  have fD2 := block_free hblk
  have hr2 := HP.out.ext (HK2.out.widen HX1.out (by omega))
  have ce2 := hr2.cells.2.2.1
  have ze2 := cell_lt ce2
  have zD2 := cell_lt cD2
  have HR2 := Lib.hid hr2
  clear hr2
  go_upto_region 4 with (go_at_call 152; (with_reducible refine (rfull_any HR2.out hp _ (by omega) (by omega)).mono ?_); rintro e w1 ⟨rfl, o1, n1, rfl⟩)
  generalize hW : World.setCell _ _ _ = w3
  have hblk3 : w3.heap[D]? = some (.cells #[vi p.height, vi p.ext, .bool p.door, vi p.people, vi p.lift, vi p.bay, .bool (p.full p.ext), .bool (p.full (p.ext - 1)), .bool false] 33 (0, 0)) := by
    rw [← hW, setCell_block (block_ext hblk (x := (by exact (by simp (maxDischargeDepth := 60)))))]; rfl
  have HK3 : Hid (Kept (Is D) w1 w3) := by
    rw [← hW]; exact Kept.put (HK2.out.trans (Kept.of_ext (by simp (maxDischargeDepth := 60)))) _ _
  clear hW cD2 fD2 ce2 ze2 zD2 hblk
  have hblk := hblk3
  clear hblk3
  have cD3 := block_cell hblk (i := 8) rfl
  have fD3 := block_free hblk
  have hr3 := HP.out.ext (HK3.out.widen HX1.out (by omega))
  have ce3 := hr3.cells.2.2.1
  have ze3 := cell_lt ce3
  have zD3 := cell_lt cD3
  have HR3 := Lib.hid hr3
  clear hr3
  go_upto_region 5 with (go_at_call 152; (with_reducible refine (rfull_any HR3.out hp _ (by omega) (by omega)).mono ?_); rintro e w1 ⟨rfl, o1, n1, rfl⟩)
  generalize hW : World.setCell _ _ _ = w4
  have hblk4 : w4.heap[D]? = some (.cells #[vi p.height, vi p.ext, .bool p.door, vi p.people, vi p.lift, vi p.bay, .bool (p.full p.ext), .bool (p.full (p.ext - 1)), .bool (p.full (p.ext + 1))] 33 (0, 0)) := by
    rw [← hW, setCell_block (block_ext hblk (x := (by exact (by simp (maxDischargeDepth := 60)))))]; rfl
  have HK4 : Hid (Kept (Is D) w1 w4) := by
    rw [← hW]; exact Kept.put (HK3.out.trans (Kept.of_ext (by simp (maxDischargeDepth := 60)))) _ _
  clear hW cD3 fD3 ce3 ze3 zD3 hblk
  have hblk := hblk4
  clear hblk4
  have e0 := block_cell hblk (i := 0) rfl
  have e1 := block_cell hblk (i := 1) rfl
  have e2 := block_cell hblk (i := 2) rfl
  have e3 := block_cell hblk (i := 3) rfl
  have e4 := block_cell hblk (i := 4) rfl
  have e5 := block_cell hblk (i := 5) rfl
  have e6 := block_cell hblk (i := 6) rfl
  have e7 := block_cell hblk (i := 7) rfl
  have e8 := block_cell hblk (i := 8) rfl
  have zD := cell_lt e0
  have zk := HK4.out.size
  have q0 : ∀ j, j < 9 → (w4.cell? ⟨w.heap.size, j, none⟩).isSome = true := by
    intro j hj
    obtain ⟨v, hv⟩ := Option.isSome_iff_exists.1 (HQ1.out j hj)
    rw [HK4.out.cell hv (by omega)]; rfl
  have hR1 : w.heap.size < w1.heap.size := by
    obtain ⟨v, hv⟩ := Option.isSome_iff_exists.1 (HQ1.out 0 (by decide))
    exact cell_lt hv
  have qf : ∀ j, w4.frozen? ⟨w.heap.size, j, none⟩ = false := fun j => (World.frozen?_of_block (HK4.out.other (k := w.heap.size) hR1 (by omega))).trans (HF1.out j)
  have y0 := qf 0
  obtain ⟨u0, t0⟩ := Option.isSome_iff_exists.1 (q0 0 (by decide))
  have y1 := qf 1
  obtain ⟨u1, t1⟩ := Option.isSome_iff_exists.1 (q0 1 (by decide))
  have y2 := qf 2
  obtain ⟨u2, t2⟩ := Option.isSome_iff_exists.1 (q0 2 (by decide))
  have y3 := qf 3
  obtain ⟨u3, t3⟩ := Option.isSome_iff_exists.1 (q0 3 (by decide))
  have y4 := qf 4
  obtain ⟨u4, t4⟩ := Option.isSome_iff_exists.1 (q0 4 (by decide))
  have y5 := qf 5
  obtain ⟨u5, t5⟩ := Option.isSome_iff_exists.1 (q0 5 (by decide))
  have y6 := qf 6
  obtain ⟨u6, t6⟩ := Option.isSome_iff_exists.1 (q0 6 (by decide))
  have y7 := qf 7
  obtain ⟨u7, t7⟩ := Option.isSome_iff_exists.1 (q0 7 (by decide))
  have y8 := qf 8
  obtain ⟨u8, t8⟩ := Option.isSome_iff_exists.1 (q0 8 (by decide))
  have HQ4 := Lib.hid q0
  have HX4 := Lib.hid (HK4.out.widen HX1.out (by omega))
  clear q0 qf hblk
  go_wp2
  obtain ⟨p0, p1, p2, p3, p4, p5, p6, p7, p8, px⟩ := put9 (w := w) (a := w4) (R := w.heap.size) (x0 := vi p.height) (x1 := vi p.ext) (x2 := .bool p.door) (x3 := vi p.people) (x4 := vi p.lift) (x5 := vi p.bay) (x6 := .bool (p.full p.ext)) (x7 := .bool (p.full (p.ext - 1))) (x8 := .bool (p.full (p.ext + 1))) HX4.out (Nat.le_refl _) HQ4.out
  exact bodyPost_ret (v := senseA p) (by simp [results, Try.results126, go_sem, p0, p1, p2, p3, p4, p5, p6, p7, p8]) rfl ⟨rfl, px⟩
end Go.Proofs.Ytplomeacjbkgnaa
