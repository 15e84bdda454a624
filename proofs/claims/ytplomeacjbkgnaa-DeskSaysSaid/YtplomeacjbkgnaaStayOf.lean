/-
  The walk of the reference's StayOf: a ticket's stay, or a car's.
-/
import Derived.Test.YtplomeacjbkgnaaBook
import Derived.Test.YtplomeacjbkgnaaKept
import Derived.Laws.IdiomCopy
namespace Go.Proofs.Ytplomeacjbkgnaa
open Go.RowKit

/-- is it the stay that is looked for? -/
def stayOfP (ticket car : Int) (s : Ch.Stay) : Bool := s.ticket == ticket || (ticket == 0 && s.car.id == car)

/-- the answer as a value -/
def stayV (o : Option Ch.Stay) : Value := .tuple #[stayA (o.getD ⟨0, ⟨0, ⟨0, 0, 0⟩⟩, ⟨0, 0, 0⟩⟩), .bool o.isSome]

theorem ext_setCells {w a : World} {R : Nat} (hR : w.heap.size ≤ R) : ∀ (vs : List Value) (o : Nat) (a : World), Ext w a → Ext w (a.setCells R o vs)
  | [], _, _, h => h
  | v :: r, o, a, h => by
    rw [World.setCells]
    exact ext_setCells (a := a) hR r (o + 1) _ (Ext.setCell h hR v)

/-- eight stores into a block of the call's own -/
theorem put8 {w a : World} {R : Nat} {x0 x1 x2 x3 x4 x5 x6 x7 : Value} (hx : Ext w a) (hR : w.heap.size ≤ R) (hc : ∀ j, j < 8 → (a.cell? ⟨R, j, none⟩).isSome = true) :
    let W := (((((((a.setCell ⟨R, 0, none⟩ x0).setCell ⟨R, 1, none⟩ x1).setCell ⟨R, 2, none⟩ x2).setCell ⟨R, 3, none⟩ x3).setCell ⟨R, 4, none⟩ x4).setCell ⟨R, 5, none⟩ x5).setCell ⟨R, 6, none⟩ x6).setCell ⟨R, 7, none⟩ x7
    W.cell? ⟨R, 0, none⟩ = some x0 ∧ W.cell? ⟨R, 1, none⟩ = some x1 ∧ W.cell? ⟨R, 2, none⟩ = some x2 ∧ W.cell? ⟨R, 3, none⟩ = some x3 ∧ W.cell? ⟨R, 4, none⟩ = some x4 ∧ W.cell? ⟨R, 5, none⟩ = some x5 ∧ W.cell? ⟨R, 6, none⟩ = some x6 ∧ W.cell? ⟨R, 7, none⟩ = some x7 ∧ Ext w W := by
  intro W
  have e : W = a.setCells R 0 [x0, x1, x2, x3, x4, x5, x6, x7] := rfl
  have h := World.cell?_setCells_in R [x0, x1, x2, x3, x4, x5, x6, x7] 0 a (by intro j hj; simpa using hc j (by simpa using hj))
  rw [e]
  refine ⟨?_, ?_, ?_, ?_, ?_, ?_, ?_, ?_, ext_setCells (a := a) hR _ _ _ hx⟩
  · simpa using h 0 (by simp)
  · simpa using h 1 (by simp)
  · simpa using h 2 (by simp)
  · simpa using h 3 (by simp)
  · simpa using h 4 (by simp)
  · simpa using h 5 (by simp)
  · simpa using h 6 (by simp)
  · simpa using h 7 (by simp)

theorem find_next {α : Type} {P : α → Bool} {l : List α} {k : Nat} {x : α} (hx : l[k]? = some x) : (l.drop k).find? P = if P x then some x else (l.drop (k + 1)).find? P := by
  have hk : k < l.length := by
    rcases Nat.lt_or_ge k l.length with h1 | h1
    · exact h1
    · rw [List.getElem?_eq_none h1] at hx; cases hx
  rw [List.drop_eq_getElem_cons hk, List.find?_cons]
  rw [List.getElem?_eq_getElem hk] at hx
  cases hx
  cases P l[k] <;> rfl

set_option maxRecDepth 100000 in
set_option maxHeartbeats 4000000 in
theorem stayOf_any (last ticket car : Int) (a1 : Option Addr) (m1 c1 : Nat) (a2 : Option Addr) (m2 c2 : Nat) (l : List Ch.Stay) (w : World) (h : Sl w 8 stayCells l a1 m1 c1) :
    Calls Try.prog 107 #[bookA last a1 m1 c1 a2 m2 c2, vi ticket, vi car] w fun e w' => e = .returned (stayV (l.find? (stayOfP ticket car))) ∧ Ext w w' := by
  have b1 := h.bound
  have HF := Lib.hid h
  have E1 := Lib.hid h.len
  clear h
  go_enter Try.func107, Try.ntmps107
  go_upto_region 1 with fail
  generalize hW : World.alloc _ _ = w0
  have k0 : w0.cell? ⟨w.heap.size, 0, none⟩ = some (vi last) := by rw [← hW]; simp [go_sem]
  have k1 : w0.cell? ⟨w.heap.size, 1, none⟩ = some (.slice a1 m1 c1) := by rw [← hW]; simp [go_sem]
  have k2 : w0.cell? ⟨w.heap.size, 2, none⟩ = some (.slice a2 m2 c2) := by rw [← hW]; simp [go_sem]
  have r0 : ∀ j, j < 8 → w0.cell? ⟨w.heap.size + 1, j, none⟩ = some (vi 0) := by
    intro j hj
    have : j = 0 ∨ j = 1 ∨ j = 2 ∨ j = 3 ∨ j = 4 ∨ j = 5 ∨ j = 6 ∨ j = 7 := by omega
    rcases this with rfl | rfl | rfl | rfl | rfl | rfl | rfl | rfl <;> (rw [← hW]; simp [go_sem])
  have fz : ∀ i, w0.frozen? ⟨w.heap.size + 1, i, none⟩ = false := by intro i; rw [← hW]; simp [go_sem]
  have hx : Ext w w0 := by rw [← hW]; exact (by simp (maxDischargeDepth := 60))
  have HX := Lib.hid hx
  have HS := Lib.hid (Sl.below HF.out hx.below)
  have z1 := cell_lt k0
  have z2 := cell_lt (r0 0 (by decide))
  have R0 := Lib.hid r0
  have FZ := Lib.hid fz
  clear hW hx HF r0 fz
  go_wp2
  go_loopw [8] (fun i wr => ∃ k : Nat, k ≤ m1 ∧ i = .int .i64 k ∧ Hid (l.find? (stayOfP ticket car) = (l.drop k).find? (stayOfP ticket car)) ∧ Ext w0 wr) (fun i _ => m1 - (intOf i).toNat)
  case atStart => exact ⟨0, by omega, rfl, by simp [Hid], (by simp (maxDischargeDepth := 60))⟩
  case round =>
    obtain ⟨k, hk, rfl, HT, o, m, rfl⟩ := hrel
    by_cases hlt : k < m1
    · obtain ⟨b, q, s, rfl, hs, ds⟩ := HS.out.get hlt
      have HN := Lib.hid (find_next (P := stayOfP ticket car) hs)
      obtain ⟨t, ⟨ci, ⟨cx, cy, cz⟩⟩, ⟨h0, h1, h2⟩⟩ := s
      have ds := at8 ds
      dsimp only at ds
      have hq := cell_lt ds.1
      have hkj : (k : Int) < (m1 : Int) := by omega
      have f0 := FZ.out 0
      have f1 := FZ.out 1
      have f2 := FZ.out 2
      have f3 := FZ.out 3
      have f4 := FZ.out 4
      have f5 := FZ.out 5
      have f6 := FZ.out 6
      have f7 := FZ.out 7
      have r0 := R0.out 0 (by decide)
      have r1 := R0.out 1 (by decide)
      have r2 := R0.out 2 (by decide)
      have r3 := R0.out 3 (by decide)
      have r4 := R0.out 4 (by decide)
      have r5 := R0.out 5 (by decide)
      have r6 := R0.out 6 (by decide)
      have r7 := R0.out 7 (by decide)
      clear hs
      cases e1 : (t == ticket)
      · cases e2 : (ticket == 0)
        · have HR : Hid (stayOfP ticket car ⟨t, ⟨ci, ⟨cx, cy, cz⟩⟩, ⟨h0, h1, h2⟩⟩ = false) := by unfold Hid stayOfP; dsimp only; rw [e1, e2]; rfl
          go_wp2
          go_roundw
          case rel => first | exact ⟨k + 1, by omega, by go_num, by unfold Hid; rw [HT.out, HN.out, HR.out]; rfl, (by simp (maxDischargeDepth := 60))⟩ | (repeat apply Exists.intro; refine ⟨?_, rfl⟩; exact ⟨k + 1, by omega, by go_num, by unfold Hid; rw [HT.out, HN.out, HR.out]; rfl, (by simp (maxDischargeDepth := 60))⟩)
          case measure => simp [intOf]; omega
        · obtain rfl : ticket = 0 := by simpa using e2
          have hz : ((0 : Int) == 0) = true := rfl
          clear e2
          cases e3 : (ci == car)
          · have HR : Hid (stayOfP 0 car ⟨t, ⟨ci, ⟨cx, cy, cz⟩⟩, ⟨h0, h1, h2⟩⟩ = false) := by unfold Hid stayOfP; dsimp only; rw [e1, e3]; rfl
            go_wp2
            go_roundw
            case rel => first | exact ⟨k + 1, by omega, by go_num, by unfold Hid; rw [HT.out, HN.out, HR.out]; rfl, (by simp (maxDischargeDepth := 60))⟩ | (repeat apply Exists.intro; refine ⟨?_, rfl⟩; exact ⟨k + 1, by omega, by go_num, by unfold Hid; rw [HT.out, HN.out, HR.out]; rfl, (by simp (maxDischargeDepth := 60))⟩)
            case measure => simp [intOf]; omega
          · have HR : Hid (stayOfP 0 car ⟨t, ⟨ci, ⟨cx, cy, cz⟩⟩, ⟨h0, h1, h2⟩⟩ = true) := by unfold Hid stayOfP; dsimp only; rw [e1, e3]; rfl
            obtain rfl : ci = car := by simpa using e3
            clear e3
            go_upto_region 6 with fail
            generalize hW : World.alloc _ _ = wq
            generalize hD : w0.heap.size + o.size = D
            have hxq : Ext w0 wq := by rw [← hW]; exact (by simp (maxDischargeDepth := 60))
            have d0 : wq.cell? ⟨D, 0, none⟩ = some (vi t) := by rw [← hW, ← hD]; simp [go_sem]
            have d1 : wq.cell? ⟨D, 1, none⟩ = some (vi ci) := by rw [← hW, ← hD]; simp [go_sem]
            have d2 : wq.cell? ⟨D, 2, none⟩ = some (vi cx) := by rw [← hW, ← hD]; simp [go_sem]
            have d3 : wq.cell? ⟨D, 3, none⟩ = some (vi cy) := by rw [← hW, ← hD]; simp [go_sem]
            have d4 : wq.cell? ⟨D, 4, none⟩ = some (vi cz) := by rw [← hW, ← hD]; simp [go_sem]
            have d5 : wq.cell? ⟨D, 5, none⟩ = some (vi h0) := by rw [← hW, ← hD]; simp [go_sem]
            have d6 : wq.cell? ⟨D, 6, none⟩ = some (vi h1) := by rw [← hW, ← hD]; simp [go_sem]
            have d7 : wq.cell? ⟨D, 7, none⟩ = some (vi h2) := by rw [← hW, ← hD]; simp [go_sem]
            have g0 := ext_cell hxq r0
            have g1 := ext_cell hxq r1
            have g2 := ext_cell hxq r2
            have g3 := ext_cell hxq r3
            have g4 := ext_cell hxq r4
            have g5 := ext_cell hxq r5
            have g6 := ext_cell hxq r6
            have g7 := ext_cell hxq r7
            have y0 := xfree hxq z2 f0
            have y1 := xfree hxq z2 f1
            have y2 := xfree hxq z2 f2
            have y3 := xfree hxq z2 f3
            have y4 := xfree hxq z2 f4
            have y5 := xfree hxq z2 f5
            have y6 := xfree hxq z2 f6
            have y7 := xfree hxq z2 f7
            have hRc : ∀ j, j < 8 → (wq.cell? ⟨w.heap.size + 1, j, none⟩).isSome = true := fun j hj => by rw [ext_cell hxq (R0.out j hj)]; rfl
            have HQ := Lib.hid hRc
            have HXQ := Lib.hid (HX.out.trans hxq)
            clear hW hD hxq hRc k0 k1 k2 r0 r1 r2 r3 r4 r5 r6 r7 f0 f1 f2 f3 f4 f5 f6 f7 ds hq z1 z2
            go_wp2
            obtain ⟨p0, p1, p2, p3, p4, p5, p6, p7, px⟩ := put8 (w := w) (a := wq) (R := w.heap.size + 1) (x0 := vi t) (x1 := vi ci) (x2 := vi cx) (x3 := vi cy) (x4 := vi cz) (x5 := vi h0) (x6 := vi h1) (x7 := vi h2) HXQ.out (by omega) HQ.out
            exact bodyPost_ret (v := .tuple #[.agg #[vi t, vi ci, vi cx, vi cy, vi cz, vi h0, vi h1, vi h2], .bool true]) (by simp [results, Try.results107, go_sem, p0, p1, p2, p3, p4, p5, p6, p7]) rfl ⟨by rw [HT.out, HN.out, HR.out]; rfl, px⟩
      · have HR : Hid (stayOfP ticket car ⟨t, ⟨ci, ⟨cx, cy, cz⟩⟩, ⟨h0, h1, h2⟩⟩ = true) := by unfold Hid stayOfP; dsimp only; rw [e1]; rfl
        obtain rfl : t = ticket := by simpa using e1
        clear e1
        go_upto_region 6 with fail
        generalize hW : World.alloc _ _ = wq
        generalize hD : w0.heap.size + o.size = D
        have hxq : Ext w0 wq := by rw [← hW]; exact (by simp (maxDischargeDepth := 60))
        have d0 : wq.cell? ⟨D, 0, none⟩ = some (vi t) := by rw [← hW, ← hD]; simp [go_sem]
        have d1 : wq.cell? ⟨D, 1, none⟩ = some (vi ci) := by rw [← hW, ← hD]; simp [go_sem]
        have d2 : wq.cell? ⟨D, 2, none⟩ = some (vi cx) := by rw [← hW, ← hD]; simp [go_sem]
        have d3 : wq.cell? ⟨D, 3, none⟩ = some (vi cy) := by rw [← hW, ← hD]; simp [go_sem]
        have d4 : wq.cell? ⟨D, 4, none⟩ = some (vi cz) := by rw [← hW, ← hD]; simp [go_sem]
        have d5 : wq.cell? ⟨D, 5, none⟩ = some (vi h0) := by rw [← hW, ← hD]; simp [go_sem]
        have d6 : wq.cell? ⟨D, 6, none⟩ = some (vi h1) := by rw [← hW, ← hD]; simp [go_sem]
        have d7 : wq.cell? ⟨D, 7, none⟩ = some (vi h2) := by rw [← hW, ← hD]; simp [go_sem]
        have g0 := ext_cell hxq r0
        have g1 := ext_cell hxq r1
        have g2 := ext_cell hxq r2
        have g3 := ext_cell hxq r3
        have g4 := ext_cell hxq r4
        have g5 := ext_cell hxq r5
        have g6 := ext_cell hxq r6
        have g7 := ext_cell hxq r7
        have y0 := xfree hxq z2 f0
        have y1 := xfree hxq z2 f1
        have y2 := xfree hxq z2 f2
        have y3 := xfree hxq z2 f3
        have y4 := xfree hxq z2 f4
        have y5 := xfree hxq z2 f5
        have y6 := xfree hxq z2 f6
        have y7 := xfree hxq z2 f7
        have hRc : ∀ j, j < 8 → (wq.cell? ⟨w.heap.size + 1, j, none⟩).isSome = true := fun j hj => by rw [ext_cell hxq (R0.out j hj)]; rfl
        have HQ := Lib.hid hRc
        have HXQ := Lib.hid (HX.out.trans hxq)
        clear hW hD hxq hRc k0 k1 k2 r0 r1 r2 r3 r4 r5 r6 r7 f0 f1 f2 f3 f4 f5 f6 f7 ds hq z1 z2
        go_wp2
        obtain ⟨p0, p1, p2, p3, p4, p5, p6, p7, px⟩ := put8 (w := w) (a := wq) (R := w.heap.size + 1) (x0 := vi t) (x1 := vi ci) (x2 := vi cx) (x3 := vi cy) (x4 := vi cz) (x5 := vi h0) (x6 := vi h1) (x7 := vi h2) HXQ.out (by omega) HQ.out
        exact bodyPost_ret (v := .tuple #[.agg #[vi t, vi ci, vi cx, vi cy, vi cz, vi h0, vi h1, vi h2], .bool true]) (by simp [results, Try.results107, go_sem, p0, p1, p2, p3, p4, p5, p6, p7]) rfl ⟨by rw [HT.out, HN.out, HR.out]; rfl, px⟩
    · have hkm : k = m1 := by omega
      subst hkm
      have f0 := FZ.out 0
      have f1 := FZ.out 1
      have f2 := FZ.out 2
      have f3 := FZ.out 3
      have f4 := FZ.out 4
      have f5 := FZ.out 5
      have f6 := FZ.out 6
      have f7 := FZ.out 7
      have r0 := R0.out 0 (by decide)
      have r1 := R0.out 1 (by decide)
      have r2 := R0.out 2 (by decide)
      have r3 := R0.out 3 (by decide)
      have r4 := R0.out 4 (by decide)
      have r5 := R0.out 5 (by decide)
      have r6 := R0.out 6 (by decide)
      have r7 := R0.out 7 (by decide)
      go_wp2
      obtain ⟨p0, p1, p2, p3, p4, p5, p6, p7, px⟩ := put8 (w := w) (a := w0.plus o m) (R := w.heap.size + 1) (x0 := vi 0) (x1 := vi 0) (x2 := vi 0) (x3 := vi 0) (x4 := vi 0) (x5 := vi 0) (x6 := vi 0) (x7 := vi 0) (HX.out.trans (by simp (maxDischargeDepth := 60))) (by omega) (fun j hj => by rw [ext_cell (w := w0) (by simp (maxDischargeDepth := 60)) (R0.out j hj)]; rfl)
      exact bodyPost_ret (v := .tuple #[.agg #[vi 0, vi 0, vi 0, vi 0, vi 0, vi 0, vi 0, vi 0], .bool false]) (by simp [results, Try.results107, go_sem, p0, p1, p2, p3, p4, p5, p6, p7]) rfl ⟨by rw [HT.out, List.drop_of_length_le (by have := E1.out; omega)]; rfl, px⟩
end Go.Proofs.Ytplomeacjbkgnaa
