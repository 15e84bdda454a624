/-
  The walk of plant.Has: a car is looked for among all places.
-/
import Derived.Test.YtplomeacjbkgnaaPlant
import Derived.Maps.RangeRun
import Derived.Maps.Range
namespace Go.Proofs.Ytplomeacjbkgnaa
open Go.RowKit

theorem getIn_mem : ∀ {l : List Slot}, (l.map fun e => e.1).Nodup → ∀ {e : Slot}, e ∈ l → getIn e.1 l = e.2.1
  | [], _, e, h => by cases h
  | y :: l, hn, e, h => by
    obtain ⟨h1, h2⟩ := List.nodup_cons.1 hn
    rcases List.mem_cons.1 h with rfl | h
    · simp [getIn]
    · have : e.1 ≠ y.1 := fun c => h1 (by show y.1 ∈ _; rw [← c]; exact List.mem_map.2 ⟨e, h, rfl⟩)
      simp only [getIn, if_neg this]
      exact getIn_mem h2 h

theorem getIn_some {x : Ch.Place} : ∀ {l : List Slot}, getIn x l ≠ 0 → ∃ e ∈ l, e.1 = x ∧ e.2.1 = getIn x l
  | [], h => absurd rfl h
  | y :: l, h => by
    by_cases hx : x = y.1
    · exact ⟨y, by simp, hx.symm, by simp [getIn, hx]⟩
    · simp only [getIn, if_neg hx] at h ⊢
      obtain ⟨e, h1, h2, h3⟩ := getIn_some h
      exact ⟨e, by simp [h1], h2, h3⟩

theorem has_list {w : World} {mb : Nat} {l : List Slot} {clock : Nat} {p : Ch.Plant} (h : Slots w mb l clock p.slots) (hp : p.WF) (id : Int) : p.has id = (l.any (fun e => e.2.1 == id) || p.lift == id || p.bay == id) := by
  unfold Ch.Plant.has
  congr 2
  rw [Bool.eq_iff_iff]
  simp only [Bool.and_eq_true, bne_iff_ne, List.any_eq_true, beq_iff_eq]
  constructor
  · rintro ⟨h0, x, _, hx⟩
    obtain ⟨e, h1, h2, h3⟩ := getIn_some (x := x) (l := l) (by rw [h.is, hx]; exact h0)
    exact ⟨e, h1, by rw [h3, h.is, hx]⟩
  · rintro ⟨e, he, hv⟩
    have h1 := getIn_mem h.once he
    rw [h.is] at h1
    have h0 := h.full e he
    refine ⟨by rw [← hv]; exact h0, e.1, ?_, by rw [h1]; exact hv⟩
    rw [Ch.mem_allPlaces]
    exact hp.sl e.1 (by rw [h1]; exact h0)

/-- so far the car has not come -/
def NotYet (l : List Slot) (id : Int) (seen : Array Nat) : Prop := ∀ e ∈ l, seen.contains e.2.2 = true → e.2.1 ≠ id

theorem born_inj : ∀ {l : List Slot}, (l.map fun e => e.2.2).Nodup → ∀ {a b : Slot}, a ∈ l → b ∈ l → a.2.2 = b.2.2 → a = b
  | [], _, a, _, h, _, _ => by cases h
  | y :: l, hn, a, b, ha, hb, e => by
    obtain ⟨h1, h2⟩ := List.nodup_cons.1 hn
    rcases List.mem_cons.1 ha with rfl | ha' <;> rcases List.mem_cons.1 hb with rfl | hb'
    · rfl
    · exact absurd (List.mem_map.2 ⟨b, hb', e.symm⟩) h1
    · exact absurd (List.mem_map.2 ⟨a, ha', e⟩) h1
    · exact born_inj h2 ha' hb' e

set_option maxRecDepth 100000 in
set_option maxHeartbeats 2000000 in
theorem has_any {pb mb : Nat} {p : Ch.Plant} {w : World} (h : PlantAt w pb mb p) (hp : p.WF) (id : Int) :
    Calls Try.prog 82 #[.pointer (some ⟨pb, 0, none⟩), vi id] w fun r w' => r = .returned (.bool (p.has id)) ∧ Ext w w' := by
  obtain ⟨c0, c1, c2, c3, c4, c5, c6, c7, c8, c9⟩ := h.cells
  have hb := cell_lt c1
  obtain ⟨l, k, hs⟩ := h.slots
  have HL := Lib.hid (has_list hs hp id)
  have HP := Lib.hid h
  have HS := Lib.hid hs
  have hrg := run_range_map (P := Try.prog) w 163 _ _ mb _ k mapType hs.heap
  have HM := Lib.hid hs.heap
  clear h hs
  go_enter Try.func82, Try.ntmps82
  go_wp2
  clear hrg
  go_loopw [12] (fun _ wr => ∃ seen, wr.heap[w.heap.size]? = some (.mapIter (some mb) k seen k) ∧ Below w.heap.size w wr ∧ NotYet l id seen) (fun _ wr => wr.rangeLeft mb w.heap.size)
  case atStart => exact ⟨#[], heap_alloc_new w _, (Below.refl _ _).alloc (Nat.le_refl _) _, fun e _ h => by simp at h⟩
  case round =>
    obtain ⟨seen, hr, hk, hny⟩ := hrel
    have hbm : wr.heap[mb]? = some (.map (l.map ent).toArray k) := (hk.block mb HS.out.lt).trans HM.out
    have hc : ∀ i v, w.cell? ⟨pb, i, none⟩ = some v → wr.cell? ⟨pb, i, none⟩ = some v := fun i v hv => (hk.cell (p := ⟨pb, i, none⟩) hb).trans hv
    have d5 := hc _ _ c5
    have d6 := hc _ _ c6
    have hold : ∀ x ∈ (l.map ent).toArray.toList, x.born < k := fun x hx => by
      simp only [List.mem_map] at hx
      obtain ⟨s, h1, rfl⟩ := hx
      exact HS.out.clock s h1
    have HK := Lib.hid hk
    have HN := Lib.hid hny
    have HR := Lib.hid hr
    have HB := Lib.hid hbm
    rcases run_next_at (P := Try.prog) wr 0 w.heap.size mb k k seen _ k hr hbm hold (Nat.le_refl _) with ⟨h0, hrun⟩ | ⟨e, he, w1, hal, hrun⟩
    · have hany : (l.any fun e => e.2.1 == id) = false := by
        rw [List.any_eq_false]
        intro s h1
        have := all_seen _ seen h0 (ent s) (by simp only [List.mem_map]; exact ⟨s, h1, rfl⟩)
        simpa using hny s h1 this
      have HA := Lib.hid hany
      clear hold hc hk hny hr hbm hany h0 c0 c1 c2 c3 c4 c5 c6 c7 c8 c9
      go_wp2
      all_goals
        go_ret
        go_light
        refine ⟨?_, Ext.of_below HK.out⟩
        rw [HL.out, HA.out]
        simp [*]
    · have hem := mem_left he
      have hsh := left_shrinks _ seen e he
      obtain ⟨s, h1, rfl⟩ : ∃ s ∈ l, ent s = e := by
        have := hem.1
        simp only [List.mem_map] at this
        exact this
      have hbn : ((l.map ent).toArray.toList.map (·.born)).Nodup := by
        have := HS.out.born
        simp only [List.map_map]
        exact this
      have hset : ∀ w1 : World, (w1 = wr ∨ w1 = wr.drew) → (ChangeMaps.setBlock w1 w.heap.size (.mapIter (some mb) k (seen.push s.2.2) k)).heap[w.heap.size]? = some (.mapIter (some mb) k (seen.push s.2.2) k) ∧
          (ChangeMaps.setBlock w1 w.heap.size (.mapIter (some mb) k (seen.push s.2.2) k)).heap[mb]? = some (.map (l.map ent).toArray k) ∧ Below w.heap.size w (ChangeMaps.setBlock w1 w.heap.size (.mapIter (some mb) k (seen.push s.2.2) k)) := by
        intro w1 hw
        have hh : w1.heap = wr.heap := by rcases hw with rfl | rfl <;> rfl
        have ho : w1.os = wr.os ∧ w1.tape = wr.tape ∧ w1.output = wr.output := by rcases hw with rfl | rfl <;> exact ⟨rfl, rfl, rfl⟩
        have hlt : w.heap.size < wr.heap.size := by
          by_cases hz : w.heap.size < wr.heap.size
          · exact hz
          · rw [Array.getElem?_eq_none (by omega)] at hr; cases hr
        have hm := HS.out.lt
        refine ⟨?_, ?_, ?_⟩
        · simp only [ChangeMaps.setBlock, hh]; simp [hlt]
        · simp only [ChangeMaps.setBlock, hh]
          rw [Array.getElem?_setIfInBounds_ne (by omega)]
          exact hbm
        · refine ⟨ho.1.trans hk.os, ho.2.1.trans hk.tape, ho.2.2.trans hk.output, ?_, ?_⟩
          · simp only [ChangeMaps.setBlock, hh, Array.size_setIfInBounds]; exact hk.size
          · intro i hi
            simp only [ChangeMaps.setBlock, hh]
            rw [Array.getElem?_setIfInBounds_ne (by omega)]
            exact hk.block i hi
      obtain ⟨q1, q2, q3⟩ := hset w1 hal
      have hent := run_entry_at (P := Try.prog) (ChangeMaps.setBlock w1 w.heap.size (.mapIter (some mb) k (seen.push s.2.2) k)) w.heap.size mb k seen (l.map ent).toArray k (ent s) q1 q2 hem.1 hbn
      have Q1 := Lib.hid q1
      have Q2 := Lib.hid q2
      have Q3 := Lib.hid q3
      have HH := Lib.hid hsh
      have H1 := Lib.hid h1
      have HE := Lib.hid hem.2
      clear hold hc hk hny hr hbm c0 c1 c2 c3 c4 c5 c6 c7 c8 c9 hset hbn hem hsh q1 q2 q3 he hal h1
      rw [show (ent s).key = placeA s.1 from rfl, show (ent s).val = vi s.2.1 from rfl] at hrun hent
      rw [show (ent s).born = s.2.2 from rfl] at hrun
      by_cases hv : s.2.1 = id
      · have HV := Lib.hid hv
        have ev : (s.2.1 == id) = true := by simpa using hv
        clear hv
        go_wp2
        go_ret
        refine ⟨?_, Ext.of_below Q3.out⟩
        rw [HL.out, List.any_eq_true.2 ⟨s, H1.out, by simpa using HV.out⟩]
        rfl
      · have HV := Lib.hid hv
        have ev : (s.2.1 == id) = false := by simpa using hv
        clear hv
        go_wp2
        go_roundw
        case rel =>
          refine ⟨seen.push s.2.2, Q1.out, Q3.out, ?_⟩
          intro e he hc
          simp only [Array.contains_push, Bool.or_eq_true, beq_iff_eq] at hc
          rcases hc with hc | hc
          · exact HN.out e he hc
          · have : e = s := by
              have := HS.out.born
              exact born_inj this he H1.out hc
            rw [this]; exact HV.out
        case measure =>
          have a1 := Q1.out
          have a2 := Q2.out
          have a3 := HR.out
          have a4 := HB.out
          simp only [World.rangeLeft, a1, a2, a3, a4]
          exact HH.out

end Go.Proofs.Ytplomeacjbkgnaa
