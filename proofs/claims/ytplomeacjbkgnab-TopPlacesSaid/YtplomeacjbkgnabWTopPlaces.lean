/-
  The walk of TopPlaces.
-/
import Derived.Test.YtplomeacjbkgnabPlaces
namespace Go.Proofs.Ytplomeacjbkgnab
open Go.RowKit

/-- what is asked of the list of places -/
def placesGood (levels : Int) (l : List Ch.Place) : Bool :=
  (l.zipIdx.all fun x => Ch.placeFault x.1 levels == 0 && x.1 != Ch.spare levels && Ch.front x.1 != Ch.spare levels && x.1.depth == 1 - (x.2 : Int) % 2) && decide l.Nodup

theorem places_good (levels : Int) (h1 : 1 ≤ levels) (h2 : levels ≤ 4) : placesGood levels (Ch.places levels) = true ∧ ((Ch.places levels).length : Int) = 4 * levels - 2 ∧ Ch.placeFault (Ch.spare levels) levels = 0 := by
  have : levels = 1 ∨ levels = 2 ∨ levels = 3 ∨ levels = 4 := by omega
  rcases this with rfl | rfl | rfl | rfl <;> decide

theorem places_at {levels : Int} {l : List Ch.Place} (h : placesGood levels l = true) {k : Nat} {u : Ch.Place} (hk : l[k]? = some u) :
    Ch.placeFault u levels = 0 ∧ u ≠ Ch.spare levels ∧ Ch.front u ≠ Ch.spare levels ∧ u.depth = 1 - (k : Int) % 2 := by
  unfold placesGood at h
  simp only [Bool.and_eq_true, List.all_eq_true] at h
  have hm : (u, k) ∈ l.zipIdx := by
    rw [List.mem_zipIdx_iff_getElem?]; exact hk
  have := h.1 _ hm
  simp only [Bool.and_eq_true, beq_iff_eq, bne_iff_ne] at this
  exact ⟨this.1.1.1, this.1.1.2, this.1.2, this.2⟩

theorem places_apart {levels : Int} {l : List Ch.Place} (h : placesGood levels l = true) {j k : Nat} {u v : Ch.Place} (hj : l[j]? = some v) (hk : l[k]? = some u) (hlt : j < k) : v ≠ u := by
  unfold placesGood at h
  simp only [Bool.and_eq_true, decide_eq_true_eq] at h
  intro e
  subst e
  have hjl : j < l.length := by
    by_cases hh : j < l.length
    · exact hh
    · rw [List.getElem?_eq_none (by omega)] at hj; cases hj
  have := (List.getElem?_inj hjl h.2).1 (hj.trans hk.symm)
  omega

theorem eqlPlace_no (w : World) {a b : Ch.Place} (h : a ≠ b) : (Go.binOp .eql 25 (placeA a) (placeA b)).run Try.prog w = .ok (.bool false) w := by
  rw [eqlStruct w (eqPlace w 9998 a b)]; simp [h]

theorem eqlPlace_nof (w : World) {a b c a' b' c' : Int} (h : (⟨a, b, c⟩ : Ch.Place) ≠ ⟨a', b', c'⟩) : (Go.binOp .eql 25 (.agg #[vi a, vi b, vi c]) (.agg #[vi a', vi b', vi c'])).run Try.prog w = .ok (.bool false) w :=
  (eqlStruct w (eqPlace w 9998 ⟨a, b, c⟩ ⟨a', b', c'⟩)).trans (by simp [h])

set_option maxRecDepth 100000 in
set_option maxHeartbeats 2000000 in
theorem topPlaces_yes (levels : Int) (w : World) (h1 : 1 ≤ levels) (h2 : levels ≤ 4) : Calls Try.prog 3 #[vi levels] w fun e w' => e = .returned (.bool true) ∧ Ext w w' := by
  obtain ⟨hg, hlen, hsp⟩ := places_good levels h1 h2
  have HG := Lib.hid hg
  have Es : errV (Ch.placeFault ⟨levels, 1, 0⟩ levels) = .nilIface := by show errV (Ch.placeFault (Ch.spare levels) levels) = _; rw [hsp]; rfl
  clear hg hsp
  obtain ⟨L, hL⟩ : ∃ L, L = Ch.places levels := ⟨_, rfl⟩
  rw [← hL] at HG hlen
  have HL := Lib.hid hL
  have HN := Lib.hid hlen
  clear hL hlen
  go_enter Try.func3, Try.ntmps3
  go_wp2_with fail
  refine (places_any 1 _ (by decide) (by decide)).mono ?_
  intro e w1 hn
  obtain ⟨a1, m1, c1, rfl, hs1, o1, n1, rfl⟩ := hn.sl
  have hm1 : m1 = 2 := hs1.len.symm
  subst hm1
  clear hs1 hn
  go_wp2_with fail
  refine (places_any levels _ h1 h2).mono ?_
  intro e w1 hn
  obtain ⟨a2, n, c2, rfl, hs, o2, n2, rfl⟩ := hn.sl
  rw [← HL.out] at hs
  clear hn
  have HS := Lib.hid hs
  have hb := hs.bound
  have hl := hs.len
  have hn0 : (n : Int) = 4 * levels - 2 := by rw [← hl]; exact HN.out
  have hn1 : n ≤ 14 := by omega
  have D1 : ((n : Int) != IntKind.i64.wrap (IntKind.i64.wrap (4 * levels) - 2)) = false := by
    rw [IntWalk.i64_in (4 * levels) (by omega), IntWalk.i64_in _ (by omega), hn0]; simp
  have D2 : ((n : Int) != 4 * levels - 2) = false := by rw [hn0]; simp
  have HN0 := Lib.hid hn0
  clear hl hs hn0
  go_wp2_with (first
    | (go_at_call 14; (with_reducible refine (spare_f _ _).mono ?_); rintro e w1 ⟨rfl, o3, n3, rfl⟩)
    | (go_at_call 15; (with_reducible refine (checkPlace_f _ _ _ _ _).mono ?_); rintro e w1 ⟨rfl, o4, n4, rfl⟩))
  generalize hS : w.heap.size + (o1.size + (o2.size + o3.size)) = sp
  generalize hW : World.plus (World.alloc _ _) o4 n4 = wq
  have z0 : wq.cell? ⟨sp, 0, none⟩ = some (vi levels) := by rw [← hW, ← hS]; simp [go_sem]
  have z1 : wq.cell? ⟨sp, 1, none⟩ = some (vi 1) := by rw [← hW, ← hS]; simp [go_sem]
  have z2 : wq.cell? ⟨sp, 2, none⟩ = some (vi 0) := by rw [← hW, ← hS]; simp [go_sem]
  have hx : Ext w wq := by rw [← hW]; exact (by simp (maxDischargeDepth := 60))
  have hz := cell_lt z0
  have HS2 : Hid (Sl wq 3 placeCells L a2 n c2) := by
    have hs := HS.out
    simp only [plus_plus, Array.append_assoc] at hs
    unfold Hid
    rw [← hW]
    exact Sl.ext (Sl.alloc (Sl.pre hs ⟨_, by simp only [Array.append_assoc]; rfl⟩) _) _ _
  have HX := Lib.hid hx
  clear hW hS HS hx
  go_loopw [5] (fun i wr => ∃ k : Nat, k ≤ n ∧ i = .int .i64 k ∧ Ext wq wr) (fun i _ => n - (intOf i).toNat)
  case atStart => exact ⟨0, by omega, rfl, by simp⟩
  case round =>
    obtain ⟨k, hk, rfl, o, m, rfl⟩ := hrel
    by_cases hlt : k < n
    · obtain ⟨p, q, u, rfl, hu, du⟩ := HS2.out.get hlt
      have du := at3 du
      have hp := cell_lt du.1
      have HU := Lib.hid hu
      obtain ⟨g1, g2, g3, g4⟩ := places_at HG.out hu
      have Eu : errV (Ch.placeFault ⟨u.level, u.side, u.depth⟩ levels) = .nilIface := by show errV (Ch.placeFault u levels) = _; rw [g1]; rfl
      have q1 : ∀ w, (Go.binOp .eql 25 (.agg #[vi u.level, vi u.side, vi u.depth]) (.agg #[vi levels, vi 1, vi 0])).run Try.prog w = .ok (.bool false) w := fun w => eqlPlace_nof w g2
      have q2 : ∀ w, (Go.binOp .eql 25 (.agg #[vi u.level, vi u.side, vi 0]) (.agg #[vi levels, vi 1, vi 0])).run Try.prog w = .ok (.bool false) w := fun w => eqlPlace_nof w g3
      have q3 : (u.depth != 1 - (k : Int) % 2) = false := by rw [g4]; simp
      clear hu g1 g2 g3 g4
      go_wp2
      (refine wp_region_ext (by kernel_rfl) (by kernel_rfl) ?_; (repeat (first | go_big_quiet_step ((first | (intro _; go_at_call 15; exact ext_callG (checkPlace_f _ _ _ _ _) (by rintro w' ⟨o', n', rfl⟩; exact ⟨_, n', by (try simp only [plus_plus, Array.append_assoc]); rfl⟩)) | (intro _; go_at_call 16; exact ext_callG (front_f _ _ _ _) (by rintro w' ⟨o', n', rfl⟩; exact ⟨_, n', by (try simp only [plus_plus, Array.append_assoc]); rfl⟩)))) | quiet_step ((first | (intro _; go_at_call 15; exact ext_callG (checkPlace_f _ _ _ _ _) (by rintro w' ⟨o', n', rfl⟩; exact ⟨_, n', by (try simp only [plus_plus, Array.append_assoc]); rfl⟩)) | (intro _; go_at_call 16; exact ext_callG (front_f _ _ _ _) (by rintro w' ⟨o', n', rfl⟩; exact ⟨_, n', by (try simp only [plus_plus, Array.append_assoc]); rfl⟩)))))); refine wpQuiet_nil ?_; intro _ hw'; obtain ⟨oq, nq, hw''⟩ := hw'; subst hw'')
      go_wp2
      go_loopw [6] (fun i wr => ∃ j : Nat, j ≤ k ∧ i = .int .i64 j ∧ Ext wq wr) (fun i _ => k - (intOf i).toNat)
      case atStart => exact ⟨0, by omega, rfl, (by simp (maxDischargeDepth := 60))⟩
      case round =>
        obtain ⟨j, hj, rfl, o', m', rfl⟩ := hrel
        by_cases hjk : j < k
        · obtain ⟨v, hv, dv⟩ := HS2.out.get' (k := j) (by omega)
          have dv := at3 dv
          have q4 : ∀ w, (Go.binOp .eql 25 (.agg #[vi v.level, vi v.side, vi v.depth]) (.agg #[vi u.level, vi u.side, vi u.depth])).run Try.prog w = .ok (.bool false) w := fun w => eqlPlace_nof w (places_apart HG.out hv HU.out hjk)
          clear hv
          go_wp2
          (refine wp_region_ext (by kernel_rfl) (by kernel_rfl) ?_; (repeat (first | go_big_quiet_step (fail) | quiet_step (fail))); refine wpQuiet_nil ?_; intro _ hw'; obtain ⟨oq, nq, hw''⟩ := hw'; subst hw'')
          go_wp2
          go_roundw
          case rel => exact ⟨j + 1, by omega, by go_num, (by simp (maxDischargeDepth := 60))⟩
          case measure => simp [intOf]; omega
        · go_wp2
          go_roundw
          case rel => exact ⟨k + 1, by omega, by go_num, (by simp (maxDischargeDepth := 60))⟩
          case measure => simp [intOf]; omega
    · go_wp2
      go_ret
      exact ⟨rfl, HX.out.plus _ _⟩

set_option maxRecDepth 100000 in
set_option maxHeartbeats 1000000 in
theorem topPlaces_no (levels : Int) (w : World) (h : levels < 1 ∨ 4 < levels) : Calls Try.prog 3 #[vi levels] w fun e w' => e = .returned (.bool true) ∧ Ext w w' := by
  rcases h with h | h <;>
  · go_enter Try.func3, Try.ntmps3
    go_wp2_with fail
    refine (places_any 1 _ (by decide) (by decide)).mono ?_
    intro e w1 hn
    obtain ⟨a1, m1, c1, rfl, hs1, o1, n1, rfl⟩ := hn.sl
    have hm1 : m1 = 2 := hs1.len.symm
    subst hm1
    clear hs1 hn
    go_wp2_with fail
    go_ret
    exact ⟨rfl, (by simp (maxDischargeDepth := 60))⟩

theorem topPlaces_walk (levels : Int) (w : World) : Calls Try.prog 3 #[vi levels] w fun e w' => e = .returned (.bool true) ∧ Ext w w' := by
  by_cases h : 1 ≤ levels ∧ levels ≤ 4
  · exact topPlaces_yes levels w h.1 h.2
  · exact topPlaces_no levels w (by omega)
end Go.Proofs.Ytplomeacjbkgnab
