/-
  The walks of the library's slices.Clone at stays and jobs: a fresh list of the same.
-/
import Derived.Test.YtplomeacjbkgnaaSlices
import Derived.WalkSpells
namespace Go.Proofs.Ytplomeacjbkgnaa
open Go.RowKit

theorem flat_at {α : Type} {enc : α → List Value} {c : Nat} (he : ∀ x, (enc x).length = c) : ∀ {l : List α} {j : Nat} {u : Value}, (l.flatMap enc)[j]? = some u → ∃ i x r, l[i]? = some x ∧ (enc x)[r]? = some u ∧ j = i * c + r
  | [], j, u, h => by simp at h
  | y :: l, j, u, h => by
    simp only [List.flatMap_cons] at h
    by_cases hj : j < c
    · rw [List.getElem?_append_left (by rw [he]; exact hj)] at h
      exact ⟨0, y, j, rfl, h, by simp⟩
    · rw [List.getElem?_append_right (by rw [he]; omega), he] at h
      obtain ⟨i, x, r, h1, h2, h3⟩ := flat_at he h
      exact ⟨i + 1, x, r, h1, h2, by rw [Nat.add_mul]; omega⟩

/-- the cells of a list, from its head on -/
theorem Sl.cells {α : Type} {w : World} {c : Nat} {enc : α → List Value} {l : List α} {b o n cap : Nat} (h : Sl w c enc l (some ⟨b, o, none⟩) n cap) (he : ∀ x, (enc x).length = c) :
    ∀ j u, (l.flatMap enc)[j]? = some u → w.cell? ((⟨b, o, none⟩ : Addr).add j) = some u := by
  intro j u hu
  obtain ⟨i, x, r, h1, h2, rfl⟩ := flat_at he hu
  have hi : i < n := by
    have := h.len
    by_cases hi : i < l.length
    · omega
    · rw [List.getElem?_eq_none (by omega)] at h1; cases h1
  obtain ⟨x', hx', f⟩ := h.get' hi
  obtain rfl : x' = x := Option.some.inj (hx'.symm.trans h1)
  have := f r u h2
  have e : (⟨b, o, none⟩ : Addr).add (i * c + r) = ⟨b, o + i * c + r, none⟩ := by
    unfold Addr.add
    split <;> simp_all <;> omega
  rw [e]
  exact this

theorem flat_len {α : Type} {enc : α → List Value} {c : Nat} (he : ∀ x, (enc x).length = c) (l : List α) : (l.flatMap enc).length = l.length * c := by
  induction l with
  | nil => simp
  | cons x l ih => simp [ih, he, Nat.add_mul]; omega

theorem infoStay : (Try.prog.info? 149).map (fun i => (i.zero, i.size, i.bytes)) = some (some (.agg #[vi 0, vi 0, vi 0, vi 0, vi 0, vi 0, vi 0, vi 0]), 8, 64) := by kernel_rfl

theorem infoJob : (Try.prog.info? 94).map (fun i => (i.zero, i.size, i.bytes)) = some (some (.agg #[vi 0, .bool false]), 2, 16) := by kernel_rfl

set_option maxRecDepth 100000 in
set_option maxHeartbeats 1000000 in
theorem cloneStay_any (a : Option Addr) (n cap : Nat) (l : List Ch.Stay) (w : World) (h : Sl w 8 stayCells l a n cap) (hn : n ≤ 1000) :
    Calls Try.prog 139 #[.slice a n cap] w fun e w' => ∃ v, e = .returned v ∧ w'.ownsRow w.heap.size 149 8 v n (l.flatMap stayCells) ∧ Ext w w' := by
  obtain ⟨i0, hi, hz0, hz1, hz2⟩ := info_parts infoStay
  have hb := h.bound
  have HF := Lib.hid h
  have HL := Lib.hid h.len
  clear h
  cases a with
  | none =>
    have h0 : n = 0 := by
      by_cases h0 : n = 0
      · exact h0
      · obtain ⟨_, _, _, e, _⟩ := HF.out.get (k := 0) (by omega); cases e
    subst h0
    have hl : l = [] := by have := HL.out; cases l <;> simp_all
    subst hl
    have hq := fun (w : World) => Lib.run_eql_slice_nil (P := Try.prog) w
    go_enter Try.func139, Try.ntmps139
    go_wp2
    go_ret
    exact ⟨_, rfl, World.ownsRow_nil _ _ _ _, (by simp (maxDischargeDepth := 60))⟩
  | some ad =>
    have hq : ∀ w, (Go.binOp .eql 73 (.slice (some ad) n cap) (.slice none 0 0)).run Try.prog w = .ok (.bool false) w := fun w => Lib.run_eql_slice_nil w _ _ _ _ _ _ _ Try.underlying73
    have hnews : ∀ j u, (l.flatMap stayCells)[j]? = some u → (w.alloc (.cells #[] 149)).cell? (ad.add j) = some u := by
      by_cases h0 : n = 0
      · have hl : l = [] := by have := HL.out; cases l <;> simp_all
        subst hl
        intro j u hj; simp at hj
      · obtain ⟨b, o, x, e, hx, _⟩ := HF.out.get (k := 0) (by omega)
        cases e
        exact Sl.cells (Sl.alloc HF.out _) (fun _ => rfl)
    have hone : ∀ u ∈ l.flatMap stayCells, u.oneCell' = true := by
      intro u hu
      obtain ⟨y, _, hy⟩ := List.mem_flatMap.1 hu
      simp only [stayCells, List.mem_cons, List.not_mem_nil, or_false] at hy
      rcases hy with rfl | rfl | rfl | rfl | rfl | rfl | rfl | rfl <;> rfl
    have HN := Lib.hid hnews
    have HO := Lib.hid hone
    clear hnews hone
    go_enter Try.func139, Try.ntmps139
    go_wp2_with (at_builtin; refine wpList_append_own _ rfl _ _ _ rfl w.heap.size 149 i0 _ 8 64 Try.underlying73 hi hz0 hz1 hz2 rfl (by decide) _ 0 [] rfl (owns_new w 149 8 0 #[] rfl (by decide)) ad n cap (l.flatMap stayCells) rfl (by rw [flat_len (c := 8) (fun _ => rfl), HL.out]) HN.out HO.out (by unfold maxLen; omega) (by omega) (by simp) ?_; intro v' w1 hown hgrow hnil; obtain ⟨o1, n1, rfl⟩ := ext_grown (w := w) (by simp (maxDischargeDepth := 60)) hgrow (by intro k hk; cases hk; exact Nat.le_refl _))
    go_ret
    exact ⟨_, rfl, by simpa using hown, (by simp (maxDischargeDepth := 60))⟩



set_option maxRecDepth 100000 in
set_option maxHeartbeats 1000000 in
theorem cloneJob_any (a : Option Addr) (n cap : Nat) (l : List Ch.Job) (w : World) (h : Sl w 2 jobCells l a n cap) (hn : n ≤ 1000) :
    Calls Try.prog 140 #[.slice a n cap] w fun e w' => ∃ v, e = .returned v ∧ w'.ownsRow w.heap.size 94 2 v n (l.flatMap jobCells) ∧ Ext w w' := by
  obtain ⟨i0, hi, hz0, hz1, hz2⟩ := info_parts infoJob
  have hb := h.bound
  have HF := Lib.hid h
  have HL := Lib.hid h.len
  clear h
  cases a with
  | none =>
    have h0 : n = 0 := by
      by_cases h0 : n = 0
      · exact h0
      · obtain ⟨_, _, _, e, _⟩ := HF.out.get (k := 0) (by omega); cases e
    subst h0
    have hl : l = [] := by have := HL.out; cases l <;> simp_all
    subst hl
    have hq := fun (w : World) => Lib.run_eql_slice_nil (P := Try.prog) w
    go_enter Try.func140, Try.ntmps140
    go_wp2
    go_ret
    exact ⟨_, rfl, World.ownsRow_nil _ _ _ _, (by simp (maxDischargeDepth := 60))⟩
  | some ad =>
    have hq : ∀ w, (Go.binOp .eql 74 (.slice (some ad) n cap) (.slice none 0 0)).run Try.prog w = .ok (.bool false) w := fun w => Lib.run_eql_slice_nil w _ _ _ _ _ _ _ Try.underlying74
    have hnews : ∀ j u, (l.flatMap jobCells)[j]? = some u → (w.alloc (.cells #[] 94)).cell? (ad.add j) = some u := by
      by_cases h0 : n = 0
      · have hl : l = [] := by have := HL.out; cases l <;> simp_all
        subst hl
        intro j u hj; simp at hj
      · obtain ⟨b, o, x, e, hx, _⟩ := HF.out.get (k := 0) (by omega)
        cases e
        exact Sl.cells (Sl.alloc HF.out _) (fun _ => rfl)
    have hone : ∀ u ∈ l.flatMap jobCells, u.oneCell' = true := by
      intro u hu
      obtain ⟨y, _, hy⟩ := List.mem_flatMap.1 hu
      simp only [jobCells, List.mem_cons, List.not_mem_nil, or_false] at hy
      rcases hy with rfl | rfl <;> rfl
    have HN := Lib.hid hnews
    have HO := Lib.hid hone
    clear hnews hone
    go_enter Try.func140, Try.ntmps140
    go_wp2_with (at_builtin; refine wpList_append_own _ rfl _ _ _ rfl w.heap.size 94 i0 _ 2 16 Try.underlying74 hi hz0 hz1 hz2 rfl (by decide) _ 0 [] rfl (owns_new w 94 2 0 #[] rfl (by decide)) ad n cap (l.flatMap jobCells) rfl (by rw [flat_len (c := 2) (fun _ => rfl), HL.out]) HN.out HO.out (by unfold maxLen; omega) (by omega) (by simp) ?_; intro v' w1 hown hgrow hnil; obtain ⟨o1, n1, rfl⟩ := ext_grown (w := w) (by simp (maxDischargeDepth := 60)) hgrow (by intro k hk; cases hk; exact Nat.le_refl _))
    go_ret
    exact ⟨_, rfl, by simpa using hown, (by simp (maxDischargeDepth := 60))⟩


end Go.Proofs.Ytplomeacjbkgnaa
