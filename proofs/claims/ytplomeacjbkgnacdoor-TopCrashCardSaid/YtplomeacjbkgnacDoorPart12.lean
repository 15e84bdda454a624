/-
  Walks of the program's functions, and what they need: ParseLaw, Clone, Copy, Levels, Places.
-/
import Derived.Test.YtplomeacjbkgnacDoorPart05
import Derived.Lib.SplitLaws
import Derived.Test.YtplomeacjbkgnacDoorPart07
import Derived.WalkSpells
import Derived.Test.YtplomeacjbkgnacDoorPart03
import Derived.Deep.RegionHeld3
import Derived.Deep.AppendLies

namespace Ch
open Go

theorem wordsFrom_head (w s : List UInt8) : ∃ h t, wordsFrom [] s = h :: t ∧ wordsFrom w s = (w ++ h) :: t := by
  induction s generalizing w with
  | nil => exact ⟨[], [], rfl, by simp [wordsFrom]⟩
  | cons b s ih =>
    by_cases hb : b = 32
    · exact ⟨[], wordsFrom [] s, by simp [wordsFrom, hb], by simp [wordsFrom, hb]⟩
    · obtain ⟨h1, t1, e1, e2⟩ := ih [b]
      obtain ⟨h2, t2, e3, e4⟩ := ih (w ++ [b])
      rw [e1] at e3
      cases e3
      refine ⟨b :: h1, t1, by simp [wordsFrom, hb, e2], ?_⟩
      simp only [wordsFrom, hb, if_false, e4]
      simp

theorem split_words : ∀ (s : List UInt8) (k : Nat), Lib.count s [32] = k → Lib.splitK [32] 0 k s = wordsFrom [] s := by
  have idx0 : ∀ (b : UInt8) (l : List UInt8), b = 32 → Lib.index (b :: l) [32] = 0 := by
    intro b l hb
    unfold Lib.index
    rw [if_pos]
    simp [List.isPrefixOf, hb]
  have idx1 : ∀ (b : UInt8) (l : List UInt8), b ≠ 32 → Lib.index (b :: l) [32] = if Lib.index l [32] == -1 then -1 else Lib.index l [32] + 1 := by
    intro b l hb
    conv => lhs; unfold Lib.index
    rw [if_neg]
    simp only [List.isPrefixOf]
    simp
    exact fun h => hb h.symm
  intro s
  induction s with
  | nil =>
    intro k hk
    have : Lib.index [] [32] = -1 := rfl
    cases k with
    | zero => rfl
    | succ k => simp [Lib.splitK, this, wordsFrom]
  | cons b s ih =>
    intro k hk
    by_cases hb : b = 32
    · subst hb
      have hc := Lib.count_cons_eq 32 s
      rw [hk] at hc
      obtain ⟨m, rfl⟩ : ∃ m, k = m + 1 := ⟨k - 1, by omega⟩
      have hi := idx0 32 s rfl
      unfold Lib.splitK
      rw [hi]
      simp only [wordsFrom, if_true]
      rw [if_neg (by decide)]
      simp only [Int.toNat_zero, Nat.zero_add, List.take_zero, List.length_cons, List.length_nil, List.drop_one, List.tail_cons]
      rw [ih m (by omega)]
    · have hc := Lib.count_cons_ne b 32 s hb
      rw [hk] at hc
      have hi := idx1 b s hb
      obtain ⟨h, t, e1, e2⟩ := wordsFrom_head [b] s
      simp only [wordsFrom, hb, if_false, List.nil_append]
      rw [e2]
      have ih' := ih k hc.symm
      rw [e1] at ih'
      cases k with
      | zero =>
        simp only [Lib.splitK] at ih' ⊢
        cases ih'
        simp
      | succ m =>
        unfold Lib.splitK at ih' ⊢
        rw [hi]
        by_cases hx : Lib.index s [32] == -1
        · rw [if_pos hx] at ih'
          cases ih'
          rw [if_pos (by simp [hx])]
          simp
        · rw [if_neg hx] at ih'
          have hg := Lib.index_ge s [32]
          have hne : Lib.index s [32] ≠ -1 := by simpa using hx
          cases ih'
          rw [if_neg hx, if_neg (by simp; omega)]
          have e : (Lib.index s [32] + 1).toNat = (Lib.index s [32]).toNat + 1 := by omega
          rw [e]
          simp only [List.length_cons, List.length_nil]
          have e3 : (Lib.index s [32]).toNat + 1 + 0 = (Lib.index s [32]).toNat + 0 + 1 := by omega
          rw [e3, List.take_succ_cons]
          have e4 : (Lib.index s [32]).toNat + 1 + (0 + 1) = (Lib.index s [32]).toNat + (0 + 1) + 1 := by omega
          rw [e4, List.drop_succ_cons]
          rfl

/-- the words as the library parts them -/
def wordsB (s : ByteArray) : List ByteArray := Lib.splitB ⟨#[32]⟩ 0 (Lib.countB s ⟨#[32]⟩) s

theorem wordsB_data (s : ByteArray) : (wordsB s).map (·.data.toList) = wordsOf s.data.toList := by
  unfold wordsB wordsOf
  rw [Lib.splitB_data]
  exact split_words _ _ rfl

theorem wordsB_len (s : ByteArray) : (wordsB s).length = Lib.countB s ⟨#[32]⟩ + 1 := Lib.splitB_all _ (by decide) 0 _ s rfl

theorem countB_size (s : ByteArray) : Lib.countB s ⟨#[32]⟩ ≤ s.size := Lib.countB_le _ (by decide) s.size s (Nat.le_refl _)

/-! ### number by number -/

def numB (x : ByteArray) : Option Int := numOf x.data.toList

theorem numsOf_words (s : ByteArray) : numsOf s.data.toList = (wordsB s).mapM numB := by
  unfold numsOf
  rw [← wordsB_data]
  induction wordsB s with
  | nil => rfl
  | cons x l ih => simp only [List.map_cons, List.mapM_cons, ih]; rfl

theorem mapM_take {l : List ByteArray} {k : Nat} {N : List Int} {x : ByteArray} {v : Int} (h : (l.take k).mapM numB = some N) (hx : l[k]? = some x) (hv : numB x = some v) : (l.take (k + 1)).mapM numB = some (N ++ [v]) := by
  rw [List.take_add_one, hx]
  simp [List.mapM_append, h, hv]

theorem mapM_bad {l : List ByteArray} {k : Nat} {x : ByteArray} (hx : l[k]? = some x) (hv : numB x = none) : l.mapM numB = none := by
  induction l generalizing k with
  | nil => cases hx
  | cons y l ih =>
    simp only [List.mapM_cons]
    cases k with
    | zero =>
      simp at hx; subst hx
      rw [hv]; rfl
    | succ k =>
      simp at hx
      rw [ih hx]
      cases numB y <;> rfl

theorem mapM_range {l : List ByteArray} {N : List Int} (h : l.mapM numB = some N) : ∀ v ∈ N, 0 ≤ v ∧ v ≤ 999999 := by
  induction l generalizing N with
  | nil => simp at h; subst h; intro v hv; cases hv
  | cons y l ih =>
    simp only [List.mapM_cons] at h
    cases hy : numB y with
    | none => rw [hy] at h; cases h
    | some a =>
      rw [hy] at h
      cases hl : l.mapM numB with
      | none => rw [hl] at h; cases h
      | some M =>
        rw [hl] at h
        cases h
        intro v hv
        rcases List.mem_cons.1 hv with rfl | hv
        · have := numOf_iff.1 hy; exact ⟨this.1, this.2.1⟩
        · exact ih hl v hv

theorem mapM_length {l : List ByteArray} {N : List Int} (h : l.mapM numB = some N) : N.length = l.length := by
  induction l generalizing N with
  | nil => simp at h; subst h; rfl
  | cons y l ih =>
    simp only [List.mapM_cons] at h
    cases hy : numB y with
    | none => rw [hy] at h; cases h
    | some a =>
      rw [hy] at h
      cases hl : l.mapM numB with
      | none => rw [hl] at h; cases h
      | some M =>
        rw [hl] at h
        cases h
        simp [ih hl]

/-! ### stays and jobs, one by one -/

def stayAt (N : List Int) (k : Nat) : Stay := ⟨N.getD (3 + 8 * k) 0, ⟨N.getD (3 + 8 * k + 1) 0, ⟨N.getD (3 + 8 * k + 2) 0, N.getD (3 + 8 * k + 3) 0, N.getD (3 + 8 * k + 4) 0⟩⟩, ⟨N.getD (3 + 8 * k + 5) 0, N.getD (3 + 8 * k + 6) 0, N.getD (3 + 8 * k + 7) 0⟩⟩

theorem staysOf_at : ∀ (n : Nat) (M N : List Int) (k : Nat), M = N.drop (3 + 8 * k) → 8 * n ≤ M.length → staysOf n M = (List.range n).map fun i => stayAt N (k + i)
  | 0, _, _, _, _, _ => rfl
  | n + 1, M, N, k, hM, hl => by
    rw [staysOf, staysOf_at n (M.drop 8) N (k + 1) (by rw [hM, List.drop_drop]; first | rfl | (congr 1; omega) | (congr 1)) (by rw [List.length_drop]; omega), List.range_succ_eq_map, List.map_cons, List.map_map]
    congr 1
    · match M, hM, hl with
      | a :: b :: c :: d :: e :: f :: g :: h :: r, hM, hl =>
        have key : ∀ j x, (a :: b :: c :: d :: e :: f :: g :: h :: r)[j]? = some x → N.getD (3 + 8 * k + j) 0 = x := by
          intro j x hx
          rw [hM, List.getElem?_drop] at hx
          rw [List.getD_eq_getElem?_getD, hx]; rfl
        unfold stayAt
        rw [Nat.add_zero, key 1 b rfl, key 2 c rfl, key 3 d rfl, key 4 e rfl, key 5 f rfl, key 6 g rfl, key 7 h rfl]
        have := key 0 a rfl
        rw [Nat.add_zero] at this
        rw [this]; rfl
      | [], _, hl => simp at hl
      | [_], _, hl => simp at hl; omega
      | [_, _], _, hl => simp at hl; omega
      | [_, _, _], _, hl => simp at hl; omega
      | [_, _, _, _], _, hl => simp at hl; omega
      | [_, _, _, _, _], _, hl => simp at hl; omega
      | [_, _, _, _, _, _], _, hl => simp at hl; omega
      | [_, _, _, _, _, _, _], _, hl => simp at hl; omega
    · apply List.map_congr_left
      intro i _
      show stayAt N (k + 1 + i) = stayAt N (k + (i + 1))
      rw [show k + 1 + i = k + (i + 1) by omega]

/-- the jobs of the numbers from 'at' on -/
def jobAtN (N : List Int) (a : Nat) : Job := ⟨N.getD a 0, N.getD (a + 1) 0 == 1⟩

theorem jobsOf_at : ∀ (n : Nat) (M N : List Int) (a : Nat), M = N.drop a → 2 * n ≤ M.length → jobsOf n M = if (∀ i < n, N.getD (a + 2 * i + 1) 0 ≤ 1) then some ((List.range n).map fun i => jobAtN N (a + 2 * i)) else none
  | 0, _, _, _, _, _ => by simp [jobsOf]
  | n + 1, M, N, a, hM, hl => by
    match M, hM, hl with
    | t :: f :: r, hM, hl =>
      have key : ∀ j x, (t :: f :: r)[j]? = some x → N.getD (a + j) 0 = x := by
        intro j x hx
        rw [hM, List.getElem?_drop] at hx
        rw [List.getD_eq_getElem?_getD, hx]; rfl
      have k0 := key 0 t rfl
      have k1 := key 1 f rfl
      rw [Nat.add_zero] at k0
      rw [jobsOf, jobsOf_at n r N (a + 2) (by
        have := congrArg (List.drop 2) hM
        rw [List.drop_drop] at this
        exact this) (by simp at hl; omega)]
      by_cases hf : 1 < f
      · rw [if_pos hf, if_neg]
        intro h
        have := h 0 (by omega)
        rw [Nat.mul_zero, Nat.add_zero, k1] at this
        omega
      · rw [if_neg hf]
        by_cases hr : ∀ i < n, N.getD (a + 2 + 2 * i + 1) 0 ≤ 1
        · rw [if_pos hr, if_pos]
          · simp only [Option.map_some]
            rw [List.range_succ_eq_map, List.map_cons, List.map_map]
            congr 2
            · unfold jobAtN
              rw [Nat.mul_zero, Nat.add_zero, k0, k1]
            · apply List.map_congr_left
              intro i _
              show jobAtN N (a + 2 + 2 * i) = jobAtN N (a + 2 * (i + 1))
              rw [show a + 2 + 2 * i = a + 2 * (i + 1) by omega]
          · intro i hi
            cases i with
            | zero => rw [Nat.mul_zero, Nat.add_zero, k1]; omega
            | succ i =>
              have := hr i (by omega)
              rw [show a + 2 * (i + 1) + 1 = a + 2 + 2 * i + 1 by omega]
              exact this
        · rw [if_neg hr, if_neg]
          · rfl
          · intro h
            apply hr
            intro i hi
            have := h (i + 1) (by omega)
            rw [show a + 2 * (i + 1) + 1 = a + 2 + 2 * i + 1 by omega] at this
            exact this
    | [], _, hl => simp at hl
    | [_], _, hl => simp at hl; omega

/-- what a text's numbers come to -/
theorem bookOfNums_at {N : List Int} {levels : Int} (hr : ∀ v ∈ N, 0 ≤ v ∧ v ≤ 999999) : bookOfNums N levels =
    if N.length < 3 ∨ (N.length : Int) ≠ 3 + 8 * N.getD 1 0 + 2 * N.getD 2 0 then none
    else if (∀ i < (N.getD 2 0).toNat, N.getD (3 + 8 * (N.getD 1 0).toNat + 2 * i + 1) 0 ≤ 1) then
      if bookFault ⟨N.getD 0 0, (List.range (N.getD 1 0).toNat).map (fun i => stayAt N i), (List.range (N.getD 2 0).toNat).map (fun i => jobAtN N (3 + 8 * (N.getD 1 0).toNat + 2 * i))⟩ levels = 0 then
        some ⟨N.getD 0 0, (List.range (N.getD 1 0).toNat).map (fun i => stayAt N i), (List.range (N.getD 2 0).toNat).map (fun i => jobAtN N (3 + 8 * (N.getD 1 0).toNat + 2 * i))⟩
      else none
    else none := by
  match N, hr with
  | [], _ => rfl
  | [_], _ => rfl
  | [_, _], _ => rfl
  | a :: b :: c :: r, hr =>
    have hb := hr b (by simp)
    have hc := hr c (by simp)
    unfold bookOfNums
    dsimp only
    by_cases hl : ((a :: b :: c :: r).length : Int) = 3 + 8 * b + 2 * c
    · rw [if_pos hl, if_neg (by simp only [List.length_cons] at hl ⊢; simp; omega)]
      have e1 : staysOf b.toNat r = (List.range b.toNat).map fun i => stayAt (a :: b :: c :: r) i := by
        have := staysOf_at b.toNat r (a :: b :: c :: r) 0 rfl (by simp only [List.length_cons] at hl; omega)
        simpa using this
      have e2 := jobsOf_at c.toNat (r.drop (8 * b.toNat)) (a :: b :: c :: r) (3 + 8 * b.toNat) (by
        rw [show 3 + 8 * b.toNat = 8 * b.toNat + 1 + 1 + 1 by omega, List.drop_succ_cons, List.drop_succ_cons, List.drop_succ_cons]) (by rw [List.length_drop]; simp only [List.length_cons] at hl; omega)
      rw [e1, e2]
      show _ = if ∀ i < c.toNat, (a :: b :: c :: r).getD (3 + 8 * b.toNat + 2 * i + 1) 0 ≤ 1 then _ else _
      by_cases hf : ∀ i < c.toNat, (a :: b :: c :: r).getD (3 + 8 * b.toNat + 2 * i + 1) 0 ≤ 1
      · rw [if_pos hf, if_pos hf]; rfl
      · rw [if_neg hf, if_neg hf]
    · rw [if_neg hl, if_pos]
      right
      exact hl

end Ch

namespace Go.Proofs.YtplomeacjbkgnacDoor
open Go.RowKit

theorem flat_at {α : Type} {enc : α → List Value} {c : Nat} (he : ∀ x, (enc x).length = c) : ∀ {l : List α} {j : Nat} {u : Value}, (l.flatMap enc)[j]? = some u → ∃ i x r, l[i]? = some x ∧ (enc x)[r]? = some u ∧ j = i * c + r
  | [], j, u, h => by simp at h
  | y :: l, j, u, h => by
    simp only [List.flatMap_cons] at h
    by_cases hj : j < c
    · rw [List.getElem?_append_left (by rw [he]; exact hj)] at h
      exact ⟨0, y, j, rfl, h, by simp⟩
    · rw [List.getElem?_append_right (by rw [he]; omega), he] at h
      obtain ⟨i, x, r, h1, h2, h3⟩ := flat_at he h
      exact ⟨i + 1, x, r, h1, h2, by rw [Nat.add_mul]; omega⟩

/-- the cells of a list, from its head on -/
theorem Sl.cells {α : Type} {w : World} {c : Nat} {enc : α → List Value} {l : List α} {b o n cap : Nat} (h : Sl w c enc l (some ⟨b, o, none⟩) n cap) (he : ∀ x, (enc x).length = c) :
    ∀ j u, (l.flatMap enc)[j]? = some u → w.cell? ((⟨b, o, none⟩ : Addr).add j) = some u := by
  intro j u hu
  obtain ⟨i, x, r, h1, h2, rfl⟩ := flat_at he hu
  have hi : i < n := by
    have := h.len
    by_cases hi : i < l.length
    · omega
    · rw [List.getElem?_eq_none (by omega)] at h1; cases h1
  obtain ⟨x', hx', f⟩ := h.get' hi
  obtain rfl : x' = x := Option.some.inj (hx'.symm.trans h1)
  have := f r u h2
  have e : (⟨b, o, none⟩ : Addr).add (i * c + r) = ⟨b, o + i * c + r, none⟩ := by
    unfold Addr.add
    split <;> simp_all <;> omega
  rw [e]
  exact this

theorem flat_len {α : Type} {enc : α → List Value} {c : Nat} (he : ∀ x, (enc x).length = c) (l : List α) : (l.flatMap enc).length = l.length * c := by
  induction l with
  | nil => simp
  | cons x l ih => simp [ih, he, Nat.add_mul]; omega

theorem infoStay : (Tryd.prog.info? 60).map (fun i => (i.zero, i.size, i.bytes)) = some (some (.agg #[vi 0, vi 0, vi 0, vi 0, vi 0, vi 0, vi 0, vi 0]), 8, 64) := by kernel_rfl

theorem infoJob : (Tryd.prog.info? 62).map (fun i => (i.zero, i.size, i.bytes)) = some (some (.agg #[vi 0, .bool false]), 2, 16) := by kernel_rfl

set_option maxRecDepth 100000 in
set_option maxHeartbeats 1000000 in
theorem cloneStay_any (a : Option Addr) (n cap : Nat) (l : List Ch.Stay) (w : World) (h : Sl w 8 stayCells l a n cap) (hn : n ≤ 1000) :
    Calls Tryd.prog 54 #[.slice a n cap] w fun e w' => ∃ v, e = .returned v ∧ w'.ownsRow w.heap.size 60 8 v n (l.flatMap stayCells) ∧ Ext w w' := by
  obtain ⟨i0, hi, hz0, hz1, hz2⟩ := info_parts infoStay
  have hb := h.bound
  have HF := Lib.hid h
  have HL := Lib.hid h.len
  clear h
  cases a with
  | none =>
    have h0 : n = 0 := by
      by_cases h0 : n = 0
      · exact h0
      · obtain ⟨_, _, _, e, _⟩ := HF.out.get (k := 0) (by omega); cases e
    subst h0
    have hl : l = [] := by have := HL.out; cases l <;> simp_all
    subst hl
    have hq := fun (w : World) => Lib.run_eql_slice_nil (P := Tryd.prog) w
    go_enter Tryd.func54, Tryd.ntmps54
    go_wp2
    go_ret
    exact ⟨_, rfl, World.ownsRow_nil _ _ _ _, (by simp (maxDischargeDepth := 60))⟩
  | some ad =>
    have hq : ∀ w, (Go.binOp .eql 22 (.slice (some ad) n cap) (.slice none 0 0)).run Tryd.prog w = .ok (.bool false) w := fun w => Lib.run_eql_slice_nil w _ _ _ _ _ _ _ Tryd.underlying22
    have hnews : ∀ j u, (l.flatMap stayCells)[j]? = some u → (w.alloc (.cells #[] 60)).cell? (ad.add j) = some u := by
      by_cases h0 : n = 0
      · have hl : l = [] := by have := HL.out; cases l <;> simp_all
        subst hl
        intro j u hj; simp at hj
      · obtain ⟨b, o, x, e, hx, _⟩ := HF.out.get (k := 0) (by omega)
        cases e
        exact Sl.cells (Sl.alloc HF.out _) (fun _ => rfl)
    have hone : ∀ u ∈ l.flatMap stayCells, u.oneCell' = true := by
      intro u hu
      obtain ⟨y, _, hy⟩ := List.mem_flatMap.1 hu
      simp only [stayCells, List.mem_cons, List.not_mem_nil, or_false] at hy
      rcases hy with rfl | rfl | rfl | rfl | rfl | rfl | rfl | rfl <;> rfl
    have HN := Lib.hid hnews
    have HO := Lib.hid hone
    clear hnews hone
    go_enter Tryd.func54, Tryd.ntmps54
    go_wp2_with (at_builtin; refine wpList_append_own _ rfl _ _ _ rfl w.heap.size 60 i0 _ 8 64 Tryd.underlying22 hi hz0 hz1 hz2 rfl (by decide) _ 0 [] rfl (owns_new w 60 8 0 #[] rfl (by decide)) ad n cap (l.flatMap stayCells) rfl (by rw [flat_len (c := 8) (fun _ => rfl), HL.out]) HN.out HO.out (by unfold maxLen; omega) (by omega) (by simp) ?_; intro v' w1 hown hgrow hnil; obtain ⟨o1, n1, rfl⟩ := ext_grown (w := w) (by simp (maxDischargeDepth := 60)) hgrow (by intro k hk; cases hk; exact Nat.le_refl _))
    go_ret
    exact ⟨_, rfl, by simpa using hown, (by simp (maxDischargeDepth := 60))⟩



set_option maxRecDepth 100000 in
set_option maxHeartbeats 1000000 in
theorem cloneJob_any (a : Option Addr) (n cap : Nat) (l : List Ch.Job) (w : World) (h : Sl w 2 jobCells l a n cap) (hn : n ≤ 1000) :
    Calls Tryd.prog 55 #[.slice a n cap] w fun e w' => ∃ v, e = .returned v ∧ w'.ownsRow w.heap.size 62 2 v n (l.flatMap jobCells) ∧ Ext w w' := by
  obtain ⟨i0, hi, hz0, hz1, hz2⟩ := info_parts infoJob
  have hb := h.bound
  have HF := Lib.hid h
  have HL := Lib.hid h.len
  clear h
  cases a with
  | none =>
    have h0 : n = 0 := by
      by_cases h0 : n = 0
      · exact h0
      · obtain ⟨_, _, _, e, _⟩ := HF.out.get (k := 0) (by omega); cases e
    subst h0
    have hl : l = [] := by have := HL.out; cases l <;> simp_all
    subst hl
    have hq := fun (w : World) => Lib.run_eql_slice_nil (P := Tryd.prog) w
    go_enter Tryd.func55, Tryd.ntmps55
    go_wp2
    go_ret
    exact ⟨_, rfl, World.ownsRow_nil _ _ _ _, (by simp (maxDischargeDepth := 60))⟩
  | some ad =>
    have hq : ∀ w, (Go.binOp .eql 23 (.slice (some ad) n cap) (.slice none 0 0)).run Tryd.prog w = .ok (.bool false) w := fun w => Lib.run_eql_slice_nil w _ _ _ _ _ _ _ Tryd.underlying23
    have hnews : ∀ j u, (l.flatMap jobCells)[j]? = some u → (w.alloc (.cells #[] 62)).cell? (ad.add j) = some u := by
      by_cases h0 : n = 0
      · have hl : l = [] := by have := HL.out; cases l <;> simp_all
        subst hl
        intro j u hj; simp at hj
      · obtain ⟨b, o, x, e, hx, _⟩ := HF.out.get (k := 0) (by omega)
        cases e
        exact Sl.cells (Sl.alloc HF.out _) (fun _ => rfl)
    have hone : ∀ u ∈ l.flatMap jobCells, u.oneCell' = true := by
      intro u hu
      obtain ⟨y, _, hy⟩ := List.mem_flatMap.1 hu
      simp only [jobCells, List.mem_cons, List.not_mem_nil, or_false] at hy
      rcases hy with rfl | rfl <;> rfl
    have HN := Lib.hid hnews
    have HO := Lib.hid hone
    clear hnews hone
    go_enter Tryd.func55, Tryd.ntmps55
    go_wp2_with (at_builtin; refine wpList_append_own _ rfl _ _ _ rfl w.heap.size 62 i0 _ 2 16 Tryd.underlying23 hi hz0 hz1 hz2 rfl (by decide) _ 0 [] rfl (owns_new w 62 2 0 #[] rfl (by decide)) ad n cap (l.flatMap jobCells) rfl (by rw [flat_len (c := 2) (fun _ => rfl), HL.out]) HN.out HO.out (by unfold maxLen; omega) (by omega) (by simp) ?_; intro v' w1 hown hgrow hnil; obtain ⟨o1, n1, rfl⟩ := ext_grown (w := w) (by simp (maxDischargeDepth := 60)) hgrow (by intro k hk; cases hk; exact Nat.le_refl _))
    go_ret
    exact ⟨_, rfl, by simpa using hown, (by simp (maxDischargeDepth := 60))⟩


end Go.Proofs.YtplomeacjbkgnacDoor

namespace Go.Proofs.YtplomeacjbkgnacDoor
open Go.RowKit

/-- a book in lists of its own -/
structure OwnBook (w0 w : World) (last : Int) (l : List Ch.Stay) (js : List Ch.Job) (v1 v2 : Value) : Prop where
  stays : w.ownsRow w0.heap.size 60 8 v1 l.length (l.flatMap stayCells)
  jobs : w.ownsRow w0.heap.size 62 2 v2 js.length (js.flatMap jobCells)
  apart : ∀ k, v1.ownBlock = some k → v2.ownBlock ≠ some k

theorem OwnBook.ext {w0 w w' : World} {last : Int} {l : List Ch.Stay} {js : List Ch.Job} {v1 v2 : Value} (h : OwnBook w0 w last l js v1 v2) (x : Ext w w') : OwnBook w0 w' last l js v1 v2 := by
  obtain ⟨o, n, rfl⟩ := x
  exact ⟨owns_plus h.stays o n, owns_plus h.jobs o n, h.apart⟩

theorem owns_set {w : World} {base e size : Nat} {v : Value} {n : Nat} {xs : List Value} (h : w.ownsRow base e size v n xs) {a : Addr} (u : Value) (hn : v.ownBlock ≠ some a.block) : (w.setCell a u).ownsRow base e size v n xs := by
  refine ⟨h.1, ?_⟩
  rcases h.2 with h2 | ⟨g, cap, cur, rfl, hb, hg, hnc, hc, hs, ht⟩
  · exact .inl h2
  · refine .inr ⟨g, cap, cur, rfl, hb, ?_, hnc, hc, hs, ht⟩
    rw [setCell_other]
    · exact hg
    · rintro rfl; exact hn rfl

theorem own_lt {w : World} {base e size : Nat} {v : Value} {n : Nat} {xs : List Value} (h : w.ownsRow base e size v n xs) {k : Nat} (hk : v.ownBlock = some k) : base ≤ k ∧ k < w.heap.size := h.lt k hk

set_option maxRecDepth 100000 in
set_option maxHeartbeats 4000000 in
theorem copy_any (last : Int) (a1 : Option Addr) (m1 c1 : Nat) (a2 : Option Addr) (m2 c2 : Nat) (l : List Ch.Stay) (js : List Ch.Job) (w : World) (h : Sl w 8 stayCells l a1 m1 c1) (h2 : Sl w 2 jobCells js a2 m2 c2) (hm1 : m1 ≤ 1000) (hm2 : m2 ≤ 1000) :
    Calls Tryd.prog 30 #[bookA last a1 m1 c1 a2 m2 c2] w fun e w' => ∃ v1 v2, e = .returned (.agg #[vi last, v1, v2]) ∧ OwnBook w w' last l js v1 v2 ∧ Ext w w' := by
  have HF := Lib.hid h
  have HJ := Lib.hid h2
  have E1 := Lib.hid h.len
  have E2 := Lib.hid h2.len
  clear h h2
  go_enter Tryd.func30, Tryd.ntmps30
  go_upto_region 1 with fail
  go_region_with (first
    | (go_at_call 54; refine (cloneStay_any a1 m1 c1 l _ (Sl.below HF.out (Ext.below (by simp (maxDischargeDepth := 60)))) hm1).mono ?_; rintro e w1 ⟨v1, rfl, hown1, o1, n1, rfl⟩; obtain ⟨b1, d1, rfl, -⟩ := Sl.of_owns (c := 8) (enc := stayCells) hown1 (by decide) (fun _ => rfl))
    | (go_at_call 55; refine (cloneJob_any a2 m2 c2 js _ (Sl.below HJ.out (Ext.below (by simp (maxDischargeDepth := 60)))) hm2).mono ?_; rintro e w2 ⟨v2, rfl, hown2, o2, n2, rfl⟩; obtain ⟨b2, d2, rfl, -⟩ := Sl.of_owns (c := 2) (enc := jobCells) hown2 (by decide) (fun _ => rfl)))
  all_goals
    generalize hW : World.plus _ _ _ = wq
    have k0 : wq.cell? ⟨w.heap.size, 0, none⟩ = some (vi last) := by rw [← hW]; simp [go_sem]
    have k1 : wq.cell? ⟨w.heap.size, 1, none⟩ = some (.slice a1 m1 c1) := by rw [← hW]; simp [go_sem]
    have k2 : wq.cell? ⟨w.heap.size, 2, none⟩ = some (.slice a2 m2 c2) := by rw [← hW]; simp [go_sem]
    have r0 : wq.cell? ⟨w.heap.size + 1, 0, none⟩ = some (.int .i64 0) := by rw [← hW]; simp [go_sem]
    have r1 : wq.cell? ⟨w.heap.size + 1, 1, none⟩ = some (.slice none 0 0) := by rw [← hW]; simp [go_sem]
    have r2 : wq.cell? ⟨w.heap.size + 1, 2, none⟩ = some (.slice none 0 0) := by rw [← hW]; simp [go_sem]
    have fz : ∀ i, wq.frozen? ⟨w.heap.size + 1, i, none⟩ = false := by intro i; rw [← hW]; simp [go_sem]
    have hx : Ext w wq := by rw [← hW]; exact (by simp (maxDischargeDepth := 60))
    have z := cell_lt r0
    have hap : ∀ k, (Value.slice b1 m1 d1).ownBlock = some k → (Value.slice b2 m2 d2).ownBlock ≠ some k := by
      intro k hk1 hk2
      have q1 := (own_lt hown1 hk1).2
      have q2 := (own_lt hown2 hk2).1
      omega
    have g1 : ∀ k, (Value.slice b1 m1 d1).ownBlock = some k → w.heap.size + 2 ≤ k := by
      intro k hk1
      have q1 := (own_lt hown1 hk1).1
      simp at q1; omega
    have g2 : ∀ k, (Value.slice b2 m2 d2).ownBlock = some k → w.heap.size + 2 ≤ k := by
      intro k hk1
      have q1 := (own_lt hown2 hk1).1
      simp at q1; omega
    have hs1 : wq.ownsRow w.heap.size 60 8 (.slice b1 m1 d1) m1 (l.flatMap stayCells) := by
      rw [← hW]; exact owns_base (owns_more hown1 _ _) (by simp; omega)
    have hs2 : wq.ownsRow w.heap.size 62 2 (.slice b2 m2 d2) m2 (js.flatMap jobCells) := by
      rw [← hW, ← plus_plus _ _ n1 _ _]; exact owns_base hown2 (by simp; omega)
    have HAP := Lib.hid hap
    have G1 := Lib.hid g1
    have G2 := Lib.hid g2
    have HS1 := Lib.hid hs1
    have HS2 := Lib.hid hs2
    have HX := Lib.hid hx
    clear hW hown1 hown2 hap g1 g2 hs1 hs2 hx
    go_wp2
    refine bodyPost_ret (v := .agg #[vi last, .slice b1 m1 d1, .slice b2 m2 d2]) (by simp [results, Tryd.results30, go_sem, *]) rfl ⟨_, _, rfl, ⟨?_, ?_, HAP.out⟩, ?_⟩
    · rw [E1.out]
      refine owns_set (owns_set (owns_set (owns_set (owns_set HS1.out _ ?_) _ ?_) _ ?_) _ ?_) _ ?_ <;> (intro e; have := G1.out _ e; (try dsimp only at this); omega)
    · rw [E2.out]
      refine owns_set (owns_set (owns_set (owns_set (owns_set HS2.out _ ?_) _ ?_) _ ?_) _ ?_) _ ?_ <;> (intro e; have := G2.out _ e; (try dsimp only at this); omega)
    · refine Ext.setCell (Ext.setCell (Ext.setCell (Ext.setCell (Ext.setCell HX.out ?_ _) ?_ _) ?_ _) ?_ _) ?_ _ <;> (dsimp only; omega)
end Go.Proofs.YtplomeacjbkgnacDoor

namespace Go.Proofs.YtplomeacjbkgnacDoor
open Go.RowKit

set_option maxRecDepth 100000 in
set_option maxHeartbeats 1000000 in
theorem checkCar_f (x a b c : Int) (w : World) : Calls Tryd.prog 36 #[.agg #[vi x, vi a, vi b, vi c]] w fun e w' => e = .returned (errV (Ch.carFault ⟨x, ⟨a, b, c⟩⟩)) ∧ Ext w w' := by
  go_enter Tryd.func36, Tryd.ntmps36
  go_wp2_with (go_at_call 57; (with_reducible refine (checkSize_f _ _ _ _).mono ?_); rintro e w1 ⟨rfl, o1, n1, rfl⟩)
  all_goals
    go_ret
    go_light
    refine ⟨?_, (by simp (maxDischargeDepth := 60))⟩
    simp only [Ch.carFault]
    first | (rw [if_pos (by omega)]; rfl) | (rw [if_neg (by omega)]; rfl) | (rw [if_neg (by omega)])

theorem checkCar_any (c : Ch.Car) (w : World) : Calls Tryd.prog 36 #[carA c] w fun e w' => e = .returned (errV (Ch.carFault c)) ∧ Ext w w' := checkCar_f _ _ _ _ w



theorem levels_step {last s : Ch.Size} {l : List Ch.Size} {k : Nat} (hs : l[k]? = some s) (h0 : Ch.sizeFault s = 0) (h1 : Ch.fits s last = true) : Ch.levelsFaultFrom last (l.drop k) = Ch.levelsFaultFrom last (l.drop (k + 1)) := by
  have hk : k < l.length := by
    by_cases h : k < l.length
    · exact h
    · rw [List.getElem?_eq_none (by omega)] at hs; cases hs
  rw [List.drop_eq_getElem_cons hk]
  rw [List.getElem?_eq_getElem hk] at hs
  cases hs
  simp [Ch.levelsFaultFrom, h0, h1]

theorem levels_size {last s : Ch.Size} {l : List Ch.Size} {k : Nat} (hs : l[k]? = some s) (h0 : Ch.sizeFault s = 1) : Ch.levelsFaultFrom last (l.drop k) = 1 := by
  have hk : k < l.length := by
    by_cases h : k < l.length
    · exact h
    · rw [List.getElem?_eq_none (by omega)] at hs; cases hs
  rw [List.drop_eq_getElem_cons hk]
  rw [List.getElem?_eq_getElem hk] at hs
  cases hs
  simp [Ch.levelsFaultFrom, h0]

theorem levels_fits {last s : Ch.Size} {l : List Ch.Size} {k : Nat} (hs : l[k]? = some s) (h0 : Ch.sizeFault s = 0) (h1 : Ch.fits s last = false) : Ch.levelsFaultFrom last (l.drop k) = 3 := by
  have hk : k < l.length := by
    by_cases h : k < l.length
    · exact h
    · rw [List.getElem?_eq_none (by omega)] at hs; cases hs
  rw [List.drop_eq_getElem_cons hk]
  rw [List.getElem?_eq_getElem hk] at hs
  cases hs
  simp [Ch.levelsFaultFrom, h0, h1]

theorem size_bad {s : Ch.Size} (h : ¬ Ch.sizeFault s = 0) : Ch.sizeFault s = 1 := by
  unfold Ch.sizeFault at *
  split <;> simp_all

end Go.Proofs.YtplomeacjbkgnacDoor

namespace Go.Proofs.YtplomeacjbkgnacDoor
open Go.RowKit

theorem infoPlace : (Tryd.prog.info? 58).map (fun i => (i.zero, i.size, i.bytes)) = some (some (.agg #[.int .i64 0, .int .i64 0, .int .i64 0]), 3, 24) := by kernel_rfl

/-- a new list of places, in a world -/
def NewPlaces (w : World) (l : List Ch.Place) (e : Ending) (w' : World) : Prop := ∃ v, e = .returned v ∧ w'.ownsRow w.heap.size 58 3 v l.length (l.flatMap placeCells) ∧ Ext w w'

theorem NewPlaces.sl {w : World} {l : List Ch.Place} {e : Ending} {w' : World} (h : NewPlaces w l e w') : ∃ a n c, e = .returned (.slice a n c) ∧ Sl w' 3 placeCells l a n c ∧ Ext w w' := by
  obtain ⟨v, rfl, ho, hx⟩ := h
  obtain ⟨a, c, rfl, hs⟩ := Sl.of_owns ho (by decide) (fun x => rfl)
  exact ⟨a, _, c, rfl, hs, hx⟩

theorem placesFrom_step (levels : Int) (k : Nat) (n : Int) : Ch.placesFrom levels (k + 1) n = Ch.placesOf levels n ++ Ch.placesFrom levels k (n + 1) := rfl

/-- what has been gathered when n comes up -/
def PlacesRel (w : World) (levels n : Int) (v : Value) (wr : World) : Prop := ∃ L, 1 ≤ n ∧ n ≤ levels + 1 ∧ L.length ≤ 4 * (n - 1).toNat ∧ L ++ Ch.placesFrom levels (levels + 1 - n).toNat n = Ch.places levels ∧
  wr.ownsRow w.heap.size 58 3 v L.length (L.flatMap placeCells) ∧ Ext w wr

theorem PlacesRel.start (w : World) (levels : Int) (h1 : 1 ≤ levels) (o : Array Obj) (m : Nat) : PlacesRel w levels 1 (.slice none 0 0) (w.plus o m) :=
  ⟨[], by omega, by omega, by simp, by simp [Ch.places], World.ownsRow_nil _ _ _ _, by simp⟩

theorem PlacesRel.start' (w : World) (levels : Int) (h1 : 1 ≤ levels) : PlacesRel w levels 1 (.slice none 0 0) w :=
  ⟨[], by omega, by omega, by simp, by simp [Ch.places], World.ownsRow_nil _ _ _ _, by simp⟩

theorem PlacesRel.step {w : World} {levels n : Int} {L : List Ch.Place} (v' : Value) (wr' : World) (hn : 1 ≤ n) (hl : n ≤ levels) (hL : L.length ≤ 4 * (n - 1).toNat) (he : L ++ Ch.placesFrom levels (levels + 1 - n).toNat n = Ch.places levels) (new : List Ch.Place)
    (hnew : new = Ch.placesOf levels n) (k : Nat) (hk : k = (L ++ new).length) (xs : List Value) (hxs : xs = (L ++ new).flatMap placeCells) (ho : wr'.ownsRow w.heap.size 58 3 v' k xs) (hx : Ext w wr') : PlacesRel w levels (n + 1) v' wr' := by
  subst hk hxs
  have h4 : new.length ≤ 4 := by rw [hnew]; unfold Ch.placesOf; split <;> simp
  refine ⟨L ++ new, by omega, by omega, ?_, ?_, ho, hx⟩
  · rw [List.length_append]; omega
  · rw [← he, hnew, List.append_assoc, show (levels + 1 - n).toNat = (levels + 1 - (n + 1)).toNat + 1 by omega, placesFrom_step]

set_option maxRecDepth 100000 in
set_option maxHeartbeats 2000000 in
theorem places_any (levels : Int) (w : World) (h1 : 1 ≤ levels) (h2 : levels ≤ 4) : Calls Tryd.prog 39 #[vi levels] w (NewPlaces w (Ch.places levels)) := by
  obtain ⟨i0, hi, hz0, hz1, hz2⟩ := info_parts infoPlace
  go_enter Tryd.func39, Tryd.ntmps39
  go_wp2
  go_loopw [3, 4] (fun v n wr => ∃ k : Int, n = .int .i64 k ∧ PlacesRel w levels k v wr) (fun _ n _ => (levels + 1 - intOf n).toNat)
  case atStart => exact ⟨1, rfl, PlacesRel.start' w levels h1⟩
  case round =>
    obtain ⟨k, rfl, L, hk1, hk2, hL, he, hown, o, m, rfl⟩ := hrel
    have HE := Lib.hid he
    clear he
    by_cases hkl : k ≤ levels
    · by_cases heq : k = levels
      · have HQ := Lib.hid heq
        have B1 : (k == levels) = true := by simp [heq]
        clear heq
        go_wp2
        (refine wp_loop_rounds 3 ?_; (repeat any_goals (rw [rounds_succ]; go_wp2_with (at_builtin; refine wpList_append_lies _ rfl _ _ _ rfl w.heap.size 58 i0 _ 3 24 Tryd.underlying98 hi hz0 hz1 hz2 rfl (by decide) _ _ _ rfl (owns_alloc (by assumption) _) _ 2 2 [vi k, vi 0, vi 1, vi k, vi 0, vi 0] rfl rfl (World.news_of_block (alloc_at _ _ _ (by simp))) (by simp [Value.oneCell']) (by decide) (by unfold maxLen; (try simp only [List.length_append, List.length_cons, List.length_nil]); omega) (by (try simp only [List.length_append, List.length_cons, List.length_nil]); omega) (by first | omega | (simp; done) | (simp; omega)) _ rfl ?_; intro gg cap w3 hown3 hgrow hat hlt; obtain ⟨o3, n3, rfl⟩ := ext_grown (w := w) (by simp (maxDischargeDepth := 60)) hgrow (owns_block (by assumption))))))
        go_roundw
        case rel => 
          refine ⟨k + 1, by go_num, PlacesRel.step _ _ hk1 hkl hL HE.out [⟨k, 0, 1⟩, ⟨k, 0, 0⟩] (by have := HQ.out; unfold Ch.placesOf; rw [if_neg (by omega)]) _ ?_ _ ?_ (by assumption) (by simp (maxDischargeDepth := 60))⟩
          · simp
          · simp [placeCells]
        case measure => simp [intOf]; omega
      · have HQ := Lib.hid heq
        have B1 : (k == levels) = false := by simp [heq]
        clear heq
        go_wp2
        (refine wp_loop_rounds 3 ?_; (repeat any_goals (rw [rounds_succ]; go_wp2_with (first | (at_builtin; refine wpList_append_lies _ rfl _ _ _ rfl w.heap.size 58 i0 _ 3 24 Tryd.underlying98 hi hz0 hz1 hz2 rfl (by decide) _ _ _ rfl (owns_alloc (by assumption) _) _ 2 2 [vi k, vi 0, vi 1, vi k, vi 0, vi 0] rfl rfl (World.news_of_block (alloc_at _ _ _ (by simp))) (by simp [Value.oneCell']) (by decide) (by unfold maxLen; (try simp only [List.length_append, List.length_cons, List.length_nil]); omega) (by (try simp only [List.length_append, List.length_cons, List.length_nil]); omega) (by first | omega | (simp; done) | (simp; omega)) _ rfl ?_; intro gg cap w3 hown3 hgrow hat hlt; obtain ⟨o3, n3, rfl⟩ := ext_grown (w := w) (by simp (maxDischargeDepth := 60)) hgrow (owns_block (by assumption))) | (at_builtin; refine wpList_append_lies _ rfl _ _ _ rfl w.heap.size 58 i0 _ 3 24 Tryd.underlying98 hi hz0 hz1 hz2 rfl (by decide) _ _ _ rfl (owns_alloc (by assumption) _) _ 2 2 [vi k, vi 1, vi 1, vi k, vi 1, vi 0] rfl rfl (World.news_of_block (alloc_at _ _ _ (by simp))) (by simp [Value.oneCell']) (by decide) (by unfold maxLen; (try simp only [List.length_append, List.length_cons, List.length_nil]); omega) (by (try simp only [List.length_append, List.length_cons, List.length_nil]); omega) (by first | omega | (simp; done) | (simp; omega)) _ rfl ?_; intro gg cap w3 hown3 hgrow hat hlt; obtain ⟨o3, n3, rfl⟩ := ext_grown (w := w) (by simp (maxDischargeDepth := 60)) hgrow (owns_block (by assumption)))))))
        go_roundw
        case rel => 
          refine ⟨k + 1, by go_num, PlacesRel.step _ _ hk1 hkl hL HE.out [⟨k, 0, 1⟩, ⟨k, 0, 0⟩, ⟨k, 1, 1⟩, ⟨k, 1, 0⟩] (by have := HQ.out; unfold Ch.placesOf; rw [if_pos (by omega)]) _ ?_ _ ?_ (by assumption) (by simp (maxDischargeDepth := 60))⟩
          · simp
          · simp [placeCells]
        case measure => simp [intOf]; omega
    · have hkk : k = levels + 1 := by omega
      have HQ := Lib.hid hkk
      clear hkk
      go_wp2
      go_ret
      have hL : L = Ch.places levels := by
        have h := HE.out
        rw [HQ.out] at h
        simpa [Ch.placesFrom] using h
      exact ⟨_, rfl, hL ▸ hown, (by simp (maxDischargeDepth := 60))⟩

end Go.Proofs.YtplomeacjbkgnacDoor
