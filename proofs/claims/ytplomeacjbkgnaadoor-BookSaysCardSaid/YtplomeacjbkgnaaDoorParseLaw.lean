/-
  PLAIN LAWS of a text that is parsed: its words as the library parts them; what is read, number by number; no program in sight.
-/
import Derived.Test.YtplomeacjbkgnaaDoorTextLaw
import Derived.Lib.SplitLaws
namespace Ch
open Go

theorem wordsFrom_head (w s : List UInt8) : ∃ h t, wordsFrom [] s = h :: t ∧ wordsFrom w s = (w ++ h) :: t := by
  induction s generalizing w with
  | nil => exact ⟨[], [], rfl, by simp [wordsFrom]⟩
  | cons b s ih =>
    by_cases hb : b = 32
    · exact ⟨[], wordsFrom [] s, by simp [wordsFrom, hb], by simp [wordsFrom, hb]⟩
    · obtain ⟨h1, t1, e1, e2⟩ := ih [b]
      obtain ⟨h2, t2, e3, e4⟩ := ih (w ++ [b])
      rw [e1] at e3
      cases e3
      refine ⟨b :: h1, t1, by simp [wordsFrom, hb, e2], ?_⟩
      simp only [wordsFrom, hb, if_false, e4]
      simp

theorem split_words : ∀ (s : List UInt8) (k : Nat), Lib.count s [32] = k → Lib.splitK [32] 0 k s = wordsFrom [] s := by
  have idx0 : ∀ (b : UInt8) (l : List UInt8), b = 32 → Lib.index (b :: l) [32] = 0 := by
    intro b l hb
    unfold Lib.index
    rw [if_pos]
    simp [List.isPrefixOf, hb]
  have idx1 : ∀ (b : UInt8) (l : List UInt8), b ≠ 32 → Lib.index (b :: l) [32] = if Lib.index l [32] == -1 then -1 else Lib.index l [32] + 1 := by
    intro b l hb
    conv => lhs; unfold Lib.index
    rw [if_neg]
    simp only [List.isPrefixOf]
    simp
    exact fun h => hb h.symm
  intro s
  induction s with
  | nil =>
    intro k hk
    have : Lib.index [] [32] = -1 := rfl
    cases k with
    | zero => rfl
    | succ k => simp [Lib.splitK, this, wordsFrom]
  | cons b s ih =>
    intro k hk
    by_cases hb : b = 32
    · subst hb
      have hc := Lib.count_cons_eq 32 s
      rw [hk] at hc
      obtain ⟨m, rfl⟩ : ∃ m, k = m + 1 := ⟨k - 1, by omega⟩
      have hi := idx0 32 s rfl
      unfold Lib.splitK
      rw [hi]
      simp only [wordsFrom, if_true]
      rw [if_neg (by decide)]
      simp only [Int.toNat_zero, Nat.zero_add, List.take_zero, List.length_cons, List.length_nil, List.drop_one, List.tail_cons]
      rw [ih m (by omega)]
    · have hc := Lib.count_cons_ne b 32 s hb
      rw [hk] at hc
      have hi := idx1 b s hb
      obtain ⟨h, t, e1, e2⟩ := wordsFrom_head [b] s
      simp only [wordsFrom, hb, if_false, List.nil_append]
      rw [e2]
      have ih' := ih k hc.symm
      rw [e1] at ih'
      cases k with
      | zero =>
        simp only [Lib.splitK] at ih' ⊢
        cases ih'
        simp
      | succ m =>
        unfold Lib.splitK at ih' ⊢
        rw [hi]
        by_cases hx : Lib.index s [32] == -1
        · rw [if_pos hx] at ih'
          cases ih'
          rw [if_pos (by simp [hx])]
          simp
        · rw [if_neg hx] at ih'
          have hg := Lib.index_ge s [32]
          have hne : Lib.index s [32] ≠ -1 := by simpa using hx
          cases ih'
          rw [if_neg hx, if_neg (by simp; omega)]
          have e : (Lib.index s [32] + 1).toNat = (Lib.index s [32]).toNat + 1 := by omega
          rw [e]
          simp only [List.length_cons, List.length_nil]
          have e3 : (Lib.index s [32]).toNat + 1 + 0 = (Lib.index s [32]).toNat + 0 + 1 := by omega
          rw [e3, List.take_succ_cons]
          have e4 : (Lib.index s [32]).toNat + 1 + (0 + 1) = (Lib.index s [32]).toNat + (0 + 1) + 1 := by omega
          rw [e4, List.drop_succ_cons]
          rfl

/-- the words as the library parts them -/
def wordsB (s : ByteArray) : List ByteArray := Lib.splitB ⟨#[32]⟩ 0 (Lib.countB s ⟨#[32]⟩) s

theorem wordsB_data (s : ByteArray) : (wordsB s).map (·.data.toList) = wordsOf s.data.toList := by
  unfold wordsB wordsOf
  rw [Lib.splitB_data]
  exact split_words _ _ rfl

theorem wordsB_len (s : ByteArray) : (wordsB s).length = Lib.countB s ⟨#[32]⟩ + 1 := Lib.splitB_all _ (by decide) 0 _ s rfl

theorem countB_size (s : ByteArray) : Lib.countB s ⟨#[32]⟩ ≤ s.size := Lib.countB_le _ (by decide) s.size s (Nat.le_refl _)

/-! ### number by number -/

def numB (x : ByteArray) : Option Int := numOf x.data.toList

theorem numsOf_words (s : ByteArray) : numsOf s.data.toList = (wordsB s).mapM numB := by
  unfold numsOf
  rw [← wordsB_data]
  induction wordsB s with
  | nil => rfl
  | cons x l ih => simp only [List.map_cons, List.mapM_cons, ih]; rfl

theorem mapM_take {l : List ByteArray} {k : Nat} {N : List Int} {x : ByteArray} {v : Int} (h : (l.take k).mapM numB = some N) (hx : l[k]? = some x) (hv : numB x = some v) : (l.take (k + 1)).mapM numB = some (N ++ [v]) := by
  rw [List.take_add_one, hx]
  simp [List.mapM_append, h, hv]

theorem mapM_bad {l : List ByteArray} {k : Nat} {x : ByteArray} (hx : l[k]? = some x) (hv : numB x = none) : l.mapM numB = none := by
  induction l generalizing k with
  | nil => cases hx
  | cons y l ih =>
    simp only [List.mapM_cons]
    cases k with
    | zero =>
      simp at hx; subst hx
      rw [hv]; rfl
    | succ k =>
      simp at hx
      rw [ih hx]
      cases numB y <;> rfl

theorem mapM_range {l : List ByteArray} {N : List Int} (h : l.mapM numB = some N) : ∀ v ∈ N, 0 ≤ v ∧ v ≤ 999999 := by
  induction l generalizing N with
  | nil => simp at h; subst h; intro v hv; cases hv
  | cons y l ih =>
    simp only [List.mapM_cons] at h
    cases hy : numB y with
    | none => rw [hy] at h; cases h
    | some a =>
      rw [hy] at h
      cases hl : l.mapM numB with
      | none => rw [hl] at h; cases h
      | some M =>
        rw [hl] at h
        cases h
        intro v hv
        rcases List.mem_cons.1 hv with rfl | hv
        · have := numOf_iff.1 hy; exact ⟨this.1, this.2.1⟩
        · exact ih hl v hv

theorem mapM_length {l : List ByteArray} {N : List Int} (h : l.mapM numB = some N) : N.length = l.length := by
  induction l generalizing N with
  | nil => simp at h; subst h; rfl
  | cons y l ih =>
    simp only [List.mapM_cons] at h
    cases hy : numB y with
    | none => rw [hy] at h; cases h
    | some a =>
      rw [hy] at h
      cases hl : l.mapM numB with
      | none => rw [hl] at h; cases h
      | some M =>
        rw [hl] at h
        cases h
        simp [ih hl]

/-! ### stays and jobs, one by one -/

def stayAt (N : List Int) (k : Nat) : Stay := ⟨N.getD (3 + 8 * k) 0, ⟨N.getD (3 + 8 * k + 1) 0, ⟨N.getD (3 + 8 * k + 2) 0, N.getD (3 + 8 * k + 3) 0, N.getD (3 + 8 * k + 4) 0⟩⟩, ⟨N.getD (3 + 8 * k + 5) 0, N.getD (3 + 8 * k + 6) 0, N.getD (3 + 8 * k + 7) 0⟩⟩

theorem staysOf_at : ∀ (n : Nat) (M N : List Int) (k : Nat), M = N.drop (3 + 8 * k) → 8 * n ≤ M.length → staysOf n M = (List.range n).map fun i => stayAt N (k + i)
  | 0, _, _, _, _, _ => rfl
  | n + 1, M, N, k, hM, hl => by
    rw [staysOf, staysOf_at n (M.drop 8) N (k + 1) (by rw [hM, List.drop_drop]; first | rfl | (congr 1; omega) | (congr 1)) (by rw [List.length_drop]; omega), List.range_succ_eq_map, List.map_cons, List.map_map]
    congr 1
    · match M, hM, hl with
      | a :: b :: c :: d :: e :: f :: g :: h :: r, hM, hl =>
        have key : ∀ j x, (a :: b :: c :: d :: e :: f :: g :: h :: r)[j]? = some x → N.getD (3 + 8 * k + j) 0 = x := by
          intro j x hx
          rw [hM, List.getElem?_drop] at hx
          rw [List.getD_eq_getElem?_getD, hx]; rfl
        unfold stayAt
        rw [Nat.add_zero, key 1 b rfl, key 2 c rfl, key 3 d rfl, key 4 e rfl, key 5 f rfl, key 6 g rfl, key 7 h rfl]
        have := key 0 a rfl
        rw [Nat.add_zero] at this
        rw [this]; rfl
      | [], _, hl => simp at hl
      | [_], _, hl => simp at hl; omega
      | [_, _], _, hl => simp at hl; omega
      | [_, _, _], _, hl => simp at hl; omega
      | [_, _, _, _], _, hl => simp at hl; omega
      | [_, _, _, _, _], _, hl => simp at hl; omega
      | [_, _, _, _, _, _], _, hl => simp at hl; omega
      | [_, _, _, _, _, _, _], _, hl => simp at hl; omega
    · apply List.map_congr_left
      intro i _
      show stayAt N (k + 1 + i) = stayAt N (k + (i + 1))
      rw [show k + 1 + i = k + (i + 1) by omega]

/-- the jobs of the numbers from 'at' on -/
def jobAtN (N : List Int) (a : Nat) : Job := ⟨N.getD a 0, N.getD (a + 1) 0 == 1⟩

theorem jobsOf_at : ∀ (n : Nat) (M N : List Int) (a : Nat), M = N.drop a → 2 * n ≤ M.length → jobsOf n M = if (∀ i < n, N.getD (a + 2 * i + 1) 0 ≤ 1) then some ((List.range n).map fun i => jobAtN N (a + 2 * i)) else none
  | 0, _, _, _, _, _ => by simp [jobsOf]
  | n + 1, M, N, a, hM, hl => by
    match M, hM, hl with
    | t :: f :: r, hM, hl =>
      have key : ∀ j x, (t :: f :: r)[j]? = some x → N.getD (a + j) 0 = x := by
        intro j x hx
        rw [hM, List.getElem?_drop] at hx
        rw [List.getD_eq_getElem?_getD, hx]; rfl
      have k0 := key 0 t rfl
      have k1 := key 1 f rfl
      rw [Nat.add_zero] at k0
      rw [jobsOf, jobsOf_at n r N (a + 2) (by
        have := congrArg (List.drop 2) hM
        rw [List.drop_drop] at this
        exact this) (by simp at hl; omega)]
      by_cases hf : 1 < f
      · rw [if_pos hf, if_neg]
        intro h
        have := h 0 (by omega)
        rw [Nat.mul_zero, Nat.add_zero, k1] at this
        omega
      · rw [if_neg hf]
        by_cases hr : ∀ i < n, N.getD (a + 2 + 2 * i + 1) 0 ≤ 1
        · rw [if_pos hr, if_pos]
          · simp only [Option.map_some]
            rw [List.range_succ_eq_map, List.map_cons, List.map_map]
            congr 2
            · unfold jobAtN
              rw [Nat.mul_zero, Nat.add_zero, k0, k1]
            · apply List.map_congr_left
              intro i _
              show jobAtN N (a + 2 + 2 * i) = jobAtN N (a + 2 * (i + 1))
              rw [show a + 2 + 2 * i = a + 2 * (i + 1) by omega]
          · intro i hi
            cases i with
            | zero => rw [Nat.mul_zero, Nat.add_zero, k1]; omega
            | succ i =>
              have := hr i (by omega)
              rw [show a + 2 * (i + 1) + 1 = a + 2 + 2 * i + 1 by omega]
              exact this
        · rw [if_neg hr, if_neg]
          · rfl
          · intro h
            apply hr
            intro i hi
            have := h (i + 1) (by omega)
            rw [show a + 2 * (i + 1) + 1 = a + 2 + 2 * i + 1 by omega] at this
            exact this
    | [], _, hl => simp at hl
    | [_], _, hl => simp at hl; omega

/-- what a text's numbers come to -/
theorem bookOfNums_at {N : List Int} {levels : Int} (hr : ∀ v ∈ N, 0 ≤ v ∧ v ≤ 999999) : bookOfNums N levels =
    if N.length < 3 ∨ (N.length : Int) ≠ 3 + 8 * N.getD 1 0 + 2 * N.getD 2 0 then none
    else if (∀ i < (N.getD 2 0).toNat, N.getD (3 + 8 * (N.getD 1 0).toNat + 2 * i + 1) 0 ≤ 1) then
      if bookFault ⟨N.getD 0 0, (List.range (N.getD 1 0).toNat).map (fun i => stayAt N i), (List.range (N.getD 2 0).toNat).map (fun i => jobAtN N (3 + 8 * (N.getD 1 0).toNat + 2 * i))⟩ levels = 0 then
        some ⟨N.getD 0 0, (List.range (N.getD 1 0).toNat).map (fun i => stayAt N i), (List.range (N.getD 2 0).toNat).map (fun i => jobAtN N (3 + 8 * (N.getD 1 0).toNat + 2 * i))⟩
      else none
    else none := by
  match N, hr with
  | [], _ => rfl
  | [_], _ => rfl
  | [_, _], _ => rfl
  | a :: b :: c :: r, hr =>
    have hb := hr b (by simp)
    have hc := hr c (by simp)
    unfold bookOfNums
    dsimp only
    by_cases hl : ((a :: b :: c :: r).length : Int) = 3 + 8 * b + 2 * c
    · rw [if_pos hl, if_neg (by simp only [List.length_cons] at hl ⊢; simp; omega)]
      have e1 : staysOf b.toNat r = (List.range b.toNat).map fun i => stayAt (a :: b :: c :: r) i := by
        have := staysOf_at b.toNat r (a :: b :: c :: r) 0 rfl (by simp only [List.length_cons] at hl; omega)
        simpa using this
      have e2 := jobsOf_at c.toNat (r.drop (8 * b.toNat)) (a :: b :: c :: r) (3 + 8 * b.toNat) (by
        rw [show 3 + 8 * b.toNat = 8 * b.toNat + 1 + 1 + 1 by omega, List.drop_succ_cons, List.drop_succ_cons, List.drop_succ_cons]) (by rw [List.length_drop]; simp only [List.length_cons] at hl; omega)
      rw [e1, e2]
      show _ = if ∀ i < c.toNat, (a :: b :: c :: r).getD (3 + 8 * b.toNat + 2 * i + 1) 0 ≤ 1 then _ else _
      by_cases hf : ∀ i < c.toNat, (a :: b :: c :: r).getD (3 + 8 * b.toNat + 2 * i + 1) 0 ≤ 1
      · rw [if_pos hf, if_pos hf]; rfl
      · rw [if_neg hf, if_neg hf]
    · rw [if_neg hl, if_pos]
      right
      exact hl

end Ch
