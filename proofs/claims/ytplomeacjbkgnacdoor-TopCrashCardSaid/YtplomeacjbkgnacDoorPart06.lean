/-
  Walks of the program's functions, and what they need: LedgerLaw, LedgerLaw2, Str.
-/
import Derived.Test.YtplomeacjbkgnacDoorPart05
import Derived.Test.YtplomeacjbkgnacDoorPart02

namespace Ch
open Go

def byteOf (s : List UInt8) (i : Nat) : Nat := (s.getD i 0).toNat

/-- four bytes of a number, the low one first -/
def four (n : Nat) : List UInt8 := [UInt8.ofNat n, UInt8.ofNat (n / 256), UInt8.ofNat (n / 65536), UInt8.ofNat (n / 16777216)]

def unfour (s : List UInt8) (i : Nat) : Nat := byteOf s i + 256 * byteOf s (i + 1) + 65536 * byteOf s (i + 2) + 16777216 * byteOf s (i + 3)

def head (epoch size : Nat) : List UInt8 := 66 :: (four epoch ++ four size)

theorem head_length (e k : Nat) : (head e k).length = 9 := rfl

theorem unfour_head (e k : Nat) (he : e < 4294967296) (hk : k < 4294967296) (r : List UInt8) : byteOf (head e k ++ r) 0 = 66 ∧ unfour (head e k ++ r) 1 = e ∧ unfour (head e k ++ r) 5 = k := by
  refine ⟨rfl, ?_, ?_⟩
  · show (UInt8.ofNat e).toNat + 256 * (UInt8.ofNat (e / 256)).toNat + 65536 * (UInt8.ofNat (e / 65536)).toNat + 16777216 * (UInt8.ofNat (e / 16777216)).toNat = e
    simp only [UInt8.toNat_ofNat']
    omega
  · show (UInt8.ofNat k).toNat + 256 * (UInt8.ofNat (k / 256)).toNat + 65536 * (UInt8.ofNat (k / 65536)).toNat + 16777216 * (UInt8.ofNat (k / 16777216)).toNat = k
    simp only [UInt8.toNat_ofNat']
    omega

/-- what a head tells, if it is one that is newer -/
def tells (s : List UInt8) (x : Nat × Nat) : Nat × Nat := if byteOf s 0 = 66 ∧ x.1 < unfour s 1 ∧ unfour s 5 ≤ 640 then (unfour s 1, unfour s 5) else x

/-- the newest head of two sectors -/
def newest (l : List ByteArray) : Nat × Nat := tells (l.getD 1 ⟨#[]⟩).data.toList (tells (l.getD 0 ⟨#[]⟩).data.toList (0, 0))

/-- a half's bytes -/
def halfOf (l : List ByteArray) (e : Nat) : List UInt8 := ((l.drop (2 + e % 2 * 10)).take 10).flatMap (·.data.toList)

/-- what the sectors say -/
def openOf (l : List ByteArray) (levels : Int) : Option (Nat × Book) :=
  if (newest l).1 = 0 then none else (parseBook ((halfOf l (newest l).1).take (newest l).2) levels).map fun b => ((newest l).1, b)

/-- a text in parts of 64 -/
def chunks : Nat → List UInt8 → List (List UInt8)
  | 0, _ => []
  | n + 1, s => if s = [] then [] else s.take 64 :: chunks n (s.drop 64)

/-- sectors that hold a book, by its head and its half -/
structure Holds (l : List ByteArray) (levels : Int) (e : Nat) (b : Book) : Prop where
  pos : 1 ≤ e
  fit : e < 4294967296
  ok : bookFault b levels = 0
  head : ∃ r, (l.getD (e % 2) ⟨#[]⟩).data.toList = head e (bookText b).length ++ r
  text : (halfOf l e).take (bookText b).length = bookText b
  old : (tells (l.getD ((e + 1) % 2) ⟨#[]⟩).data.toList (0, 0)).1 < e

theorem tells_head {s : List UInt8} {e k : Nat} {x : Nat × Nat} (h : ∃ r, s = head e k ++ r) (he : e < 4294967296) (hk : k ≤ 640) (hx : x.1 < e) : tells s x = (e, k) := by
  obtain ⟨r, rfl⟩ := h
  obtain ⟨h0, h1, h2⟩ := unfour_head e k he (by omega) r
  unfold tells
  rw [h0, h1, h2, if_pos ⟨rfl, hx, hk⟩]

theorem tells_old {s : List UInt8} {e k : Nat} (h : (tells s (0, 0)).1 < e) : tells s (e, k) = (e, k) := by
  unfold tells at h ⊢
  split at h
  · rename_i hc
    rw [if_neg]
    rintro ⟨_, h1, _⟩
    dsimp only at h h1
    omega
  · rename_i hc
    rw [if_neg]
    rintro ⟨h0, h1, h2⟩
    exact hc ⟨h0, by dsimp only at h1 ⊢; omega, h2⟩

theorem Holds.newest {l : List ByteArray} {levels : Int} {e : Nat} {b : Book} (h : Holds l levels e b) (hl : levels ≤ 4) : newest l = (e, (bookText b).length) := by
  have ht := text_len h.ok hl
  unfold Ch.newest
  rcases Nat.mod_two_eq_zero_or_one e with he | he
  · have h1 := h.head
    have h2 := h.old
    rw [he] at h1
    rw [show (e + 1) % 2 = 1 by omega] at h2
    rw [tells_head (x := (0, 0)) h1 h.fit ht (by show 0 < e; exact h.pos), tells_old h2]
  · have h1 := h.head
    have h2 := h.old
    rw [he] at h1
    rw [show (e + 1) % 2 = 0 by omega] at h2
    exact tells_head h1 h.fit ht h2

/-- what holds a book opens as it -/
theorem Holds.opens {l : List ByteArray} {levels : Int} {e : Nat} {b : Book} (h : Holds l levels e b) (hl : levels ≤ 4) : openOf l levels = some (e, b) := by
  unfold openOf
  rw [h.newest hl]
  dsimp only
  rw [if_neg (by have := h.pos; omega), h.text, parse_text h.ok hl]
  rfl

end Ch

namespace Ch
open Go

/-- sectors written one behind another, from i on, till one falls -/
def writes : Disk → Nat → List ByteArray → Disk × Int
  | d, _, [] => (d, 0)
  | d, i, s :: l => if (d.write (i : Int) s).2 = 0 then writes (d.write (i : Int) s).1 (i + 1) l else d.write (i : Int) s

/-- a text in sectors' parts -/
def chunksB (s : List UInt8) : List ByteArray := (chunks s.length s).map fun c => ⟨c.toArray⟩

def Disk.keep (d : Disk) (e : Nat) (b : Book) : Disk × Int :=
  let r := writes d (2 + e % 2 * 10) (chunksB (bookText b))
  if r.2 = 0 then
    let f := r.1.flush
    if f.2 = 0 then
      let h := f.1.write ((e % 2 : Nat) : Int) ⟨(head e (bookText b).length).toArray⟩
      if h.2 = 0 then h.1.flush else h
    else f
  else r

def Disk.format (d : Disk) : Disk × Int :=
  let a := d.write 1 ⟨#[]⟩
  if a.2 = 0 then
    let r := a.1.write 2 ⟨(bookText ⟨0, [], []⟩).toArray⟩
    if r.2 = 0 then
      let f := r.1.flush
      if f.2 = 0 then
        let h := f.1.write 0 ⟨(head 2 (bookText ⟨0, [], []⟩).length).toArray⟩
        if h.2 = 0 then h.1.flush else h
      else f
    else r
  else a

/-! ### how the rounds of the loop go -/

theorem writes_snoc : ∀ (l : List ByteArray) (d : Disk) (i : Nat) (s : ByteArray), (writes d i l).2 = 0 → writes d i (l ++ [s]) = (writes d i l).1.write ((i + l.length : Nat) : Int) s
  | [], d, i, s, _ => by
    simp only [List.nil_append, writes, List.length_nil, Nat.add_zero]
    split
    · rename_i h; rw [← h]
    · rfl
  | x :: l, d, i, s, h => by
    simp only [List.cons_append, writes, List.length_cons] at h ⊢
    split at h
    · rename_i hx
      rw [if_pos hx, if_pos hx, writes_snoc l _ (i + 1) s h, show i + 1 + l.length = i + (l.length + 1) by omega]
    · rename_i hx
      exact absurd h hx

theorem writes_bad : ∀ (l m : List ByteArray) (d : Disk) (i : Nat), (writes d i l).2 ≠ 0 → writes d i (l ++ m) = writes d i l
  | [], m, d, i, h => absurd rfl h
  | x :: l, m, d, i, h => by
    simp only [List.cons_append, writes] at h ⊢
    split
    · rename_i hx
      rw [if_pos hx] at h
      exact writes_bad l m _ _ h
    · rfl

theorem chunks_nil (n : Nat) : chunks n [] = [] := by cases n <;> rfl

theorem chunks_get : ∀ (n : Nat) (s : List UInt8) (k : Nat), s.length ≤ n → 64 * k < s.length → (chunks n s)[k]? = some ((s.drop (64 * k)).take 64)
  | 0, s, k, h, hk => by omega
  | n + 1, s, k, h, hk => by
    have hs : s ≠ [] := by rintro rfl; simp at hk
    unfold chunks
    rw [if_neg hs]
    cases k with
    | zero => simp
    | succ k =>
      rw [List.getElem?_cons_succ, chunks_get n (s.drop 64) k (by simp; omega) (by simp; omega), List.drop_drop, show 64 + 64 * k = 64 * (k + 1) by omega]

theorem chunks_len : ∀ (n : Nat) (s : List UInt8), s.length ≤ n → (chunks n s).length = (s.length + 63) / 64
  | 0, s, h => by
    obtain rfl : s = [] := List.length_eq_zero_iff.1 (by omega)
    simp [chunks]
  | n + 1, s, h => by
    unfold chunks
    split
    · rename_i e; subst e; simp
    · rename_i e
      have : s.length ≠ 0 := fun h0 => e (List.length_eq_zero_iff.1 h0)
      rw [List.length_cons, chunks_len n _ (by simp; omega), List.length_drop]
      omega

theorem chunks_small : ∀ (n : Nat) (s c : List UInt8), c ∈ chunks n s → c.length ≤ 64
  | 0, s, c, h => by simp [chunks] at h
  | n + 1, s, c, h => by
    unfold chunks at h
    split at h
    · cases h
    · rcases List.mem_cons.1 h with rfl | h
      · simp; omega
      · exact chunks_small n _ c h

theorem chunksB_len (s : List UInt8) : (chunksB s).length = (s.length + 63) / 64 := by
  unfold chunksB; rw [List.length_map, chunks_len _ _ (Nat.le_refl _)]

theorem chunksB_small {s : List UInt8} {c : ByteArray} (h : c ∈ chunksB s) : c.size ≤ 64 := by
  unfold chunksB at h
  obtain ⟨x, hx, rfl⟩ := List.mem_map.1 h
  have := chunks_small _ _ x hx
  simpa [ByteArray.size] using this

/-! ### what is written -/

theorem fullS_list (s : ByteArray) : (fullS s).data.toList = s.data.toList ++ List.replicate (64 - s.size) 0 := by
  simp [fullS, zeros, ByteArray.data_append]

/-- the bytes of sectors, one behind another, begin with the text -/
theorem chunks_flat : ∀ (n : Nat) (s : List UInt8) (r : List UInt8), s.length ≤ n → ((((chunks n s).map fun c => fullS ⟨c.toArray⟩).flatMap (·.data.toList)) ++ r).take s.length = s
  | 0, s, r, h => by
    obtain rfl : s = [] := List.length_eq_zero_iff.1 (by omega)
    simp
  | n + 1, s, r, h => by
    unfold chunks
    split
    · rename_i e; subst e; simp
    · rename_i e
      rw [List.map_cons, List.flatMap_cons, fullS_list, List.append_assoc]
      show (((s.take 64).toArray.toList ++ _) ++ _).take s.length = s
      rw [List.toList_toArray]
      by_cases h64 : 64 ≤ s.length
      · have hz : (⟨(s.take 64).toArray⟩ : ByteArray).size = 64 := by simp [ByteArray.size]; omega
        rw [hz]
        simp only [Nat.sub_self, List.replicate_zero, List.append_nil]
        rw [List.take_append]
        have ih := chunks_flat n (s.drop 64) r (by simp; omega)
        rw [List.length_drop] at ih
        rw [List.take_of_length_le (by simp; omega)]
        have hl : (s.take 64).length = 64 := by simp; omega
        rw [hl, ih]
        exact List.take_append_drop 64 s
      · have hd : s.take 64 = s := List.take_of_length_le (by omega)
        rw [hd, List.append_assoc, List.take_append_of_le_length (Nat.le_refl _), List.take_length]

/-- sectors set one behind another -/
def setAll : List ByteArray → Nat → List ByteArray → List ByteArray
  | n, _, [] => n
  | n, i, s :: l => setAll (n.set i (fullS s)) (i + 1) l

theorem setAll_length : ∀ (l n : List ByteArray) (i : Nat), (setAll n i l).length = n.length
  | [], n, i => rfl
  | s :: l, n, i => by rw [setAll, setAll_length l, List.length_set]

theorem setAll_out : ∀ (l n : List ByteArray) (i k : Nat), (k < i ∨ i + l.length ≤ k) → (setAll n i l)[k]? = n[k]?
  | [], n, i, k, _ => rfl
  | s :: l, n, i, k, h => by
    simp only [List.length_cons] at h
    rw [setAll, setAll_out l _ (i + 1) k (by omega), List.getElem?_set_ne (by omega)]

theorem setAll_in : ∀ (l n : List ByteArray) (i : Nat), i + l.length ≤ n.length → (setAll n i l).drop i = l.map fullS ++ n.drop (i + l.length)
  | [], n, i, _ => by simp [setAll]
  | s :: l, n, i, h => by
    simp only [List.length_cons] at h
    have ih := setAll_in l (n.set i (fullS s)) (i + 1) (by simp; omega)
    have hi : i < (setAll (n.set i (fullS s)) (i + 1) l).length := by rw [setAll_length, List.length_set]; omega
    rw [setAll, List.drop_eq_getElem_cons hi, ih]
    have e : (setAll (n.set i (fullS s)) (i + 1) l)[i] = fullS s := by
      have h2 := setAll_out l (n.set i (fullS s)) (i + 1) i (Or.inl (by omega))
      rw [List.getElem?_set_self (by omega), List.getElem?_eq_getElem hi] at h2
      exact Option.some.inj h2
    rw [e, List.map_cons, List.cons_append, List.drop_set_of_lt (by omega), List.length_cons, show i + 1 + l.length = i + (l.length + 1) by omega]

/-- what a half's bytes begin with, when a text was written there -/
theorem half_text {n : List ByteArray} {e : Nat} {s : List UInt8} (hn : 22 ≤ n.length) (hs : s.length ≤ 640) : (halfOf (setAll n (2 + e % 2 * 10) (chunksB s)) e).take s.length = s := by
  have hl := chunksB_len s
  unfold halfOf
  rw [setAll_in _ _ _ (by omega), List.take_append, List.flatMap_append, List.take_of_length_le (i := 10) (by rw [List.length_map]; omega)]
  unfold chunksB
  rw [List.map_map]
  exact chunks_flat s.length s _ (Nat.le_refl _)

/-! ### states of a disk that holds a book -/

/-- a disk that stands, with all kept -/
structure Disk.Calm (d : Disk) (n : Nat) : Prop where
  wf : d.WF n
  up : d.down = false
  none : d.wait = []
  all : d.kept = d.now

theorem halfOf_congr {l m : List ByteArray} {e : Nat} (h : ∀ k, 2 + e % 2 * 10 ≤ k → k < 2 + e % 2 * 10 + 10 → m[k]? = l[k]?) : halfOf m e = halfOf l e := by
  unfold halfOf
  congr 1
  apply List.ext_getElem?
  intro i
  by_cases hi : i < 10
  · rw [List.getElem?_take_of_lt hi, List.getElem?_take_of_lt hi, List.getElem?_drop, List.getElem?_drop]
    exact h _ (by omega) (by omega)
  · rw [List.getElem?_eq_none (by simp; omega), List.getElem?_eq_none (by simp; omega)]

theorem getD_of {l m : List ByteArray} {k : Nat} (h : m[k]? = l[k]?) : m.getD k ⟨#[]⟩ = l.getD k ⟨#[]⟩ := by
  rw [List.getD_eq_getElem?_getD, List.getD_eq_getElem?_getD, h]

/-- what holds a book holds it where the other half is changed -/
theorem Holds.congr {l m : List ByteArray} {levels : Int} {e : Nat} {b : Book} (h : Holds l levels e b) (h0 : m[0]? = l[0]?) (h1 : m[1]? = l[1]?)
    (hh : ∀ k, 2 + e % 2 * 10 ≤ k → k < 2 + e % 2 * 10 + 10 → m[k]? = l[k]?) : Holds m levels e b := by
  refine ⟨h.pos, h.fit, h.ok, ?_, ?_, ?_⟩
  · rcases Nat.mod_two_eq_zero_or_one e with he | he
    · have := h.head; rw [he] at this ⊢; rw [getD_of h0]; exact this
    · have := h.head; rw [he] at this ⊢; rw [getD_of h1]; exact this
  · rw [halfOf_congr hh]; exact h.text
  · rcases Nat.mod_two_eq_zero_or_one e with he | he
    · have := h.old; rw [show (e + 1) % 2 = 1 by omega] at this ⊢; rw [getD_of h1]; exact this
    · have := h.old; rw [show (e + 1) % 2 = 0 by omega] at this ⊢; rw [getD_of h0]; exact this

/-- the head of a sector that holds a book tells its number -/
theorem Holds.told {l : List ByteArray} {levels : Int} {e : Nat} {b : Book} (h : Holds l levels e b) (hl : levels ≤ 4) : (tells (l.getD (e % 2) ⟨#[]⟩).data.toList (0, 0)).1 = e := by
  rw [tells_head (x := (0, 0)) h.head h.fit (text_len h.ok hl) (show 0 < e from h.pos)]

/-- the new head is written: the new book is held -/
theorem Holds.next {l : List ByteArray} {levels : Int} {e : Nat} {b b' : Book} (h : Holds l levels e b) (hl : levels ≤ 4) (hn : 22 ≤ l.length) (hb : bookFault b' levels = 0) (he : e + 1 < 4294967296)
    (ht : (halfOf l (e + 1)).take (bookText b').length = bookText b') : Holds (l.set ((e + 1) % 2) (fullS ⟨(Ch.head (e + 1) (bookText b').length).toArray⟩)) levels (e + 1) b' := by
  refine ⟨by omega, he, hb, ?_, ?_, ?_⟩
  · refine ⟨List.replicate (64 - 9) 0, ?_⟩
    rw [List.getD_eq_getElem?_getD, List.getElem?_set_self (by omega)]
    simp only [Option.getD_some]
    rw [fullS_list]
    rfl
  · rw [halfOf_congr (l := l)]
    · exact ht
    · intro k h1 _
      rw [List.getElem?_set_ne (by omega)]
  · rw [show (e + 1 + 1) % 2 = e % 2 by omega]
    rw [getD_of (l := l) (List.getElem?_set_ne (by omega)), h.told hl]
    omega

/-! ### what writes do to a disk -/

/-- sectors that were to be, in a disk's list of what waits -/
def queued : Nat → List ByteArray → List (Nat × ByteArray)
  | _, [] => []
  | i, s :: l => (i, fullS s) :: queued (i + 1) l

theorem queued_in : ∀ (l : List ByteArray) (i : Nat) (t : Nat × ByteArray), t ∈ queued i l → i ≤ t.1 ∧ t.1 < i + l.length
  | s :: l, i, t, h => by
    rcases List.mem_cons.1 h with rfl | h
    · simp
    · have := queued_in l (i + 1) t h
      simp only [List.length_cons]
      omega

theorem write_up {d : Disk} {n : Nat} (h : d.WF n) (i : Nat) (s : ByteArray) (hi : i < n) (hs : s.size ≤ 64) :
    (d.write (i : Int) s = (d.stepped, 9) ∧ d.stepped.down = true) ∨
    ((d.write (i : Int) s).2 = 0 ∧ (d.write (i : Int) s).1 = { d.stepped with now := d.now.set i (fullS s), wait := d.wait ++ [(i, fullS s)] } ∧ d.stepped.down = false) := by
  unfold Disk.write
  rw [if_neg (by have := h.now; omega)]
  split
  · rename_i hd; exact Or.inl ⟨rfl, hd⟩
  · rename_i hd; exact Or.inr ⟨rfl, by simp, by simpa using hd⟩

/-- what is left of a disk behind writes: it fell, with some of them waiting; or it stands, with all of them -/
theorem writes_did : ∀ (l : List ByteArray) (d : Disk) (n i : Nat), d.WF n → d.down = false → i + l.length ≤ n → (∀ s ∈ l, s.size ≤ 64) →
    (writes d i l).1.WF n ∧ (writes d i l).1.kept = d.kept ∧ (d.fuse = -1 → (writes d i l).2 = 0 ∧ (writes d i l).1.fuse = -1) ∧
    (((writes d i l).2 = 9 ∧ (writes d i l).1.down = true ∧ ∃ l', (writes d i l).1.wait = d.wait ++ l' ∧ ∀ t ∈ l', i ≤ t.1 ∧ t.1 < i + l.length) ∨
     ((writes d i l).2 = 0 ∧ (writes d i l).1.down = false ∧ (writes d i l).1.wait = d.wait ++ queued i l ∧ (writes d i l).1.now = setAll d.now i l))
  | [], d, n, i, h, hd, _, _ => ⟨h, rfl, fun hf => ⟨rfl, hf⟩, Or.inr ⟨rfl, hd, by simp [writes, queued], rfl⟩⟩
  | s :: l, d, n, i, h, hd, hi, hs => by
    simp only [List.length_cons] at hi
    have hw := h.write (i : Int) s
    rcases write_up h i s (by omega) (hs s (by simp)) with ⟨hr, hdn⟩ | ⟨h0, h1, hup⟩
    · have hfz : d.fuse = 0 := by
        unfold Disk.stepped at hdn
        rw [if_neg (by rw [hd]; simp)] at hdn
        split at hdn
        · assumption
        · dsimp only at hdn; rw [hd] at hdn; cases hdn
      have e : writes d i (s :: l) = (d.stepped, 9) := by rw [writes, if_neg (by rw [hr]; simp), hr]
      rw [e]
      refine ⟨h.stepped, stepped_kept d, fun hf => by omega, Or.inl ⟨rfl, hdn, [], ?_, by simp⟩⟩
      rw [List.append_nil]; exact stepped_wait d
    · have e : writes d i (s :: l) = writes (d.write (i : Int) s).1 (i + 1) l := by rw [writes, if_pos h0]
      have hk : (d.write (i : Int) s).1.kept = d.kept := by rw [h1]; exact stepped_kept d
      have hdw : (d.write (i : Int) s).1.down = false := by rw [h1]; exact hup
      obtain ⟨r1, r2, r3, r4⟩ := writes_did l (d.write (i : Int) s).1 n (i + 1) hw hdw (by omega) (fun x hx => hs x (by simp [hx]))
      rw [e]
      have hww : (d.write (i : Int) s).1.wait = d.wait ++ [(i, fullS s)] := by rw [h1]
      have hnn : (d.write (i : Int) s).1.now = d.now.set i (fullS s) := by rw [h1]
      refine ⟨r1, r2.trans hk, ?_, ?_⟩
      · intro hf
        refine r3 ?_
        rw [h1]
        show d.stepped.fuse = -1
        unfold Disk.stepped
        rw [if_neg (by rw [hd]; simp), if_neg (by omega), hf]
        rfl
      · rcases r4 with ⟨q1, q2, l', q3, q4⟩ | ⟨q1, q2, q3, q4⟩
        · refine Or.inl ⟨q1, q2, (i, fullS s) :: l', ?_, ?_⟩
          · rw [q3, hww, List.append_assoc]; rfl
          · intro t ht
            simp only [List.length_cons]
            rcases List.mem_cons.1 ht with rfl | ht
            · simp
            · have := q4 t ht; omega
        · refine Or.inr ⟨q1, q2, ?_, ?_⟩
          · rw [q3, hww, List.append_assoc]; rfl
          · rw [q4, hnn]; rfl

theorem keptOf_out (keep : Nat) : ∀ (l : List (Nat × ByteArray)) (i : Nat) (k : List ByteArray) (j : Nat), (∀ t ∈ l, t.1 ≠ j) → (keptOf keep i l k)[j]? = k[j]?
  | [], _, _, _, _ => rfl
  | t :: l, i, k, j, h => by
    rw [keptOf, keptOf_out keep l (i + 1) _ j (fun x hx => h x (by simp [hx]))]
    split
    · rw [List.getElem?_set_ne (h t (by simp))]
    · rfl

theorem flush_up {d : Disk} (hd : d.down = false) :
    (d.flush = (d.stepped, 9) ∧ d.stepped.down = true ∧ d.fuse = 0) ∨ (d.flush.2 = 0 ∧ d.flush.1 = { d.stepped with kept := d.now, wait := [] } ∧ d.stepped.down = false ∧ (d.fuse = -1 → d.stepped.fuse = -1)) := by
  unfold Disk.flush
  split
  · rename_i h
    refine Or.inl ⟨rfl, h, ?_⟩
    unfold Disk.stepped at h
    rw [if_neg (by rw [hd]; simp)] at h
    split at h
    · assumption
    · dsimp only at h; rw [hd] at h; cases h
  · rename_i h
    refine Or.inr ⟨rfl, rfl, by simpa using h, ?_⟩
    intro hf
    unfold Disk.stepped
    rw [if_neg (by rw [hd]; simp), if_neg (by omega), hf]
    rfl

/-- what a fall leaves of a disk whose waiting writes miss the half and the heads -/
theorem Holds.fallen {d : Disk} {levels : Int} {e : Nat} {b : Book} (h : Holds d.kept levels e b) (hw : ∀ t ∈ d.wait, 2 + (e + 1) % 2 * 10 ≤ t.1 ∧ t.1 < 2 + (e + 1) % 2 * 10 + 10) (keep : Nat) : Holds (d.restart keep).now levels e b := by
  refine h.congr (keptOf_out keep _ _ _ 0 ?_) (keptOf_out keep _ _ _ 1 ?_) (fun k h1 h2 => keptOf_out keep _ _ _ k ?_)
  · intro t ht; have := hw t ht; omega
  · intro t ht; have := hw t ht; omega
  · intro t ht; have := hw t ht; omega

/-- A BOOK IS KEPT, or the disk fell: then, whatever of what was written is kept, there is the old one or the new one. -/
theorem keep_law {d : Disk} {n : Nat} {levels : Int} {e : Nat} {b b' : Book} (hc : d.Calm n) (hn : 22 ≤ n) (h : Holds d.now levels e b) (hl : levels ≤ 4) (hb : bookFault b' levels = 0) (he : e + 1 < 4294967296) :
    (d.keep (e + 1) b').1.WF n ∧ (d.fuse = -1 → (d.keep (e + 1) b').2 = 0 ∧ (d.keep (e + 1) b').1.fuse = -1) ∧
    (((d.keep (e + 1) b').2 = 0 ∧ (d.keep (e + 1) b').1.Calm n ∧ Holds (d.keep (e + 1) b').1.now levels (e + 1) b') ∨
     ((d.keep (e + 1) b').2 = 9 ∧ (d.keep (e + 1) b').1.down = true ∧ ∀ keep, Holds ((d.keep (e + 1) b').1.restart keep).now levels e b ∨ Holds ((d.keep (e + 1) b').1.restart keep).now levels (e + 1) b')) := by
  have ht := text_len hb hl
  have hcl := chunksB_len (bookText b')
  have hk : Holds d.kept levels e b := by rw [hc.all]; exact h
  obtain ⟨r1, r2, r3, r4⟩ := writes_did (chunksB (bookText b')) d n (2 + (e + 1) % 2 * 10) hc.wf hc.up (by omega) (fun s hs => chunksB_small hs)
  unfold Disk.keep
  generalize writes d (2 + (e + 1) % 2 * 10) (chunksB (bookText b')) = r at *
  rcases r4 with ⟨q1, q2, l', q3, q4⟩ | ⟨q1, q2, q3, q4⟩
  · rw [if_neg (by rw [q1]; decide)]
    refine ⟨r1, fun hf => by have := (r3 hf).1; omega, Or.inr ⟨q1, q2, fun keep => Or.inl (Holds.fallen (by rw [r2]; exact hk) ?_ keep)⟩⟩
    intro t ht
    rw [q3, hc.none, List.nil_append] at ht
    have := q4 t ht
    omega
  · rw [if_pos q1]
    have hwait : ∀ t ∈ r.1.wait, 2 + (e + 1) % 2 * 10 ≤ t.1 ∧ t.1 < 2 + (e + 1) % 2 * 10 + 10 := by
      intro t ht
      rw [q3, hc.none, List.nil_append] at ht
      have := queued_in _ _ t ht
      omega
    have hN : Holds r.1.now levels e b := by
      rw [q4]
      refine h.congr (setAll_out _ _ _ 0 (by omega)) (setAll_out _ _ _ 1 (by omega)) (fun k h1 h2 => setAll_out _ _ _ k ?_)
      omega
    have hT : (halfOf r.1.now (e + 1)).take (bookText b').length = bookText b' := by
      rw [q4]; exact half_text (by rw [hc.wf.now]; exact hn) ht
    have hfl := r1.flush
    rcases flush_up q2 with ⟨f1, f2, f3⟩ | ⟨f1, f2, f3, f4⟩
    · rw [f1] at hfl ⊢
      rw [if_neg (show ¬ (9 : Int) = 0 by decide)]
      refine ⟨hfl, fun hf => by have := (r3 hf).2; omega, Or.inr ⟨rfl, f2, fun keep => Or.inl (Holds.fallen ?_ ?_ keep)⟩⟩
      · show Holds r.1.stepped.kept levels e b
        rw [stepped_kept, r2]; exact hk
      · show ∀ t ∈ r.1.stepped.wait, _
        rw [stepped_wait]; exact hwait
    · rw [if_pos f1]
      generalize hF : r.1.flush.1 = F at *
      have hFn : F.now = r.1.now := by rw [f2]; exact stepped_now _
      have hFk : F.kept = r.1.now := by rw [f2]
      have hFw : F.wait = [] := by rw [f2]
      have hFd : F.down = false := by rw [f2]; exact f3
      have hFf : d.fuse = -1 → F.fuse = -1 := fun hf => by rw [f2]; exact f4 (r3 hf).2
      clear f2
      have hsz : (⟨(head (e + 1) (bookText b').length).toArray⟩ : ByteArray).size ≤ 64 := by show 9 ≤ 64; decide
      have hlen : 22 ≤ r.1.now.length := by rw [r1.now]; exact hn
      have hnew := hN.next hl hlen hb he hT
      have hwr := hfl.write ((((e + 1) % 2 : Nat)) : Int) ⟨(head (e + 1) (bookText b').length).toArray⟩
      rcases write_up hfl ((e + 1) % 2) ⟨(head (e + 1) (bookText b').length).toArray⟩ (by omega) hsz with ⟨g1, g2⟩ | ⟨g1, g2, g3⟩
      · rw [g1] at hwr ⊢
        rw [if_neg (show ¬ (9 : Int) = 0 by decide)]
        have hz : F.fuse = 0 := by
          unfold Disk.stepped at g2
          rw [if_neg (by rw [hFd]; simp)] at g2
          split at g2
          · assumption
          · dsimp only at g2; rw [hFd] at g2; cases g2
        refine ⟨hwr, fun hf => by have := hFf hf; omega, Or.inr ⟨rfl, g2, fun keep => Or.inl (Holds.fallen ?_ ?_ keep)⟩⟩
        · show Holds F.stepped.kept levels e b
          rw [stepped_kept, hFk]; exact hN
        · show ∀ t ∈ F.stepped.wait, _
          rw [stepped_wait, hFw]; simp
      · rw [if_pos g1]
        generalize hG : (F.write ((((e + 1) % 2 : Nat)) : Int) ⟨(head (e + 1) (bookText b').length).toArray⟩).1 = G at *
        have hGn : G.now = r.1.now.set ((e + 1) % 2) (fullS ⟨(head (e + 1) (bookText b').length).toArray⟩) := by rw [g2, ← hFn]
        have hGk : G.kept = r.1.now := by rw [g2]; show F.stepped.kept = _; rw [stepped_kept, hFk]
        have hGw : G.wait = [((e + 1) % 2, fullS ⟨(head (e + 1) (bookText b').length).toArray⟩)] := by rw [g2]; show F.wait ++ _ = _; rw [hFw]; rfl
        have hGd : G.down = false := by rw [g2]; exact g3
        have hGf : d.fuse = -1 → G.fuse = -1 := fun hf => by
          rw [g2]
          show F.stepped.fuse = -1
          unfold Disk.stepped
          rw [if_neg (by rw [hFd]; simp), if_neg (by rw [hFf hf]; omega), hFf hf]
          rfl
        clear g2
        have hgl := hwr.flush
        rcases flush_up hGd with ⟨k1, k2, k3⟩ | ⟨k1, k2, k3, k4⟩
        · rw [k1] at hgl ⊢
          refine ⟨hgl, fun hf => by have := hGf hf; omega, Or.inr ⟨rfl, k2, fun keep => ?_⟩⟩
          have e1 : (G.stepped.restart keep).now = if keepBit keep 0 then r.1.now.set ((e + 1) % 2) (fullS ⟨(head (e + 1) (bookText b').length).toArray⟩) else r.1.now := by
            show keptOf keep 0 G.stepped.wait G.stepped.kept = _
            rw [stepped_wait, stepped_kept, hGw, hGk]
            rfl
          rw [e1]
          split
          · exact Or.inr hnew
          · exact Or.inl hN
        · refine ⟨hgl, fun hf => ⟨k1, ?_⟩, Or.inl ⟨k1, ⟨hgl, ?_, ?_, ?_⟩, ?_⟩⟩
          · rw [k2]; exact k4 (hGf hf)
          · rw [k2]; exact k3
          · rw [k2]
          · rw [k2]; show G.now = G.stepped.now; rw [stepped_now]
          · rw [k2]; show Holds G.stepped.now _ _ _; rw [stepped_now, hGn]; exact hnew

theorem write_calm {d : Disk} {n : Nat} (h : d.WF n) (hd : d.down = false) (hf : d.fuse = -1) (i : Nat) (s : ByteArray) (hi : i < n) (hs : s.size ≤ 64) :
    d.write (i : Int) s = ({ d with now := d.now.set i (fullS s), wait := d.wait ++ [(i, fullS s)] }, 0) := by
  have e : d.stepped = d := by
    unfold Disk.stepped
    rw [if_neg (by rw [hd]; simp), if_neg (by omega), hf]
    cases d
    dsimp only at hf ⊢
    rw [hf]
    rfl
  unfold Disk.write
  rw [if_neg (by have := h.now; omega), e, if_neg (by rw [hd]; simp)]
  rfl

theorem flush_calm {d : Disk} (hd : d.down = false) (hf : d.fuse = -1) : d.flush = ({ d with kept := d.now, wait := [] }, 0) := by
  have e : d.stepped = d := by
    unfold Disk.stepped
    rw [if_neg (by rw [hd]; simp), if_neg (by omega), hf]
    cases d
    dsimp only at hf ⊢
    rw [hf]
    rfl
  unfold Disk.flush
  rw [e, if_neg (by rw [hd]; simp)]

theorem text_empty : bookText ⟨0, [], []⟩ = [48, 32, 48, 32, 48] := by
  have e : Lib.itoa 0 = [48] := by
    unfold Lib.itoa
    rw [if_neg (by omega)]
    exact Lib.decDigits_one (by decide)
  show joinWords [Lib.itoa 0, Lib.itoa 0, Lib.itoa 0] = _
  rw [e]
  rfl

theorem zero_tells (x : Nat × Nat) : tells (zeros 64).data.toList x = x := by
  unfold tells
  rw [if_neg]
  rintro ⟨h, _⟩
  simp [byteOf, zeros] at h

/-- A DISK IS FORMATTED: it holds the empty book. -/
theorem format_law {d : Disk} {n : Nat} (hc : d.Calm n) (hf : d.fuse = -1) (hn : 22 ≤ n) (levels : Int) : d.format.2 = 0 ∧ d.format.1.Calm n ∧ d.format.1.fuse = -1 ∧ Holds d.format.1.now levels 2 ⟨0, [], []⟩ := by
  have e0 : d.write 1 ⟨#[]⟩ = ({ d with now := d.now.set 1 (fullS ⟨#[]⟩), wait := d.wait ++ [(1, fullS ⟨#[]⟩)] }, 0) := write_calm hc.wf hc.up hf 1 ⟨#[]⟩ (by omega) (by decide)
  have w0 := hc.wf.write 1 ⟨#[]⟩
  unfold Disk.format
  rw [e0] at w0 ⊢
  rw [if_pos rfl]
  dsimp only at w0 ⊢
  have s1 : (⟨(bookText ⟨0, [], []⟩).toArray⟩ : ByteArray).size ≤ 64 := by rw [text_empty]; decide
  have w1 := w0.write 2 ⟨(bookText ⟨0, [], []⟩).toArray⟩
  have e1 := write_calm w0 hc.up hf 2 ⟨(bookText ⟨0, [], []⟩).toArray⟩ (by omega) s1
  rw [show ((2 : Nat) : Int) = 2 from rfl] at e1
  rw [e1] at w1 ⊢
  rw [if_pos rfl]
  dsimp only at w1 ⊢
  have w2 := w1.flush
  rw [flush_calm (by exact hc.up) (by exact hf)] at w2 ⊢
  rw [if_pos rfl]
  dsimp only at w2 ⊢
  have s2 : (⟨(head 2 (bookText ⟨0, [], []⟩).length).toArray⟩ : ByteArray).size ≤ 64 := by show 9 ≤ 64; decide
  have w3 := w2.write 0 ⟨(head 2 (bookText ⟨0, [], []⟩).length).toArray⟩
  have e2 := write_calm w2 hc.up hf 0 ⟨(head 2 (bookText ⟨0, [], []⟩).length).toArray⟩ (by omega) s2
  rw [show ((0 : Nat) : Int) = 0 from rfl] at e2
  rw [e2] at w3 ⊢
  rw [if_pos rfl]
  dsimp only at w3 ⊢
  have w4 := w3.flush
  rw [flush_calm (by exact hc.up) (by exact hf)] at w4 ⊢
  dsimp only at w4 ⊢
  have hl := hc.wf.now
  refine ⟨rfl, ⟨w4, hc.up, rfl, rfl⟩, hf, ?_⟩
  have hb : bookFault ⟨0, [], []⟩ levels = 0 := by simp [bookFault, staysFault, jobsFault]
  refine ⟨by decide, by decide, hb, ?_, ?_, ?_⟩
  · refine ⟨List.replicate (64 - 9) 0, ?_⟩
    rw [List.getD_eq_getElem?_getD]
    show ((((d.now.set 1 _).set 2 _).set 0 _)[0]?.getD _).data.toList = _
    rw [List.getElem?_set_self (by simp; omega)]
    simp only [Option.getD_some]
    rw [fullS_list]
    rfl
  · unfold halfOf
    show ((List.take 10 (List.drop 2 (((d.now.set 1 _).set 2 _).set 0 _))).flatMap _).take _ = _
    have hlt : 2 < (((d.now.set 1 (fullS ⟨#[]⟩)).set 2 (fullS ⟨(bookText ⟨0, [], []⟩).toArray⟩)).set 0 (fullS ⟨(head 2 (bookText ⟨0, [], []⟩).length).toArray⟩)).length := by simp; omega
    have he : (((d.now.set 1 (fullS ⟨#[]⟩)).set 2 (fullS ⟨(bookText ⟨0, [], []⟩).toArray⟩)).set 0 (fullS ⟨(head 2 (bookText ⟨0, [], []⟩).length).toArray⟩))[2] = fullS ⟨(bookText ⟨0, [], []⟩).toArray⟩ := by
      have h2 : (((d.now.set 1 (fullS ⟨#[]⟩)).set 2 (fullS ⟨(bookText ⟨0, [], []⟩).toArray⟩)).set 0 (fullS ⟨(head 2 (bookText ⟨0, [], []⟩).length).toArray⟩))[2]? = some (fullS ⟨(bookText ⟨0, [], []⟩).toArray⟩) := by
        rw [List.getElem?_set_ne (by decide), List.getElem?_set_self (by simp; omega)]
      rw [List.getElem?_eq_getElem hlt] at h2
      exact Option.some.inj h2
    rw [List.drop_eq_getElem_cons hlt, he, List.take_succ_cons, List.flatMap_cons, fullS_list, List.append_assoc]
    show (((bookText ⟨0, [], []⟩).toArray.toList ++ _)).take _ = _
    rw [List.toList_toArray, List.take_append_of_le_length (Nat.le_refl _), List.take_length]
  · show (tells ((((d.now.set 1 (fullS ⟨#[]⟩)).set 2 _).set 0 _).getD 1 _).data.toList (0, 0)).1 < 2
    rw [List.getD_eq_getElem?_getD, List.getElem?_set_ne (by decide), List.getElem?_set_ne (by decide), List.getElem?_set_self (by omega)]
    simp only [Option.getD_some]
    rw [show fullS ⟨#[]⟩ = zeros 64 by
      unfold fullS
      show (⟨#[]⟩ : ByteArray) ++ zeros 64 = zeros 64
      apply ByteArray.ext
      rw [ByteArray.data_append]; simp]
    rw [zero_tells]
    decide

theorem calm_new (n : Nat) : (Disk.new n).Calm n := ⟨Disk.WF.new n, rfl, rfl, rfl⟩

/-- a new disk tells nothing -/
theorem newest_new (n : Nat) (h : 22 ≤ n) : newest (Disk.new n).now = (0, 0) := by
  have g : ∀ k, k < n → (Disk.new n).now.getD k ⟨#[]⟩ = zeros 64 := by
    intro k hk
    rw [List.getD_eq_getElem?_getD]
    simp [Disk.new, hk]
  unfold newest
  rw [g 1 (by omega), g 0 (by omega), zero_tells, zero_tells]

theorem open_new (n : Nat) (h : 22 ≤ n) (levels : Int) : openOf (Disk.new n).now levels = none := by
  unfold openOf
  rw [newest_new n h, if_pos rfl]

end Ch

namespace Go.Proofs.YtplomeacjbkgnacDoor
open Go.RowKit

theorem toList_loop (s : ByteArray) : ∀ (n i : Nat) (r : List UInt8), s.size - i = n → ByteArray.toList.loop s i r = r.reverse ++ s.data.toList.drop i := by
  intro n
  induction n with
  | zero =>
    intro i r h
    unfold ByteArray.toList.loop
    rw [if_neg (by omega), List.drop_of_length_le (by simp only [Array.length_toList]; show s.size ≤ i; omega), List.append_nil]
  | succ n ih =>
    intro i r h
    unfold ByteArray.toList.loop
    rw [if_pos (by omega), ih (i+1) _ (by omega)]
    have hi : i < s.data.toList.length := by simp only [Array.length_toList]; show i < s.size; omega
    rw [List.drop_eq_getElem_cons hi]
    have : s.get! i = s.data.toList[i] := by
      unfold ByteArray.get!
      rw [Array.getElem_toList]
      exact getElem!_pos s.data i (by show i < s.size; omega)
    rw [this]; simp

theorem toList_data (s : ByteArray) : s.toList = s.data.toList := by
  unfold ByteArray.toList
  rw [toList_loop s _ 0 [] rfl]; rfl

theorem str_ne {s t : ByteArray} (h : s ≠ t) : (s.toList == t.data.toList) = false := by
  rw [toList_data]
  apply Classical.byContradiction
  intro hc
  have hc : s.data.toList = t.data.toList := by simpa using hc
  apply h
  cases s; cases t
  simp only at hc
  congr 1
  exact Array.toList_inj.1 hc

theorem kind_is {s t : ByteArray} (h : s = t) : (s.toList == t.data.toList) = true := by rw [h, toList_data]; simp

end Go.Proofs.YtplomeacjbkgnacDoor
