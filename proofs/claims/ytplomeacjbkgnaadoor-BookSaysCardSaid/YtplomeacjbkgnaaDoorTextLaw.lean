/-
  PLAIN LAWS OF A BOOK's TEXT: what is written is read as it was; no program in sight.
-/
import Derived.Test.YtplomeacjbkgnaaDoorBookLaw
import Derived.Lib.ItoaNum
import Derived.Lib.AtoiAll
namespace Ch
open Go

/-! ### numbers in texts -/

/-- the number that a word says, from 0 to 999999, as it is written -/
def numOf (w : List UInt8) : Option Int :=
  match Lib.atoiAll w with
  | .ok k => if Lib.itoa k = w ∧ 0 ≤ k ∧ k ≤ 999999 then some k else none
  | _ => none

theorem parse_digit {acc i : Nat} (h : i < 10) (ha : acc ≤ 999999) (r : List UInt8) : Lib.parseUint10 acc (UInt8.ofNat (48 + i) :: r) = Lib.parseUint10 (acc * 10 + i) r := by
  have hn : (UInt8.ofNat (48 + i)).toNat = 48 + i := by simp; omega
  rw [Lib.parseUint10, hn, if_pos (by omega), if_neg (by omega), if_neg (by omega)]
  congr 1; omega

theorem dec_append (u : Nat) (h : ¬ u < 10) : Lib.decDigits u = Lib.decDigits (u / 10) ++ [UInt8.ofNat (48 + u % 10)] := by rw [Lib.decDigits, dif_neg h]

theorem parse_dec : ∀ (u : Nat), u ≤ 9999999 → ∀ r, Lib.parseUint10 0 (Lib.decDigits u ++ r) = Lib.parseUint10 u r := by
  intro u
  induction u using Nat.strongRecOn with
  | _ u ih =>
    intro hu r
    by_cases h : u < 10
    · rw [Lib.decDigits_one h, List.singleton_append, parse_digit h (by omega)]
      simp
    · rw [dec_append u h, List.append_assoc, ih (u / 10) (by omega) (by omega), List.singleton_append, parse_digit (by omega) (by omega)]
      congr 1; omega

theorem dec_head (u : Nat) : ∃ i r, i < 10 ∧ Lib.decDigits u = UInt8.ofNat (48 + i) :: r := by
  induction u using Nat.strongRecOn with
  | _ u ih =>
    by_cases h : u < 10
    · exact ⟨u, [], h, Lib.decDigits_one h⟩
    · obtain ⟨i, r, hi, e⟩ := ih (u / 10) (by omega)
      rw [dec_append u h, e]
      exact ⟨i, r ++ [UInt8.ofNat (48 + u % 10)], hi, rfl⟩

theorem atoi_itoa {n : Int} (h0 : 0 ≤ n) (h1 : n ≤ 9999999) : Lib.atoiAll (Lib.itoa n) = .ok n := by
  have e : Lib.itoa n = Lib.decDigits n.toNat := by unfold Lib.itoa; rw [if_neg (by omega)]
  obtain ⟨i, r, hi, hd⟩ := dec_head n.toNat
  have hp := parse_dec n.toNat (by omega) []
  rw [List.append_nil] at hp
  rw [e]
  rw [hd] at hp ⊢
  have hn : (UInt8.ofNat (48 + i)).toNat = 48 + i := by simp; omega
  unfold Lib.atoiAll
  simp only [hn]
  rw [if_neg (by omega)]
  unfold Lib.parseMag
  rw [if_neg (by simp), hp]
  simp only [Lib.parseUint10]
  rw [if_neg (by omega), if_neg (by omega), if_neg (by omega)]
  congr 1; omega

theorem numOf_iff {w : List UInt8} {k : Int} : numOf w = some k ↔ 0 ≤ k ∧ k ≤ 999999 ∧ w = Lib.itoa k := by
  unfold numOf
  constructor
  · intro h
    split at h
    · split at h
      · rename_i hc
        cases h
        exact ⟨hc.2.1, hc.2.2, hc.1.symm⟩
      · cases h
    · cases h
  · rintro ⟨h0, h1, rfl⟩
    rw [atoi_itoa h0 (by omega)]
    simp [h0, h1]

theorem numOf_itoa {k : Int} (h0 : 0 ≤ k) (h1 : k ≤ 999999) : numOf (Lib.itoa k) = some k := numOf_iff.2 ⟨h0, h1, rfl⟩

theorem dec_bytes (u : Nat) : ∀ b ∈ Lib.decDigits u, 48 ≤ b.toNat ∧ b.toNat ≤ 57 := by
  induction u using Nat.strongRecOn with
  | _ u ih =>
    by_cases h : u < 10
    · rw [Lib.decDigits_one h]
      intro b hb
      simp at hb
      subst hb
      simp; omega
    · rw [dec_append u h]
      intro b hb
      rcases List.mem_append.1 hb with hb | hb
      · exact ih (u / 10) (by omega) b hb
      · simp at hb; subst hb; simp; omega

theorem dec_len {u k : Nat} (h : u < 10 ^ (k + 1)) : (Lib.decDigits u).length ≤ k + 1 := by
  induction k generalizing u with
  | zero => rw [Lib.decDigits_one (by simpa using h)]; simp
  | succ k ih =>
    by_cases h10 : u < 10
    · rw [Lib.decDigits_one h10]; simp
    · rw [dec_append u h10]
      have := ih (u := u / 10) (by rw [Nat.pow_succ] at h; omega)
      simp; omega

theorem itoa_len {n : Int} {k : Nat} (h0 : 0 ≤ n) (h : n < (10 ^ (k + 1) : Nat)) : (Lib.itoa n).length ≤ k + 1 := by
  unfold Lib.itoa
  rw [if_neg (by omega)]
  exact dec_len (by omega)

theorem itoa_bytes {n : Int} (h0 : 0 ≤ n) : ∀ b ∈ Lib.itoa n, 48 ≤ b.toNat ∧ b.toNat ≤ 57 := by
  unfold Lib.itoa
  rw [if_neg (by omega)]
  exact dec_bytes _

theorem itoa_ne {n : Int} (h0 : 0 ≤ n) : Lib.itoa n ≠ [] := by
  unfold Lib.itoa
  rw [if_neg (by omega)]
  obtain ⟨i, r, _, e⟩ := dec_head n.toNat
  rw [e]; simp

/-! ### words -/

/-- the words of a text: each blank parts -/
def wordsFrom (w : List UInt8) : List UInt8 → List (List UInt8)
  | [] => [w]
  | b :: s => if b = 32 then w :: wordsFrom [] s else wordsFrom (w ++ [b]) s

def wordsOf (s : List UInt8) : List (List UInt8) := wordsFrom [] s

def joinWords : List (List UInt8) → List UInt8
  | [] => []
  | [w] => w
  | w :: v :: l => w ++ 32 :: joinWords (v :: l)

theorem words_word (w v s : List UInt8) (h : ∀ b ∈ v, b ≠ 32) : wordsFrom w (v ++ s) = wordsFrom (w ++ v) s := by
  induction v generalizing w with
  | nil => simp
  | cons b v ih =>
    rw [List.cons_append, wordsFrom, if_neg (h b (by simp)), ih _ (fun c hc => h c (by simp [hc]))]
    simp

theorem words_join : ∀ (l : List (List UInt8)), l ≠ [] → (∀ w ∈ l, ∀ b ∈ w, b ≠ 32) → wordsOf (joinWords l) = l
  | [], h, _ => absurd rfl h
  | [w], _, h => by
    have := words_word [] w [] (h w (by simp))
    rw [List.append_nil, List.nil_append] at this
    unfold wordsOf joinWords
    rw [this]; rfl
  | w :: v :: l, _, h => by
    have ih := words_join (v :: l) (by simp) (fun x hx => h x (by simp [hx]))
    unfold wordsOf at ih ⊢
    rw [joinWords, words_word [] w _ (h w (by simp)), wordsFrom, if_pos rfl, ih]
    simp

/-! ### a book's text -/

def stayNums (s : Stay) : List Int := [s.ticket, s.car.id, s.car.size.long, s.car.size.high, s.car.size.heavy, s.home.level, s.home.side, s.home.depth]

def jobNums (j : Job) : List Int := [j.ticket, if j.fetch then 1 else 0]

def bookNums (b : Book) : List Int := [b.last, (b.stays.length : Int), (b.jobs.length : Int)] ++ b.stays.flatMap stayNums ++ b.jobs.flatMap jobNums

def bookText (b : Book) : List UInt8 := joinWords ((bookNums b).map Lib.itoa)

def stayOf : List Int → Stay
  | [a, b, c, d, e, f, g, h] => ⟨a, ⟨b, ⟨c, d, e⟩⟩, ⟨f, g, h⟩⟩
  | _ => default

/-- so many stays, eight numbers each -/
def staysOf : Nat → List Int → List Stay
  | 0, _ => []
  | k + 1, l => stayOf (l.take 8) :: staysOf k (l.drop 8)

/-- so many jobs, two numbers each; none: one is neither to be put away nor to be fetched -/
def jobsOf : Nat → List Int → Option (List Job)
  | 0, _ => some []
  | k + 1, l =>
    match l with
    | t :: f :: r => if 1 < f then none else (jobsOf k r).map fun js => ⟨t, f == 1⟩ :: js
    | _ => none

def numsOf (s : List UInt8) : Option (List Int) := (wordsOf s).mapM numOf

/-- the book of a text (its numbers are from 0 on) -/
def bookOfNums (n : List Int) (levels : Int) : Option Book :=
  match n with
  | a :: b :: c :: r =>
    if (n.length : Int) = 3 + 8 * b + 2 * c then
      match jobsOf c.toNat (r.drop (8 * b.toNat)) with
      | none => none
      | some js => if bookFault ⟨a, staysOf b.toNat r, js⟩ levels = 0 then some ⟨a, staysOf b.toNat r, js⟩ else none
    else none
  | _ => none

def parseBook (s : List UInt8) (levels : Int) : Option Book := (numsOf s).bind fun n => bookOfNums n levels

theorem staysOf_nums : ∀ (l : List Stay) (r : List Int), staysOf l.length (l.flatMap stayNums ++ r) = l
  | [], _ => rfl
  | s :: l, r => by
    simp only [List.length_cons, staysOf, List.flatMap_cons, List.append_assoc]
    have h1 : (stayNums s ++ (l.flatMap stayNums ++ r)).take 8 = stayNums s := by simp [stayNums]
    have h2 : (stayNums s ++ (l.flatMap stayNums ++ r)).drop 8 = l.flatMap stayNums ++ r := by simp [stayNums]
    rw [h1, h2, staysOf_nums l r]
    rfl

theorem jobsOf_nums : ∀ (l : List Job), jobsOf l.length (l.flatMap jobNums) = some l
  | [] => rfl
  | j :: l => by
    simp only [List.length_cons, List.flatMap_cons, jobNums, List.cons_append, List.nil_append, jobsOf, jobsOf_nums l, Option.map_some]
    obtain ⟨t, f⟩ := j
    cases f <;> simp

theorem stays_len (l : List Stay) : (l.flatMap stayNums).length = 8 * l.length := by
  induction l with
  | nil => rfl
  | cons s l ih => simp [stayNums, ih]; omega

theorem jobs_len (l : List Job) : (l.flatMap jobNums).length = 2 * l.length := by
  induction l with
  | nil => rfl
  | cons s l ih => simp [jobNums, ih]; omega

theorem mapM_num : ∀ (l : List Int), (∀ k ∈ l, 0 ≤ k ∧ k ≤ 999999) → (l.map Lib.itoa).mapM numOf = some l
  | [], _ => rfl
  | k :: l, h => by
    have hk := h k (by simp)
    simp only [List.map_cons, List.mapM_cons, numOf_itoa hk.1 hk.2, mapM_num l (fun x hx => h x (by simp [hx]))]
    rfl

theorem stay_range {n last : Int} {s : Stay} (h : StayOK n last s) (hn : n ≤ 4) (hl : last ≤ 999999) : ∀ k ∈ stayNums s, 0 ≤ k ∧ k ≤ 999999 := by
  obtain ⟨h1, h2, h3, h4, _⟩ := h
  unfold carFault at h1
  split at h1
  · cases h1
  rename_i hc
  unfold sizeFault at h1
  split at h1
  · cases h1
  rename_i hs
  unfold placeFault at h2
  split at h2
  · cases h2
  rename_i hp
  intro k hk
  simp only [stayNums, List.mem_cons, List.not_mem_nil, or_false] at hk
  rcases hk with rfl | rfl | rfl | rfl | rfl | rfl | rfl | rfl <;> omega

theorem book_range {b : Book} {n : Int} (h : b.OK n) (hn : n ≤ 4) : ∀ k ∈ bookNums b, 0 ≤ k ∧ k ≤ 999999 := by
  have l1 := h.l1
  have l2 := h.l2
  have s16 := h.s16
  have j8 := h.j8
  intro k hk
  unfold bookNums at hk
  rcases List.mem_append.1 hk with hk | hk
  · rcases List.mem_append.1 hk with hk | hk
    · simp at hk
      rcases hk with rfl | rfl | rfl <;> omega
    · obtain ⟨s, hs, hk⟩ := List.mem_flatMap.1 hk
      exact stay_range (h.stays.1 s hs) hn l2 k hk
  · obtain ⟨j, hj, hk⟩ := List.mem_flatMap.1 hk
    obtain ⟨s, hs, e⟩ := h.found j hj
    have := h.stays.1 s hs
    have h3 := this.2.2.1
    have h4 := this.2.2.2.1
    simp only [jobNums, List.mem_cons, List.not_mem_nil, or_false] at hk
    rcases hk with rfl | rfl
    · omega
    · split <;> omega

theorem bookOfNums_nums {b : Book} {n : Int} (h : bookFault b n = 0) : bookOfNums (bookNums b) n = some b := by
  unfold bookNums bookOfNums
  simp only [List.cons_append, List.nil_append]
  have hl : (((b.last :: (b.stays.length : Int) :: (b.jobs.length : Int) :: (b.stays.flatMap stayNums ++ b.jobs.flatMap jobNums)).length : Nat) : Int) = 3 + 8 * (b.stays.length : Int) + 2 * (b.jobs.length : Int) := by
    simp only [List.length_cons, List.length_append, stays_len, jobs_len]; omega
  rw [if_pos hl]
  have hd : (b.stays.flatMap stayNums ++ b.jobs.flatMap jobNums).drop (8 * (b.stays.length : Int).toNat) = b.jobs.flatMap jobNums := by
    rw [Int.toNat_natCast, List.drop_append_of_le_length (by rw [stays_len]; omega), List.drop_of_length_le (by rw [stays_len]; omega), List.nil_append]
  rw [hd, Int.toNat_natCast, Int.toNat_natCast, jobsOf_nums, staysOf_nums]
  simp only
  rw [if_pos h]

/-- a book's text is read as it -/
theorem parse_text {b : Book} {n : Int} (h : bookFault b n = 0) (hn : n ≤ 4) : parseBook (bookText b) n = some b := by
  have hok := bookFault_iff.1 h
  have hr := book_range hok hn
  unfold parseBook numsOf bookText
  rw [words_join _ (by simp [bookNums]) (by
    intro w hw b' hb'
    obtain ⟨k, hk, rfl⟩ := List.mem_map.1 hw
    have := itoa_bytes (hr k hk).1 b' hb'
    intro e; subst e; revert this; decide), mapM_num _ hr]
  exact bookOfNums_nums h

theorem join_len : ∀ (l : List (List UInt8)), (joinWords l).length ≤ (l.map List.length).sum + l.length
  | [] => by simp [joinWords]
  | [w] => by simp [joinWords]
  | w :: v :: l => by
    have := join_len (v :: l)
    simp only [joinWords, List.length_append, List.length_cons, List.map_cons, List.sum_cons] at this ⊢
    omega

theorem sum_flat {α : Type} (f : α → List Int) (c : Nat) : ∀ (l : List α), (∀ x ∈ l, (((f x).map Lib.itoa).map List.length).sum ≤ c) → ((((l.flatMap f).map Lib.itoa).map List.length).sum) ≤ c * l.length
  | [], _ => by simp
  | x :: l, h => by
    have h1 := h x (by simp)
    have h2 := sum_flat f c l (fun y hy => h y (by simp [hy]))
    simp only [List.flatMap_cons, List.map_append, List.sum_append, List.length_cons, Nat.mul_succ]
    omega

theorem stay_digits {n last : Int} {s : Stay} (h : StayOK n last s) (hn : n ≤ 4) (hl : last ≤ 999999) : (((stayNums s).map Lib.itoa).map List.length).sum ≤ 18 := by
  obtain ⟨h1, h2, h3, h4, _⟩ := h
  unfold carFault at h1
  split at h1
  · cases h1
  rename_i hc
  unfold sizeFault at h1
  split at h1
  · cases h1
  rename_i hs
  unfold placeFault at h2
  split at h2
  · cases h2
  rename_i hp
  have e1 := itoa_len (n := s.ticket) (k := 5) (by omega) (by omega)
  have e2 := itoa_len (n := s.car.id) (k := 2) (by omega) (by omega)
  have e3 := itoa_len (n := s.car.size.long) (k := 1) (by omega) (by omega)
  have e4 := itoa_len (n := s.car.size.high) (k := 1) (by omega) (by omega)
  have e5 := itoa_len (n := s.car.size.heavy) (k := 1) (by omega) (by omega)
  have e6 := itoa_len (n := s.home.level) (k := 0) (by omega) (by omega)
  have e7 := itoa_len (n := s.home.side) (k := 0) (by omega) (by omega)
  have e8 := itoa_len (n := s.home.depth) (k := 0) (by omega) (by omega)
  simp only [stayNums, List.map_cons, List.map_nil, List.sum_cons, List.sum_nil]
  omega

theorem text_len {b : Book} {n : Int} (h : bookFault b n = 0) (hn : n ≤ 4) : (bookText b).length ≤ 640 := by
  have hok := bookFault_iff.1 h
  have l1 := hok.l1
  have l2 := hok.l2
  have s16 := hok.s16
  have j8 := hok.j8
  have h1 := join_len ((bookNums b).map Lib.itoa)
  have hs := sum_flat stayNums 18 b.stays (fun s hs => stay_digits (hok.stays.1 s hs) hn l2)
  have hj := sum_flat jobNums 7 b.jobs (fun j hj => by
    obtain ⟨s, hs, e⟩ := hok.found j hj
    have := hok.stays.1 s hs
    have h3 := this.2.2.1
    have h4 := this.2.2.2.1
    have e1 := itoa_len (n := j.ticket) (k := 5) (by omega) (by omega)
    have e2 := itoa_len (n := if j.fetch then 1 else 0) (k := 0) (by split <;> omega) (by split <;> omega)
    simp only [jobNums, List.map_cons, List.map_nil, List.sum_cons, List.sum_nil]
    omega)
  have e1 := itoa_len (n := b.last) (k := 5) (by omega) (by omega)
  have e2 := itoa_len (n := (b.stays.length : Int)) (k := 1) (by omega) (by omega)
  have e3 := itoa_len (n := (b.jobs.length : Int)) (k := 0) (by omega) (by omega)
  have hlen : (bookNums b).length = 3 + 8 * b.stays.length + 2 * b.jobs.length := by
    simp only [bookNums, List.length_append, stays_len, jobs_len, List.length_cons, List.length_nil]
  rw [List.length_map, hlen] at h1
  have hsum : ((((bookNums b).map Lib.itoa).map List.length).sum) = (Lib.itoa b.last).length + ((Lib.itoa (b.stays.length : Int)).length + ((Lib.itoa (b.jobs.length : Int)).length)) + (((b.stays.flatMap stayNums).map Lib.itoa).map List.length).sum + (((b.jobs.flatMap jobNums).map Lib.itoa).map List.length).sum := by
    simp only [bookNums, List.map_append, List.sum_append, List.map_cons, List.map_nil, List.sum_cons, List.sum_nil]; omega
  unfold bookText
  omega

end Ch
