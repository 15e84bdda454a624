/-
  Walks of the program's functions, and what they need: BookLaw, TextLaw, DiskLaw.
-/
import Derived.Test.YtplomeacjbkgnacDoorPart04
import Derived.Lib.ItoaNum
import Derived.Lib.AtoiAll
import Derived.Test.YtplomeacjbkgnacDoorPart01

namespace Ch

def StayOK (n last : Int) (s : Stay) : Prop := carFault s.car = 0 ∧ placeFault s.home n = 0 ∧ 1 ≤ s.ticket ∧ s.ticket ≤ last ∧ s.home ∈ places n

def StayLt (a b : Stay) : Prop := a.ticket < b.ticket ∧ a.home ≠ b.home ∧ a.car.id ≠ b.car.id

def StaysOK (n last : Int) (l : List Stay) : Prop := (∀ s ∈ l, StayOK n last s) ∧ l.Pairwise StayLt

theorem stayFault_iff {n last : Int} {before : List Stay} {s : Stay} (hb : before.Pairwise StayLt) : stayFault n last before s = 0 ↔ StayOK n last s ∧ ∀ x ∈ before, StayLt x s := by
  unfold stayFault StayOK
  by_cases h1 : carFault s.car ≠ 0
  · rw [if_pos h1]; exact ⟨fun h => absurd h h1, fun h => absurd h.1.1 h1⟩
  rw [if_neg h1]
  by_cases h2 : placeFault s.home n ≠ 0
  · rw [if_pos h2]; exact ⟨fun h => absurd h h2, fun h => absurd h.1.2.1 h2⟩
  rw [if_neg h2]
  by_cases h3 : s.ticket < 1 ∨ last < s.ticket
  · rw [if_pos h3]
    constructor
    · intro h; cases h
    · intro h; omega
  rw [if_neg h3]
  by_cases h4 : ¬ s.home ∈ places n ∨ (∃ x ∈ before.getLast?, s.ticket ≤ x.ticket)
  · rw [if_pos h4]
    constructor
    · intro h; cases h
    · rintro ⟨h, h'⟩
      rcases h4 with h4 | ⟨x, hx, hle⟩
      · exact absurd h.2.2.2.2 h4
      · have := (h' x (List.mem_of_getLast? hx)).1
        omega
  rw [if_neg h4]
  have h4a : s.home ∈ places n := by
    apply Classical.byContradiction; intro hc; exact h4 (Or.inl hc)
  have h4b : ∀ x ∈ before, x.ticket < s.ticket := by
    intro x hx
    cases hg : before.getLast? with
    | none => rw [List.getLast?_eq_none_iff] at hg; subst hg; cases hx
    | some y =>
      have hy : y.ticket < s.ticket := by
        apply Classical.byContradiction; intro hc; exact h4 (Or.inr ⟨y, hg, by omega⟩)
      rw [List.getLast?_eq_some_iff] at hg
      obtain ⟨ys, rfl⟩ := hg
      rw [List.pairwise_append] at hb
      rcases List.mem_append.1 hx with hx | hx
      · have := (hb.2.2 x hx y (by simp)).1; omega
      · simp at hx; subst hx; exact hy
  by_cases h5 : (before.any fun x => x.home == s.home || x.car.id == s.car.id) = true
  · rw [if_pos h5]
    constructor
    · intro h; cases h
    · rintro ⟨_, h'⟩
      rw [List.any_eq_true] at h5
      obtain ⟨x, hx, e⟩ := h5
      have := (h' x hx).2
      simp at e
      rcases e with e | e
      · exact absurd e this.1
      · exact absurd e this.2
  rw [if_neg h5]
  refine ⟨fun _ => ⟨⟨by omega, by omega, by omega, by omega, h4a⟩, ?_⟩, fun _ => rfl⟩
  intro x hx
  refine ⟨h4b x hx, ?_, ?_⟩
  · intro e; apply h5; rw [List.any_eq_true]; exact ⟨x, hx, by simp [e]⟩
  · intro e; apply h5; rw [List.any_eq_true]; exact ⟨x, hx, by simp [e]⟩

theorem staysFault_iff {n last : Int} {before l : List Stay} (hb : StaysOK n last before) : staysFault n last before l = 0 ↔ StaysOK n last (before ++ l) := by
  induction l generalizing before with
  | nil => simp [staysFault, hb]
  | cons s l ih =>
    unfold staysFault
    by_cases h : stayFault n last before s = 0
    · rw [if_neg (by simpa using h)]
      rw [stayFault_iff hb.2] at h
      rw [ih, List.append_assoc]
      · rfl
      · refine ⟨?_, ?_⟩
        · intro x hx
          rcases List.mem_append.1 hx with hx | hx
          · exact hb.1 x hx
          · simp at hx; subst hx; exact h.1
        · rw [List.pairwise_append]
          refine ⟨hb.2, by simp, ?_⟩
          intro x hx y hy
          simp at hy; subst hy
          exact h.2 x hx
    · rw [if_pos h]
      refine ⟨fun e => absurd e h, fun e => ?_⟩
      exfalso
      apply h
      rw [stayFault_iff hb.2]
      refine ⟨e.1 s (by simp), fun x hx => ?_⟩
      have := List.pairwise_append.1 e.2
      exact this.2.2 x hx s (by simp)

theorem jobsFault_iff {stays : List Stay} {before l : List Job} (hb : before.Nodup) : jobsFault stays before l = 0 ↔ (∀ j ∈ l, ∃ s ∈ stays, s.ticket = j.ticket) ∧ (before ++ l).Nodup := by
  induction l generalizing before with
  | nil => simp [jobsFault, hb]
  | cons j l ih =>
    unfold jobsFault
    by_cases h : (stays.any fun s => s.ticket == j.ticket) = false ∨ j ∈ before
    · rw [if_pos h]
      constructor
      · intro e; cases e
      · rintro ⟨e1, e2⟩
        rcases h with h | h
        · obtain ⟨s, hs, e⟩ := e1 j (by simp)
          rw [List.any_eq_false] at h
          exact absurd (by simpa using e) (h s hs)
        · rw [List.nodup_append] at e2
          exact absurd rfl (e2.2.2 j h j (by simp))
    · rw [if_neg h]
      have h1 : ∃ s ∈ stays, s.ticket = j.ticket := by
        apply Classical.byContradiction
        intro hc
        apply h
        left
        rw [List.any_eq_false]
        intro s hs e
        exact hc ⟨s, hs, by simpa using e⟩
      have h2 : ¬ j ∈ before := fun hc => h (Or.inr hc)
      have hb' : (before ++ [j]).Nodup := by
        rw [List.nodup_append]
        refine ⟨hb, by simp, ?_⟩
        intro x hx y hy
        simp at hy; subst hy
        rintro rfl; exact h2 hx
      rw [ih hb', List.append_assoc]
      constructor
      · rintro ⟨e1, e2⟩
        refine ⟨?_, e2⟩
        intro x hx
        rcases List.mem_cons.1 hx with rfl | hx
        · exact h1
        · exact e1 x hx
      · rintro ⟨e1, e2⟩
        exact ⟨fun x hx => e1 x (by simp [hx]), e2⟩

structure Book.OK (b : Book) (n : Int) : Prop where
  l1 : 0 ≤ b.last
  l2 : b.last ≤ 999999
  s16 : b.stays.length ≤ 16
  j8 : b.jobs.length ≤ 8
  stays : StaysOK n b.last b.stays
  found : ∀ j ∈ b.jobs, ∃ s ∈ b.stays, s.ticket = j.ticket
  once : b.jobs.Nodup

theorem bookFault_iff {b : Book} {n : Int} : bookFault b n = 0 ↔ b.OK n := by
  unfold bookFault
  by_cases h1 : b.last < 0 ∨ 999999 < b.last
  · rw [if_pos h1]
    constructor
    · intro h; cases h
    · intro h; have := h.l1; have := h.l2; omega
  rw [if_neg h1]
  by_cases h2 : 16 < b.stays.length ∨ 8 < b.jobs.length
  · rw [if_pos h2]
    constructor
    · intro h; cases h
    · intro h; have := h.s16; have := h.j8; omega
  rw [if_neg h2]
  have hs := staysFault_iff (n := n) (last := b.last) (before := []) (l := b.stays) ⟨by simp, List.Pairwise.nil⟩
  rw [List.nil_append] at hs
  have hj := jobsFault_iff (stays := b.stays) (before := []) (l := b.jobs) (by simp)
  rw [List.nil_append] at hj
  by_cases h3 : staysFault n b.last [] b.stays ≠ 0
  · rw [if_pos h3]
    exact ⟨fun h => absurd h h3, fun h => absurd (hs.2 h.stays) h3⟩
  rw [if_neg h3, hj]
  have h3 : staysFault n b.last [] b.stays = 0 := by omega
  constructor
  · rintro ⟨e1, e2⟩
    exact ⟨by omega, by omega, by omega, by omega, hs.1 h3, e1, e2⟩
  · intro h
    exact ⟨h.found, h.once⟩

theorem StaysOK.sub {n last : Int} {l m : List Stay} (h : StaysOK n last l) (hs : List.Sublist m l) : StaysOK n last m := ⟨fun s hm => h.1 s (hs.subset hm), h.2.sublist hs⟩

theorem ticket_inj {n last : Int} {l : List Stay} (h : StaysOK n last l) {a b : Stay} (ha : a ∈ l) (hb : b ∈ l) (e : a.ticket = b.ticket) : a = b := by
  have hp := h.2
  clear h
  induction l with
  | nil => cases ha
  | cons x l ih =>
    obtain ⟨h1, h2⟩ := List.pairwise_cons.1 hp
    rcases List.mem_cons.1 ha with rfl | ha' <;> rcases List.mem_cons.1 hb with rfl | hb'
    · rfl
    · have := (h1 b hb').1; omega
    · have := (h1 a ha').1; omega
    · exact ih ha' hb' h2

theorem id_inj {n last : Int} {l : List Stay} (h : StaysOK n last l) {a b : Stay} (ha : a ∈ l) (hb : b ∈ l) (e : a.car.id = b.car.id) : a = b := by
  have hp := h.2
  clear h
  induction l with
  | nil => cases ha
  | cons x l ih =>
    obtain ⟨h1, h2⟩ := List.pairwise_cons.1 hp
    rcases List.mem_cons.1 ha with rfl | ha' <;> rcases List.mem_cons.1 hb with rfl | hb'
    · rfl
    · exact absurd e (h1 b hb').2.2
    · exact absurd e.symm (h1 a ha').2.2
    · exact ih ha' hb' h2

theorem home_inj {n last : Int} {l : List Stay} (h : StaysOK n last l) {a b : Stay} (ha : a ∈ l) (hb : b ∈ l) (e : a.home = b.home) : a = b := by
  have hp := h.2
  clear h
  induction l with
  | nil => cases ha
  | cons x l ih =>
    obtain ⟨h1, h2⟩ := List.pairwise_cons.1 hp
    rcases List.mem_cons.1 ha with rfl | ha' <;> rcases List.mem_cons.1 hb with rfl | hb'
    · rfl
    · exact absurd e (h1 b hb').2.1
    · exact absurd e.symm (h1 a ha').2.1
    · exact ih ha' hb' h2

/-! ### a job is over -/

theorem done_ok {b : Book} {n : Int} (h : b.OK n) (j : Job) (gone : Bool) : (doneWith b j gone).OK n := by
  obtain ⟨l1, l2, s16, j8, st, fo, on⟩ := h
  unfold doneWith
  refine ⟨l1, l2, ?_, ?_, ?_, ?_, ?_⟩
  · dsimp only
    split
    · exact Nat.le_trans (List.length_filter_le _ _) s16
    · exact s16
  · exact Nat.le_trans (List.length_filter_le _ _) j8
  · dsimp only
    split
    · exact st.sub List.filter_sublist
    · exact st
  · dsimp only
    intro x hx
    rw [List.mem_filter] at hx
    obtain ⟨s, hs, e⟩ := fo x hx.1
    refine ⟨s, ?_, e⟩
    split
    · rename_i ho
      rw [List.mem_filter]
      refine ⟨hs, ?_⟩
      have := hx.2
      rw [ho] at this
      simp at this
      simp [e, this.2]
    · exact hs
  · exact on.filter _

/-! ### a car is parked -/

theorem places_len {n : Int} (h : n ≤ 4) : (places n).length ≤ 14 := by
  by_cases h1 : n ≤ 0
  · have : places n = [] := by unfold places; rw [show n.toNat = 0 by omega]; rfl
    rw [this]; simp
  · have : n = 1 ∨ n = 2 ∨ n = 3 ∨ n = 4 := by omega
    rcases this with rfl | rfl | rfl | rfl <;> decide

theorem length_le_of_subset {α : Type} [DecidableEq α] : ∀ {l m : List α}, l.Nodup → (∀ x ∈ l, x ∈ m) → l.length ≤ m.length
  | [], _, _, _ => Nat.zero_le _
  | x :: l, m, hn, hs => by
    obtain ⟨h1, h2⟩ := List.nodup_cons.1 hn
    have hx := hs x (by simp)
    have := length_le_of_subset (l := l) (m := m.erase x) h2 (fun y hy => by
      rw [List.mem_erase_of_ne]
      · exact hs y (by simp [hy])
      · rintro rfl; exact h1 hy)
    rw [List.length_erase_of_mem hx] at this
    have : 0 < m.length := List.length_pos_of_mem hx
    simp; omega

theorem homes_nodup {n last : Int} {l : List Stay} (h : StaysOK n last l) : (l.map fun s => s.home).Nodup := by
  unfold List.Nodup
  rw [List.pairwise_map]
  exact h.2.imp fun h => h.2.1

theorem pick_some {b : Book} {levels : List Size} {c : Car} {p : Place} (h : pick b levels c = some p) :
    p ∈ places levels.length ∧ fits c.size (levels.getD (p.level - 1).toNat default) = true ∧ hasHome b p = false ∧ hasHome b (front p) = false ∧ waits b p = false := by
  unfold pick at h
  have h1 := List.mem_of_find?_eq_some h
  have h2 := List.find?_some h
  simp only [Bool.and_eq_true, Bool.not_eq_true'] at h2
  exact ⟨h1, h2.1.1.1, h2.1.1.2, h2.1.2, h2.2⟩

theorem hasHome_iff {b : Book} {p : Place} : hasHome b p = false ↔ ∀ s ∈ b.stays, s.home ≠ p := by
  unfold hasHome
  rw [List.any_eq_false]
  simp

theorem places_ok {n : Int} (h : n ≤ 4) : ∀ x ∈ places n, placeFault x n = 0 := by
  by_cases h1 : n ≤ 0
  · have : places n = [] := by unfold places; rw [show n.toNat = 0 by omega]; rfl
    rw [this]; simp
  · have : n = 1 ∨ n = 2 ∨ n = 3 ∨ n = 4 := by omega
    rcases this with rfl | rfl | rfl | rfl <;> decide

theorem park_ok {b : Book} {levels : List Size} {c : Car} {x : Book} {k : Int} (h : b.OK levels.length) (h4 : levels.length ≤ 4) (hp : park b levels c = .ok (x, k)) :
    ∃ p, pick b levels c = some p ∧ carFault c = 0 ∧ (b.of c.id) = none ∧ b.last < 999999 ∧ b.jobs.length < 8 ∧ k = b.last + 1 ∧ x = ⟨b.last + 1, b.stays ++ [⟨b.last + 1, c, p⟩], b.jobs ++ [⟨b.last + 1, false⟩]⟩ ∧ x.OK levels.length := by
  obtain ⟨l1, l2, s16, j8, st, fo, on⟩ := h
  unfold park at hp
  by_cases c1 : carFault c ≠ 0
  · rw [if_pos c1] at hp; cases hp
  rw [if_neg c1] at hp
  by_cases c2 : (b.of c.id).isSome = true
  · rw [if_pos c2] at hp; cases hp
  rw [if_neg c2] at hp
  cases c3 : pick b levels c with
  | none => rw [c3] at hp; cases hp
  | some p =>
    rw [c3] at hp
    dsimp only at hp
    by_cases c4 : b.last = 999999 ∨ b.jobs.length = 8
    · rw [if_pos c4] at hp; cases hp
    rw [if_neg c4] at hp
    cases hp
    obtain ⟨k1, k2, k3, k4, k5⟩ := pick_some c3
    have hno : b.of c.id = none := by simpa using c2
    refine ⟨p, rfl, by omega, hno, by omega, by omega, rfl, rfl, ?_⟩
    rw [hasHome_iff] at k3
    have hid : ∀ s ∈ b.stays, s.car.id ≠ c.id := by
      intro s hs e
      unfold Book.of at hno
      rw [List.find?_eq_none] at hno
      exact hno s hs (by simpa using e)
    have hlen : (b.stays ++ [(⟨b.last + 1, c, p⟩ : Stay)]).length ≤ 14 := by
      have hn : ((b.stays ++ [(⟨b.last + 1, c, p⟩ : Stay)]).map fun s => s.home).Nodup := by
        rw [List.map_append, List.nodup_append]
        refine ⟨homes_nodup st, by simp, ?_⟩
        intro y hy z hz
        simp at hz; subst hz
        rw [List.mem_map] at hy
        obtain ⟨s, hs, rfl⟩ := hy
        exact k3 s hs
      have := length_le_of_subset hn (m := places levels.length) (fun y hy => by
        rw [List.mem_map] at hy
        obtain ⟨s, hs, rfl⟩ := hy
        rcases List.mem_append.1 hs with hs | hs
        · exact (st.1 s hs).2.2.2.2
        · simp at hs; subst hs; exact k1)
      have h14 := places_len (n := levels.length) (by omega)
      simp only [List.length_map] at this
      omega
    refine ⟨by dsimp only; omega, by dsimp only; omega, by dsimp only; omega, by simp; omega, ⟨?_, ?_⟩, ?_, ?_⟩
    · intro s hs
      rcases List.mem_append.1 hs with hs | hs
      · have := st.1 s hs
        exact ⟨this.1, this.2.1, this.2.2.1, by have := this.2.2.2.1; dsimp only; omega, this.2.2.2.2⟩
      · simp at hs; subst hs
        exact ⟨by dsimp only; omega, places_ok (by omega) p k1, by dsimp only; omega, by dsimp only; omega, k1⟩
    · dsimp only
      rw [List.pairwise_append]
      refine ⟨st.2, by simp, ?_⟩
      intro s hs y hy
      simp at hy; subst hy
      exact ⟨by have := (st.1 s hs).2.2.2.1; dsimp only; omega, k3 s hs, hid s hs⟩
    · intro j hj
      rcases List.mem_append.1 hj with hj | hj
      · obtain ⟨s, hs, e⟩ := fo j hj
        exact ⟨s, List.mem_append_left _ hs, e⟩
      · simp at hj; subst hj
        exact ⟨⟨b.last + 1, c, p⟩, by simp, rfl⟩
    · dsimp only
      rw [List.nodup_append]
      refine ⟨on, by simp, ?_⟩
      intro j hj y hy
      simp at hy; subst hy
      rintro rfl
      obtain ⟨s, hs, e⟩ := fo _ hj
      have := (st.1 s hs).2.2.2.1
      dsimp only at e
      omega

theorem want_ok {b x : Book} {n t : Int} (h : b.OK n) (hw : want b t = .ok x) : x = { b with jobs := b.jobs ++ [⟨t, true⟩] } ∧ x.OK n := by
  obtain ⟨l1, l2, s16, j8, st, fo, on⟩ := h
  unfold want at hw
  by_cases c1 : (b.find t).isNone = true
  · rw [if_pos c1] at hw; cases hw
  rw [if_neg c1] at hw
  by_cases c2 : b.jobs.contains ⟨t, true⟩ = true
  · rw [if_pos c2] at hw; cases hw
  rw [if_neg c2] at hw
  by_cases c3 : b.jobs.length = 8
  · rw [if_pos c3] at hw; cases hw
  rw [if_neg c3] at hw
  cases hw
  refine ⟨rfl, l1, l2, s16, by simp; omega, st, ?_, ?_⟩
  · intro j hj
    rcases List.mem_append.1 hj with hj | hj
    · exact fo j hj
    · simp at hj; subst hj
      unfold Book.find at c1
      cases hf : b.stays.find? (fun s => s.ticket == t) with
      | none => rw [hf] at c1; exact absurd rfl c1
      | some s => exact ⟨s, List.mem_of_find?_eq_some hf, by simpa using List.find?_some hf⟩
  · dsimp only
    rw [List.nodup_append]
    refine ⟨on, by simp, ?_⟩
    intro j hj y hy
    simp at hy; subst hy
    rintro rfl
    exact c2 (by simpa using hj)
end Ch

namespace Ch
open Go

/-! ### numbers in texts -/

/-- the number that a word says, from 0 to 999999, as it is written -/
def numOf (w : List UInt8) : Option Int :=
  match Lib.atoiAll w with
  | .ok k => if Lib.itoa k = w ∧ 0 ≤ k ∧ k ≤ 999999 then some k else none
  | _ => none

theorem parse_digit {acc i : Nat} (h : i < 10) (ha : acc ≤ 999999) (r : List UInt8) : Lib.parseUint10 acc (UInt8.ofNat (48 + i) :: r) = Lib.parseUint10 (acc * 10 + i) r := by
  have hn : (UInt8.ofNat (48 + i)).toNat = 48 + i := by simp; omega
  rw [Lib.parseUint10, hn, if_pos (by omega), if_neg (by omega), if_neg (by omega)]
  congr 1; omega

theorem dec_append (u : Nat) (h : ¬ u < 10) : Lib.decDigits u = Lib.decDigits (u / 10) ++ [UInt8.ofNat (48 + u % 10)] := by rw [Lib.decDigits, dif_neg h]

theorem parse_dec : ∀ (u : Nat), u ≤ 9999999 → ∀ r, Lib.parseUint10 0 (Lib.decDigits u ++ r) = Lib.parseUint10 u r := by
  intro u
  induction u using Nat.strongRecOn with
  | _ u ih =>
    intro hu r
    by_cases h : u < 10
    · rw [Lib.decDigits_one h, List.singleton_append, parse_digit h (by omega)]
      simp
    · rw [dec_append u h, List.append_assoc, ih (u / 10) (by omega) (by omega), List.singleton_append, parse_digit (by omega) (by omega)]
      congr 1; omega

theorem dec_head (u : Nat) : ∃ i r, i < 10 ∧ Lib.decDigits u = UInt8.ofNat (48 + i) :: r := by
  induction u using Nat.strongRecOn with
  | _ u ih =>
    by_cases h : u < 10
    · exact ⟨u, [], h, Lib.decDigits_one h⟩
    · obtain ⟨i, r, hi, e⟩ := ih (u / 10) (by omega)
      rw [dec_append u h, e]
      exact ⟨i, r ++ [UInt8.ofNat (48 + u % 10)], hi, rfl⟩

theorem atoi_itoa {n : Int} (h0 : 0 ≤ n) (h1 : n ≤ 9999999) : Lib.atoiAll (Lib.itoa n) = .ok n := by
  have e : Lib.itoa n = Lib.decDigits n.toNat := by unfold Lib.itoa; rw [if_neg (by omega)]
  obtain ⟨i, r, hi, hd⟩ := dec_head n.toNat
  have hp := parse_dec n.toNat (by omega) []
  rw [List.append_nil] at hp
  rw [e]
  rw [hd] at hp ⊢
  have hn : (UInt8.ofNat (48 + i)).toNat = 48 + i := by simp; omega
  unfold Lib.atoiAll
  simp only [hn]
  rw [if_neg (by omega)]
  unfold Lib.parseMag
  rw [if_neg (by simp), hp]
  simp only [Lib.parseUint10]
  rw [if_neg (by omega), if_neg (by omega), if_neg (by omega)]
  congr 1; omega

theorem numOf_iff {w : List UInt8} {k : Int} : numOf w = some k ↔ 0 ≤ k ∧ k ≤ 999999 ∧ w = Lib.itoa k := by
  unfold numOf
  constructor
  · intro h
    split at h
    · split at h
      · rename_i hc
        cases h
        exact ⟨hc.2.1, hc.2.2, hc.1.symm⟩
      · cases h
    · cases h
  · rintro ⟨h0, h1, rfl⟩
    rw [atoi_itoa h0 (by omega)]
    simp [h0, h1]

theorem numOf_itoa {k : Int} (h0 : 0 ≤ k) (h1 : k ≤ 999999) : numOf (Lib.itoa k) = some k := numOf_iff.2 ⟨h0, h1, rfl⟩

theorem dec_bytes (u : Nat) : ∀ b ∈ Lib.decDigits u, 48 ≤ b.toNat ∧ b.toNat ≤ 57 := by
  induction u using Nat.strongRecOn with
  | _ u ih =>
    by_cases h : u < 10
    · rw [Lib.decDigits_one h]
      intro b hb
      simp at hb
      subst hb
      simp; omega
    · rw [dec_append u h]
      intro b hb
      rcases List.mem_append.1 hb with hb | hb
      · exact ih (u / 10) (by omega) b hb
      · simp at hb; subst hb; simp; omega

theorem dec_len {u k : Nat} (h : u < 10 ^ (k + 1)) : (Lib.decDigits u).length ≤ k + 1 := by
  induction k generalizing u with
  | zero => rw [Lib.decDigits_one (by simpa using h)]; simp
  | succ k ih =>
    by_cases h10 : u < 10
    · rw [Lib.decDigits_one h10]; simp
    · rw [dec_append u h10]
      have := ih (u := u / 10) (by rw [Nat.pow_succ] at h; omega)
      simp; omega

theorem itoa_len {n : Int} {k : Nat} (h0 : 0 ≤ n) (h : n < (10 ^ (k + 1) : Nat)) : (Lib.itoa n).length ≤ k + 1 := by
  unfold Lib.itoa
  rw [if_neg (by omega)]
  exact dec_len (by omega)

theorem itoa_bytes {n : Int} (h0 : 0 ≤ n) : ∀ b ∈ Lib.itoa n, 48 ≤ b.toNat ∧ b.toNat ≤ 57 := by
  unfold Lib.itoa
  rw [if_neg (by omega)]
  exact dec_bytes _

theorem itoa_ne {n : Int} (h0 : 0 ≤ n) : Lib.itoa n ≠ [] := by
  unfold Lib.itoa
  rw [if_neg (by omega)]
  obtain ⟨i, r, _, e⟩ := dec_head n.toNat
  rw [e]; simp

/-! ### words -/

/-- the words of a text: each blank parts -/
def wordsFrom (w : List UInt8) : List UInt8 → List (List UInt8)
  | [] => [w]
  | b :: s => if b = 32 then w :: wordsFrom [] s else wordsFrom (w ++ [b]) s

def wordsOf (s : List UInt8) : List (List UInt8) := wordsFrom [] s

def joinWords : List (List UInt8) → List UInt8
  | [] => []
  | [w] => w
  | w :: v :: l => w ++ 32 :: joinWords (v :: l)

theorem words_word (w v s : List UInt8) (h : ∀ b ∈ v, b ≠ 32) : wordsFrom w (v ++ s) = wordsFrom (w ++ v) s := by
  induction v generalizing w with
  | nil => simp
  | cons b v ih =>
    rw [List.cons_append, wordsFrom, if_neg (h b (by simp)), ih _ (fun c hc => h c (by simp [hc]))]
    simp

theorem words_join : ∀ (l : List (List UInt8)), l ≠ [] → (∀ w ∈ l, ∀ b ∈ w, b ≠ 32) → wordsOf (joinWords l) = l
  | [], h, _ => absurd rfl h
  | [w], _, h => by
    have := words_word [] w [] (h w (by simp))
    rw [List.append_nil, List.nil_append] at this
    unfold wordsOf joinWords
    rw [this]; rfl
  | w :: v :: l, _, h => by
    have ih := words_join (v :: l) (by simp) (fun x hx => h x (by simp [hx]))
    unfold wordsOf at ih ⊢
    rw [joinWords, words_word [] w _ (h w (by simp)), wordsFrom, if_pos rfl, ih]
    simp

/-! ### a book's text -/

def stayNums (s : Stay) : List Int := [s.ticket, s.car.id, s.car.size.long, s.car.size.high, s.car.size.heavy, s.home.level, s.home.side, s.home.depth]

def jobNums (j : Job) : List Int := [j.ticket, if j.fetch then 1 else 0]

def bookNums (b : Book) : List Int := [b.last, (b.stays.length : Int), (b.jobs.length : Int)] ++ b.stays.flatMap stayNums ++ b.jobs.flatMap jobNums

def bookText (b : Book) : List UInt8 := joinWords ((bookNums b).map Lib.itoa)

def stayOf : List Int → Stay
  | [a, b, c, d, e, f, g, h] => ⟨a, ⟨b, ⟨c, d, e⟩⟩, ⟨f, g, h⟩⟩
  | _ => default

/-- so many stays, eight numbers each -/
def staysOf : Nat → List Int → List Stay
  | 0, _ => []
  | k + 1, l => stayOf (l.take 8) :: staysOf k (l.drop 8)

/-- so many jobs, two numbers each; none: one is neither to be put away nor to be fetched -/
def jobsOf : Nat → List Int → Option (List Job)
  | 0, _ => some []
  | k + 1, l =>
    match l with
    | t :: f :: r => if 1 < f then none else (jobsOf k r).map fun js => ⟨t, f == 1⟩ :: js
    | _ => none

def numsOf (s : List UInt8) : Option (List Int) := (wordsOf s).mapM numOf

/-- the book of a text (its numbers are from 0 on) -/
def bookOfNums (n : List Int) (levels : Int) : Option Book :=
  match n with
  | a :: b :: c :: r =>
    if (n.length : Int) = 3 + 8 * b + 2 * c then
      match jobsOf c.toNat (r.drop (8 * b.toNat)) with
      | none => none
      | some js => if bookFault ⟨a, staysOf b.toNat r, js⟩ levels = 0 then some ⟨a, staysOf b.toNat r, js⟩ else none
    else none
  | _ => none

def parseBook (s : List UInt8) (levels : Int) : Option Book := (numsOf s).bind fun n => bookOfNums n levels

theorem staysOf_nums : ∀ (l : List Stay) (r : List Int), staysOf l.length (l.flatMap stayNums ++ r) = l
  | [], _ => rfl
  | s :: l, r => by
    simp only [List.length_cons, staysOf, List.flatMap_cons, List.append_assoc]
    have h1 : (stayNums s ++ (l.flatMap stayNums ++ r)).take 8 = stayNums s := by simp [stayNums]
    have h2 : (stayNums s ++ (l.flatMap stayNums ++ r)).drop 8 = l.flatMap stayNums ++ r := by simp [stayNums]
    rw [h1, h2, staysOf_nums l r]
    rfl

theorem jobsOf_nums : ∀ (l : List Job), jobsOf l.length (l.flatMap jobNums) = some l
  | [] => rfl
  | j :: l => by
    simp only [List.length_cons, List.flatMap_cons, jobNums, List.cons_append, List.nil_append, jobsOf, jobsOf_nums l, Option.map_some]
    obtain ⟨t, f⟩ := j
    cases f <;> simp

theorem stays_len (l : List Stay) : (l.flatMap stayNums).length = 8 * l.length := by
  induction l with
  | nil => rfl
  | cons s l ih => simp [stayNums, ih]; omega

theorem jobs_len (l : List Job) : (l.flatMap jobNums).length = 2 * l.length := by
  induction l with
  | nil => rfl
  | cons s l ih => simp [jobNums, ih]; omega

theorem mapM_num : ∀ (l : List Int), (∀ k ∈ l, 0 ≤ k ∧ k ≤ 999999) → (l.map Lib.itoa).mapM numOf = some l
  | [], _ => rfl
  | k :: l, h => by
    have hk := h k (by simp)
    simp only [List.map_cons, List.mapM_cons, numOf_itoa hk.1 hk.2, mapM_num l (fun x hx => h x (by simp [hx]))]
    rfl

theorem stay_range {n last : Int} {s : Stay} (h : StayOK n last s) (hn : n ≤ 4) (hl : last ≤ 999999) : ∀ k ∈ stayNums s, 0 ≤ k ∧ k ≤ 999999 := by
  obtain ⟨h1, h2, h3, h4, _⟩ := h
  unfold carFault at h1
  split at h1
  · cases h1
  rename_i hc
  unfold sizeFault at h1
  split at h1
  · cases h1
  rename_i hs
  unfold placeFault at h2
  split at h2
  · cases h2
  rename_i hp
  intro k hk
  simp only [stayNums, List.mem_cons, List.not_mem_nil, or_false] at hk
  rcases hk with rfl | rfl | rfl | rfl | rfl | rfl | rfl | rfl <;> omega

theorem book_range {b : Book} {n : Int} (h : b.OK n) (hn : n ≤ 4) : ∀ k ∈ bookNums b, 0 ≤ k ∧ k ≤ 999999 := by
  have l1 := h.l1
  have l2 := h.l2
  have s16 := h.s16
  have j8 := h.j8
  intro k hk
  unfold bookNums at hk
  rcases List.mem_append.1 hk with hk | hk
  · rcases List.mem_append.1 hk with hk | hk
    · simp at hk
      rcases hk with rfl | rfl | rfl <;> omega
    · obtain ⟨s, hs, hk⟩ := List.mem_flatMap.1 hk
      exact stay_range (h.stays.1 s hs) hn l2 k hk
  · obtain ⟨j, hj, hk⟩ := List.mem_flatMap.1 hk
    obtain ⟨s, hs, e⟩ := h.found j hj
    have := h.stays.1 s hs
    have h3 := this.2.2.1
    have h4 := this.2.2.2.1
    simp only [jobNums, List.mem_cons, List.not_mem_nil, or_false] at hk
    rcases hk with rfl | rfl
    · omega
    · split <;> omega

theorem bookOfNums_nums {b : Book} {n : Int} (h : bookFault b n = 0) : bookOfNums (bookNums b) n = some b := by
  unfold bookNums bookOfNums
  simp only [List.cons_append, List.nil_append]
  have hl : (((b.last :: (b.stays.length : Int) :: (b.jobs.length : Int) :: (b.stays.flatMap stayNums ++ b.jobs.flatMap jobNums)).length : Nat) : Int) = 3 + 8 * (b.stays.length : Int) + 2 * (b.jobs.length : Int) := by
    simp only [List.length_cons, List.length_append, stays_len, jobs_len]; omega
  rw [if_pos hl]
  have hd : (b.stays.flatMap stayNums ++ b.jobs.flatMap jobNums).drop (8 * (b.stays.length : Int).toNat) = b.jobs.flatMap jobNums := by
    rw [Int.toNat_natCast, List.drop_append_of_le_length (by rw [stays_len]; omega), List.drop_of_length_le (by rw [stays_len]; omega), List.nil_append]
  rw [hd, Int.toNat_natCast, Int.toNat_natCast, jobsOf_nums, staysOf_nums]
  simp only
  rw [if_pos h]

/-- a book's text is read as it -/
theorem parse_text {b : Book} {n : Int} (h : bookFault b n = 0) (hn : n ≤ 4) : parseBook (bookText b) n = some b := by
  have hok := bookFault_iff.1 h
  have hr := book_range hok hn
  unfold parseBook numsOf bookText
  rw [words_join _ (by simp [bookNums]) (by
    intro w hw b' hb'
    obtain ⟨k, hk, rfl⟩ := List.mem_map.1 hw
    have := itoa_bytes (hr k hk).1 b' hb'
    intro e; subst e; revert this; decide), mapM_num _ hr]
  exact bookOfNums_nums h

theorem join_len : ∀ (l : List (List UInt8)), (joinWords l).length ≤ (l.map List.length).sum + l.length
  | [] => by simp [joinWords]
  | [w] => by simp [joinWords]
  | w :: v :: l => by
    have := join_len (v :: l)
    simp only [joinWords, List.length_append, List.length_cons, List.map_cons, List.sum_cons] at this ⊢
    omega

theorem sum_flat {α : Type} (f : α → List Int) (c : Nat) : ∀ (l : List α), (∀ x ∈ l, (((f x).map Lib.itoa).map List.length).sum ≤ c) → ((((l.flatMap f).map Lib.itoa).map List.length).sum) ≤ c * l.length
  | [], _ => by simp
  | x :: l, h => by
    have h1 := h x (by simp)
    have h2 := sum_flat f c l (fun y hy => h y (by simp [hy]))
    simp only [List.flatMap_cons, List.map_append, List.sum_append, List.length_cons, Nat.mul_succ]
    omega

theorem stay_digits {n last : Int} {s : Stay} (h : StayOK n last s) (hn : n ≤ 4) (hl : last ≤ 999999) : (((stayNums s).map Lib.itoa).map List.length).sum ≤ 18 := by
  obtain ⟨h1, h2, h3, h4, _⟩ := h
  unfold carFault at h1
  split at h1
  · cases h1
  rename_i hc
  unfold sizeFault at h1
  split at h1
  · cases h1
  rename_i hs
  unfold placeFault at h2
  split at h2
  · cases h2
  rename_i hp
  have e1 := itoa_len (n := s.ticket) (k := 5) (by omega) (by omega)
  have e2 := itoa_len (n := s.car.id) (k := 2) (by omega) (by omega)
  have e3 := itoa_len (n := s.car.size.long) (k := 1) (by omega) (by omega)
  have e4 := itoa_len (n := s.car.size.high) (k := 1) (by omega) (by omega)
  have e5 := itoa_len (n := s.car.size.heavy) (k := 1) (by omega) (by omega)
  have e6 := itoa_len (n := s.home.level) (k := 0) (by omega) (by omega)
  have e7 := itoa_len (n := s.home.side) (k := 0) (by omega) (by omega)
  have e8 := itoa_len (n := s.home.depth) (k := 0) (by omega) (by omega)
  simp only [stayNums, List.map_cons, List.map_nil, List.sum_cons, List.sum_nil]
  omega

theorem text_len {b : Book} {n : Int} (h : bookFault b n = 0) (hn : n ≤ 4) : (bookText b).length ≤ 640 := by
  have hok := bookFault_iff.1 h
  have l1 := hok.l1
  have l2 := hok.l2
  have s16 := hok.s16
  have j8 := hok.j8
  have h1 := join_len ((bookNums b).map Lib.itoa)
  have hs := sum_flat stayNums 18 b.stays (fun s hs => stay_digits (hok.stays.1 s hs) hn l2)
  have hj := sum_flat jobNums 7 b.jobs (fun j hj => by
    obtain ⟨s, hs, e⟩ := hok.found j hj
    have := hok.stays.1 s hs
    have h3 := this.2.2.1
    have h4 := this.2.2.2.1
    have e1 := itoa_len (n := j.ticket) (k := 5) (by omega) (by omega)
    have e2 := itoa_len (n := if j.fetch then 1 else 0) (k := 0) (by split <;> omega) (by split <;> omega)
    simp only [jobNums, List.map_cons, List.map_nil, List.sum_cons, List.sum_nil]
    omega)
  have e1 := itoa_len (n := b.last) (k := 5) (by omega) (by omega)
  have e2 := itoa_len (n := (b.stays.length : Int)) (k := 1) (by omega) (by omega)
  have e3 := itoa_len (n := (b.jobs.length : Int)) (k := 0) (by omega) (by omega)
  have hlen : (bookNums b).length = 3 + 8 * b.stays.length + 2 * b.jobs.length := by
    simp only [bookNums, List.length_append, stays_len, jobs_len, List.length_cons, List.length_nil]
  rw [List.length_map, hlen] at h1
  have hsum : ((((bookNums b).map Lib.itoa).map List.length).sum) = (Lib.itoa b.last).length + ((Lib.itoa (b.stays.length : Int)).length + ((Lib.itoa (b.jobs.length : Int)).length)) + (((b.stays.flatMap stayNums).map Lib.itoa).map List.length).sum + (((b.jobs.flatMap jobNums).map Lib.itoa).map List.length).sum := by
    simp only [bookNums, List.map_append, List.sum_append, List.map_cons, List.map_nil, List.sum_cons, List.sum_nil]; omega
  unfold bookText
  omega

end Ch

namespace Ch

/-! ### disk -/

def zeros (n : Nat) : ByteArray := ⟨Array.replicate n 0⟩

def fullS (s : ByteArray) : ByteArray := s ++ zeros (64 - s.size)

structure Disk where
  kept : List ByteArray
  now : List ByteArray
  wait : List (Nat × ByteArray)
  fuse : Int
  down : Bool
  deriving Inhabited

def Disk.new (n : Nat) : Disk := ⟨List.replicate n (zeros 64), List.replicate n (zeros 64), [], -1, false⟩

/-- what may fall: the disk behind it, and whether it stands -/
def Disk.stepped (d : Disk) : Disk :=
  if d.down then d else if d.fuse = 0 then { d with down := true, fuse := -1 } else { d with fuse := max (d.fuse - 1) (-1) }

/-- the error of a step -/
def Disk.stepErr (d : Disk) : Int := if d.stepped.down then 9 else 0

def Disk.read (d : Disk) (at_ : Int) : ByteArray × Int :=
  if d.down then (⟨#[]⟩, 9) else if at_ < 0 ∨ (d.now.length : Int) ≤ at_ then (⟨#[]⟩, 1) else (d.now.getD at_.toNat ⟨#[]⟩, 0)

def Disk.write (d : Disk) (at_ : Int) (data : ByteArray) : Disk × Int :=
  if at_ < 0 ∨ (d.now.length : Int) ≤ at_ ∨ 64 < data.size then (d, 1)
  else if d.stepped.down then (d.stepped, 9)
  else ({ d.stepped with now := d.now.set at_.toNat (fullS data), wait := d.wait ++ [(at_.toNat, fullS data)] }, 0)

def Disk.flush (d : Disk) : Disk × Int :=
  if d.stepped.down then (d.stepped, 9) else ({ d.stepped with kept := d.now, wait := [] }, 0)

def Disk.arm (d : Disk) (n : Int) : Disk := { d with fuse := max n (-1) }

def keepBit (keep : Nat) (i : Nat) : Bool := (keep / 2 ^ (i % 64)) % 2 == 1

/-- what was kept, and of what was written those whose bit is set; counted from i on -/
def keptOf (keep : Nat) : Nat → List (Nat × ByteArray) → List ByteArray → List ByteArray
  | _, [], k => k
  | i, t :: l, k => keptOf keep (i + 1) l (if keepBit keep i then k.set t.1 t.2 else k)

def Disk.restart (d : Disk) (keep : Nat) : Disk :=
  let k := keptOf keep 0 d.wait d.kept
  { kept := k, now := k, wait := [], fuse := -1, down := false }

/-- how a disk is made -/
structure Disk.WF (d : Disk) (n : Nat) : Prop where
  kept : d.kept.length = n
  now : d.now.length = n
  keptS : ∀ s ∈ d.kept, s.size = 64
  nowS : ∀ s ∈ d.now, s.size = 64
  wait : ∀ t ∈ d.wait, t.1 < n ∧ t.2.size = 64
  fuse : -1 ≤ d.fuse
  fuse2 : d.fuse ≤ 9223372036854775807

theorem zeros_size (n : Nat) : (zeros n).size = n := by simp [zeros, ByteArray.size]

theorem fullS_size {s : ByteArray} (h : s.size ≤ 64) : (fullS s).size = 64 := by
  simp [fullS, zeros_size]; omega

theorem Disk.WF.new (n : Nat) : (Disk.new n).WF n :=
  ⟨by simp [Disk.new], by simp [Disk.new], by intro s hs; simp [Disk.new] at hs; rw [hs.2, zeros_size], by intro s hs; simp [Disk.new] at hs; rw [hs.2, zeros_size], by simp [Disk.new], by simp [Disk.new], by simp [Disk.new]⟩

theorem Disk.WF.stepped {d : Disk} {n : Nat} (h : d.WF n) : d.stepped.WF n := by
  have := h.fuse
  have := h.fuse2
  unfold Disk.stepped
  split
  · exact h
  · split
    · exact ⟨h.kept, h.now, h.keptS, h.nowS, h.wait, by simp, by simp⟩
    · exact ⟨h.kept, h.now, h.keptS, h.nowS, h.wait, by simp; omega, by simp; omega⟩

theorem stepped_now (d : Disk) : d.stepped.now = d.now := by unfold Disk.stepped; split; rfl; split <;> rfl
theorem stepped_kept (d : Disk) : d.stepped.kept = d.kept := by unfold Disk.stepped; split; rfl; split <;> rfl
theorem stepped_wait (d : Disk) : d.stepped.wait = d.wait := by unfold Disk.stepped; split; rfl; split <;> rfl

theorem Disk.WF.write {d : Disk} {n : Nat} (h : d.WF n) (a : Int) (s : ByteArray) : (d.write a s).1.WF n := by
  unfold Disk.write
  split
  · exact h
  · rename_i hc
    split
    · exact h.stepped
    · have hn := h.now
      have hs := h.stepped
      refine ⟨hs.kept, by simp [h.now], hs.keptS, ?_, ?_, hs.fuse, hs.fuse2⟩
      · intro x hx
        rcases List.mem_or_eq_of_mem_set hx with hx | rfl
        · exact h.nowS x hx
        · exact fullS_size (by omega)
      · intro t ht
        simp at ht
        rcases ht with ht | rfl
        · exact h.wait t ht
        · exact ⟨by simp; omega, fullS_size (by omega)⟩

theorem Disk.WF.flush {d : Disk} {n : Nat} (h : d.WF n) : d.flush.1.WF n := by
  unfold Disk.flush
  split
  · exact h.stepped
  · exact ⟨h.now, h.stepped.now, h.nowS, h.stepped.nowS, by simp, h.stepped.fuse, h.stepped.fuse2⟩

theorem Disk.WF.arm {d : Disk} {n : Nat} (h : d.WF n) (k : Int) (hk : k ≤ 9223372036854775807) : (d.arm k).WF n :=
  ⟨h.kept, h.now, h.keptS, h.nowS, h.wait, by simp [Disk.arm]; omega, by simp [Disk.arm]; omega⟩

theorem keptOf_ok (keep n : Nat) : ∀ (l : List (Nat × ByteArray)) (i : Nat) (k : List ByteArray), k.length = n → (∀ s ∈ k, s.size = 64) → (∀ t ∈ l, t.1 < n ∧ t.2.size = 64) →
    (keptOf keep i l k).length = n ∧ ∀ s ∈ keptOf keep i l k, s.size = 64
  | [], _, k, h1, h2, _ => ⟨h1, h2⟩
  | t :: l, i, k, h1, h2, h3 => by
    unfold keptOf
    refine keptOf_ok keep n l (i + 1) _ ?_ ?_ (fun t' ht => h3 t' (by simp [ht]))
    · split <;> simp [h1]
    · split
      · intro s hs
        rcases List.mem_or_eq_of_mem_set hs with hs | rfl
        · exact h2 s hs
        · exact (h3 t (by simp)).2
      · exact h2

theorem Disk.WF.restart {d : Disk} {n : Nat} (h : d.WF n) (keep : Nat) : (d.restart keep).WF n := by
  obtain ⟨h1, h2⟩ := keptOf_ok keep n d.wait 0 d.kept h.kept h.keptS h.wait
  exact ⟨h1, h1, h2, h2, by simp [Disk.restart], by simp [Disk.restart], by simp [Disk.restart]⟩

theorem keptOf_snoc (keep : Nat) (t : Nat × ByteArray) : ∀ (l : List (Nat × ByteArray)) (i : Nat) (k : List ByteArray),
    keptOf keep i (l ++ [t]) k = if keepBit keep (i + l.length) then (keptOf keep i l k).set t.1 t.2 else keptOf keep i l k
  | [], i, k => by simp [keptOf]
  | u :: l, i, k => by
    simp only [List.cons_append, keptOf, List.length_cons]
    rw [keptOf_snoc keep t l (i + 1)]
    rw [show i + 1 + l.length = i + (l.length + 1) by omega]

/-- a step more of a restart, place by place -/
theorem keptOf_take (keep : Nat) {l : List (Nat × ByteArray)} {k : Nat} {t : Nat × ByteArray} (h : l[k]? = some t) (m : List ByteArray) :
    keptOf keep 0 (l.take (k + 1)) m = if keepBit keep k then (keptOf keep 0 (l.take k) m).set t.1 t.2 else keptOf keep 0 (l.take k) m := by
  have hk : k < l.length := by
    by_cases hk : k < l.length
    · exact hk
    · rw [List.getElem?_eq_none (by omega)] at h; cases h
  rw [List.take_add_one, h]
  simp only [Option.toList_some]
  rw [keptOf_snoc, List.length_take, Nat.zero_add, Nat.min_eq_left (by omega)]
end Ch
