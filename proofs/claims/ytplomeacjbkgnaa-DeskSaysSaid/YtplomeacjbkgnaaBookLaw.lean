/-
  PLAIN LAWS of books: when one may be, and what parking, wanting and being done make of it; no program in sight.
-/
import Derived.Test.YtplomeacjbkgnaaPlantLaw
namespace Ch

def StayOK (n last : Int) (s : Stay) : Prop := carFault s.car = 0 ∧ placeFault s.home n = 0 ∧ 1 ≤ s.ticket ∧ s.ticket ≤ last ∧ s.home ∈ places n

def StayLt (a b : Stay) : Prop := a.ticket < b.ticket ∧ a.home ≠ b.home ∧ a.car.id ≠ b.car.id

def StaysOK (n last : Int) (l : List Stay) : Prop := (∀ s ∈ l, StayOK n last s) ∧ l.Pairwise StayLt

theorem stayFault_iff {n last : Int} {before : List Stay} {s : Stay} (hb : before.Pairwise StayLt) : stayFault n last before s = 0 ↔ StayOK n last s ∧ ∀ x ∈ before, StayLt x s := by
  unfold stayFault StayOK
  by_cases h1 : carFault s.car ≠ 0
  · rw [if_pos h1]; exact ⟨fun h => absurd h h1, fun h => absurd h.1.1 h1⟩
  rw [if_neg h1]
  by_cases h2 : placeFault s.home n ≠ 0
  · rw [if_pos h2]; exact ⟨fun h => absurd h h2, fun h => absurd h.1.2.1 h2⟩
  rw [if_neg h2]
  by_cases h3 : s.ticket < 1 ∨ last < s.ticket
  · rw [if_pos h3]
    constructor
    · intro h; cases h
    · intro h; omega
  rw [if_neg h3]
  by_cases h4 : ¬ s.home ∈ places n ∨ (∃ x ∈ before.getLast?, s.ticket ≤ x.ticket)
  · rw [if_pos h4]
    constructor
    · intro h; cases h
    · rintro ⟨h, h'⟩
      rcases h4 with h4 | ⟨x, hx, hle⟩
      · exact absurd h.2.2.2.2 h4
      · have := (h' x (List.mem_of_getLast? hx)).1
        omega
  rw [if_neg h4]
  have h4a : s.home ∈ places n := by
    apply Classical.byContradiction; intro hc; exact h4 (Or.inl hc)
  have h4b : ∀ x ∈ before, x.ticket < s.ticket := by
    intro x hx
    cases hg : before.getLast? with
    | none => rw [List.getLast?_eq_none_iff] at hg; subst hg; cases hx
    | some y =>
      have hy : y.ticket < s.ticket := by
        apply Classical.byContradiction; intro hc; exact h4 (Or.inr ⟨y, hg, by omega⟩)
      rw [List.getLast?_eq_some_iff] at hg
      obtain ⟨ys, rfl⟩ := hg
      rw [List.pairwise_append] at hb
      rcases List.mem_append.1 hx with hx | hx
      · have := (hb.2.2 x hx y (by simp)).1; omega
      · simp at hx; subst hx; exact hy
  by_cases h5 : (before.any fun x => x.home == s.home || x.car.id == s.car.id) = true
  · rw [if_pos h5]
    constructor
    · intro h; cases h
    · rintro ⟨_, h'⟩
      rw [List.any_eq_true] at h5
      obtain ⟨x, hx, e⟩ := h5
      have := (h' x hx).2
      simp at e
      rcases e with e | e
      · exact absurd e this.1
      · exact absurd e this.2
  rw [if_neg h5]
  refine ⟨fun _ => ⟨⟨by omega, by omega, by omega, by omega, h4a⟩, ?_⟩, fun _ => rfl⟩
  intro x hx
  refine ⟨h4b x hx, ?_, ?_⟩
  · intro e; apply h5; rw [List.any_eq_true]; exact ⟨x, hx, by simp [e]⟩
  · intro e; apply h5; rw [List.any_eq_true]; exact ⟨x, hx, by simp [e]⟩

theorem staysFault_iff {n last : Int} {before l : List Stay} (hb : StaysOK n last before) : staysFault n last before l = 0 ↔ StaysOK n last (before ++ l) := by
  induction l generalizing before with
  | nil => simp [staysFault, hb]
  | cons s l ih =>
    unfold staysFault
    by_cases h : stayFault n last before s = 0
    · rw [if_neg (by simpa using h)]
      rw [stayFault_iff hb.2] at h
      rw [ih, List.append_assoc]
      · rfl
      · refine ⟨?_, ?_⟩
        · intro x hx
          rcases List.mem_append.1 hx with hx | hx
          · exact hb.1 x hx
          · simp at hx; subst hx; exact h.1
        · rw [List.pairwise_append]
          refine ⟨hb.2, by simp, ?_⟩
          intro x hx y hy
          simp at hy; subst hy
          exact h.2 x hx
    · rw [if_pos h]
      refine ⟨fun e => absurd e h, fun e => ?_⟩
      exfalso
      apply h
      rw [stayFault_iff hb.2]
      refine ⟨e.1 s (by simp), fun x hx => ?_⟩
      have := List.pairwise_append.1 e.2
      exact this.2.2 x hx s (by simp)

theorem jobsFault_iff {stays : List Stay} {before l : List Job} (hb : before.Nodup) : jobsFault stays before l = 0 ↔ (∀ j ∈ l, ∃ s ∈ stays, s.ticket = j.ticket) ∧ (before ++ l).Nodup := by
  induction l generalizing before with
  | nil => simp [jobsFault, hb]
  | cons j l ih =>
    unfold jobsFault
    by_cases h : (stays.any fun s => s.ticket == j.ticket) = false ∨ j ∈ before
    · rw [if_pos h]
      constructor
      · intro e; cases e
      · rintro ⟨e1, e2⟩
        rcases h with h | h
        · obtain ⟨s, hs, e⟩ := e1 j (by simp)
          rw [List.any_eq_false] at h
          exact absurd (by simpa using e) (h s hs)
        · rw [List.nodup_append] at e2
          exact absurd rfl (e2.2.2 j h j (by simp))
    · rw [if_neg h]
      have h1 : ∃ s ∈ stays, s.ticket = j.ticket := by
        apply Classical.byContradiction
        intro hc
        apply h
        left
        rw [List.any_eq_false]
        intro s hs e
        exact hc ⟨s, hs, by simpa using e⟩
      have h2 : ¬ j ∈ before := fun hc => h (Or.inr hc)
      have hb' : (before ++ [j]).Nodup := by
        rw [List.nodup_append]
        refine ⟨hb, by simp, ?_⟩
        intro x hx y hy
        simp at hy; subst hy
        rintro rfl; exact h2 hx
      rw [ih hb', List.append_assoc]
      constructor
      · rintro ⟨e1, e2⟩
        refine ⟨?_, e2⟩
        intro x hx
        rcases List.mem_cons.1 hx with rfl | hx
        · exact h1
        · exact e1 x hx
      · rintro ⟨e1, e2⟩
        exact ⟨fun x hx => e1 x (by simp [hx]), e2⟩

structure Book.OK (b : Book) (n : Int) : Prop where
  l1 : 0 ≤ b.last
  l2 : b.last ≤ 999999
  s16 : b.stays.length ≤ 16
  j8 : b.jobs.length ≤ 8
  stays : StaysOK n b.last b.stays
  found : ∀ j ∈ b.jobs, ∃ s ∈ b.stays, s.ticket = j.ticket
  once : b.jobs.Nodup

theorem bookFault_iff {b : Book} {n : Int} : bookFault b n = 0 ↔ b.OK n := by
  unfold bookFault
  by_cases h1 : b.last < 0 ∨ 999999 < b.last
  · rw [if_pos h1]
    constructor
    · intro h; cases h
    · intro h; have := h.l1; have := h.l2; omega
  rw [if_neg h1]
  by_cases h2 : 16 < b.stays.length ∨ 8 < b.jobs.length
  · rw [if_pos h2]
    constructor
    · intro h; cases h
    · intro h; have := h.s16; have := h.j8; omega
  rw [if_neg h2]
  have hs := staysFault_iff (n := n) (last := b.last) (before := []) (l := b.stays) ⟨by simp, List.Pairwise.nil⟩
  rw [List.nil_append] at hs
  have hj := jobsFault_iff (stays := b.stays) (before := []) (l := b.jobs) (by simp)
  rw [List.nil_append] at hj
  by_cases h3 : staysFault n b.last [] b.stays ≠ 0
  · rw [if_pos h3]
    exact ⟨fun h => absurd h h3, fun h => absurd (hs.2 h.stays) h3⟩
  rw [if_neg h3, hj]
  have h3 : staysFault n b.last [] b.stays = 0 := by omega
  constructor
  · rintro ⟨e1, e2⟩
    exact ⟨by omega, by omega, by omega, by omega, hs.1 h3, e1, e2⟩
  · intro h
    exact ⟨h.found, h.once⟩

theorem StaysOK.sub {n last : Int} {l m : List Stay} (h : StaysOK n last l) (hs : List.Sublist m l) : StaysOK n last m := ⟨fun s hm => h.1 s (hs.subset hm), h.2.sublist hs⟩

theorem ticket_inj {n last : Int} {l : List Stay} (h : StaysOK n last l) {a b : Stay} (ha : a ∈ l) (hb : b ∈ l) (e : a.ticket = b.ticket) : a = b := by
  have hp := h.2
  clear h
  induction l with
  | nil => cases ha
  | cons x l ih =>
    obtain ⟨h1, h2⟩ := List.pairwise_cons.1 hp
    rcases List.mem_cons.1 ha with rfl | ha' <;> rcases List.mem_cons.1 hb with rfl | hb'
    · rfl
    · have := (h1 b hb').1; omega
    · have := (h1 a ha').1; omega
    · exact ih ha' hb' h2

theorem id_inj {n last : Int} {l : List Stay} (h : StaysOK n last l) {a b : Stay} (ha : a ∈ l) (hb : b ∈ l) (e : a.car.id = b.car.id) : a = b := by
  have hp := h.2
  clear h
  induction l with
  | nil => cases ha
  | cons x l ih =>
    obtain ⟨h1, h2⟩ := List.pairwise_cons.1 hp
    rcases List.mem_cons.1 ha with rfl | ha' <;> rcases List.mem_cons.1 hb with rfl | hb'
    · rfl
    · exact absurd e (h1 b hb').2.2
    · exact absurd e.symm (h1 a ha').2.2
    · exact ih ha' hb' h2

theorem home_inj {n last : Int} {l : List Stay} (h : StaysOK n last l) {a b : Stay} (ha : a ∈ l) (hb : b ∈ l) (e : a.home = b.home) : a = b := by
  have hp := h.2
  clear h
  induction l with
  | nil => cases ha
  | cons x l ih =>
    obtain ⟨h1, h2⟩ := List.pairwise_cons.1 hp
    rcases List.mem_cons.1 ha with rfl | ha' <;> rcases List.mem_cons.1 hb with rfl | hb'
    · rfl
    · exact absurd e (h1 b hb').2.1
    · exact absurd e.symm (h1 a ha').2.1
    · exact ih ha' hb' h2

/-! ### a job is over -/

theorem done_ok {b : Book} {n : Int} (h : b.OK n) (j : Job) (gone : Bool) : (doneWith b j gone).OK n := by
  obtain ⟨l1, l2, s16, j8, st, fo, on⟩ := h
  unfold doneWith
  refine ⟨l1, l2, ?_, ?_, ?_, ?_, ?_⟩
  · dsimp only
    split
    · exact Nat.le_trans (List.length_filter_le _ _) s16
    · exact s16
  · exact Nat.le_trans (List.length_filter_le _ _) j8
  · dsimp only
    split
    · exact st.sub List.filter_sublist
    · exact st
  · dsimp only
    intro x hx
    rw [List.mem_filter] at hx
    obtain ⟨s, hs, e⟩ := fo x hx.1
    refine ⟨s, ?_, e⟩
    split
    · rename_i ho
      rw [List.mem_filter]
      refine ⟨hs, ?_⟩
      have := hx.2
      rw [ho] at this
      simp at this
      simp [e, this.2]
    · exact hs
  · exact on.filter _

/-! ### a car is parked -/

theorem places_len {n : Int} (h : n ≤ 4) : (places n).length ≤ 14 := by
  by_cases h1 : n ≤ 0
  · have : places n = [] := by unfold places; rw [show n.toNat = 0 by omega]; rfl
    rw [this]; simp
  · have : n = 1 ∨ n = 2 ∨ n = 3 ∨ n = 4 := by omega
    rcases this with rfl | rfl | rfl | rfl <;> decide

theorem length_le_of_subset {α : Type} [DecidableEq α] : ∀ {l m : List α}, l.Nodup → (∀ x ∈ l, x ∈ m) → l.length ≤ m.length
  | [], _, _, _ => Nat.zero_le _
  | x :: l, m, hn, hs => by
    obtain ⟨h1, h2⟩ := List.nodup_cons.1 hn
    have hx := hs x (by simp)
    have := length_le_of_subset (l := l) (m := m.erase x) h2 (fun y hy => by
      rw [List.mem_erase_of_ne]
      · exact hs y (by simp [hy])
      · rintro rfl; exact h1 hy)
    rw [List.length_erase_of_mem hx] at this
    have : 0 < m.length := List.length_pos_of_mem hx
    simp; omega

theorem homes_nodup {n last : Int} {l : List Stay} (h : StaysOK n last l) : (l.map fun s => s.home).Nodup := by
  unfold List.Nodup
  rw [List.pairwise_map]
  exact h.2.imp fun h => h.2.1

theorem pick_some {b : Book} {levels : List Size} {c : Car} {p : Place} (h : pick b levels c = some p) :
    p ∈ places levels.length ∧ fits c.size (levels.getD (p.level - 1).toNat default) = true ∧ hasHome b p = false ∧ hasHome b (front p) = false ∧ waits b p = false := by
  unfold pick at h
  have h1 := List.mem_of_find?_eq_some h
  have h2 := List.find?_some h
  simp only [Bool.and_eq_true, Bool.not_eq_true'] at h2
  exact ⟨h1, h2.1.1.1, h2.1.1.2, h2.1.2, h2.2⟩

theorem hasHome_iff {b : Book} {p : Place} : hasHome b p = false ↔ ∀ s ∈ b.stays, s.home ≠ p := by
  unfold hasHome
  rw [List.any_eq_false]
  simp

theorem places_ok {n : Int} (h : n ≤ 4) : ∀ x ∈ places n, placeFault x n = 0 := by
  by_cases h1 : n ≤ 0
  · have : places n = [] := by unfold places; rw [show n.toNat = 0 by omega]; rfl
    rw [this]; simp
  · have : n = 1 ∨ n = 2 ∨ n = 3 ∨ n = 4 := by omega
    rcases this with rfl | rfl | rfl | rfl <;> decide

theorem park_ok {b : Book} {levels : List Size} {c : Car} {x : Book} {k : Int} (h : b.OK levels.length) (h4 : levels.length ≤ 4) (hp : park b levels c = .ok (x, k)) :
    ∃ p, pick b levels c = some p ∧ carFault c = 0 ∧ (b.of c.id) = none ∧ b.last < 999999 ∧ b.jobs.length < 8 ∧ k = b.last + 1 ∧ x = ⟨b.last + 1, b.stays ++ [⟨b.last + 1, c, p⟩], b.jobs ++ [⟨b.last + 1, false⟩]⟩ ∧ x.OK levels.length := by
  obtain ⟨l1, l2, s16, j8, st, fo, on⟩ := h
  unfold park at hp
  by_cases c1 : carFault c ≠ 0
  · rw [if_pos c1] at hp; cases hp
  rw [if_neg c1] at hp
  by_cases c2 : (b.of c.id).isSome = true
  · rw [if_pos c2] at hp; cases hp
  rw [if_neg c2] at hp
  cases c3 : pick b levels c with
  | none => rw [c3] at hp; cases hp
  | some p =>
    rw [c3] at hp
    dsimp only at hp
    by_cases c4 : b.last = 999999 ∨ b.jobs.length = 8
    · rw [if_pos c4] at hp; cases hp
    rw [if_neg c4] at hp
    cases hp
    obtain ⟨k1, k2, k3, k4, k5⟩ := pick_some c3
    have hno : b.of c.id = none := by simpa using c2
    refine ⟨p, rfl, by omega, hno, by omega, by omega, rfl, rfl, ?_⟩
    rw [hasHome_iff] at k3
    have hid : ∀ s ∈ b.stays, s.car.id ≠ c.id := by
      intro s hs e
      unfold Book.of at hno
      rw [List.find?_eq_none] at hno
      exact hno s hs (by simpa using e)
    have hlen : (b.stays ++ [(⟨b.last + 1, c, p⟩ : Stay)]).length ≤ 14 := by
      have hn : ((b.stays ++ [(⟨b.last + 1, c, p⟩ : Stay)]).map fun s => s.home).Nodup := by
        rw [List.map_append, List.nodup_append]
        refine ⟨homes_nodup st, by simp, ?_⟩
        intro y hy z hz
        simp at hz; subst hz
        rw [List.mem_map] at hy
        obtain ⟨s, hs, rfl⟩ := hy
        exact k3 s hs
      have := length_le_of_subset hn (m := places levels.length) (fun y hy => by
        rw [List.mem_map] at hy
        obtain ⟨s, hs, rfl⟩ := hy
        rcases List.mem_append.1 hs with hs | hs
        · exact (st.1 s hs).2.2.2.2
        · simp at hs; subst hs; exact k1)
      have h14 := places_len (n := levels.length) (by omega)
      simp only [List.length_map] at this
      omega
    refine ⟨by dsimp only; omega, by dsimp only; omega, by dsimp only; omega, by simp; omega, ⟨?_, ?_⟩, ?_, ?_⟩
    · intro s hs
      rcases List.mem_append.1 hs with hs | hs
      · have := st.1 s hs
        exact ⟨this.1, this.2.1, this.2.2.1, by have := this.2.2.2.1; dsimp only; omega, this.2.2.2.2⟩
      · simp at hs; subst hs
        exact ⟨by dsimp only; omega, places_ok (by omega) p k1, by dsimp only; omega, by dsimp only; omega, k1⟩
    · dsimp only
      rw [List.pairwise_append]
      refine ⟨st.2, by simp, ?_⟩
      intro s hs y hy
      simp at hy; subst hy
      exact ⟨by have := (st.1 s hs).2.2.2.1; dsimp only; omega, k3 s hs, hid s hs⟩
    · intro j hj
      rcases List.mem_append.1 hj with hj | hj
      · obtain ⟨s, hs, e⟩ := fo j hj
        exact ⟨s, List.mem_append_left _ hs, e⟩
      · simp at hj; subst hj
        exact ⟨⟨b.last + 1, c, p⟩, by simp, rfl⟩
    · dsimp only
      rw [List.nodup_append]
      refine ⟨on, by simp, ?_⟩
      intro j hj y hy
      simp at hy; subst hy
      rintro rfl
      obtain ⟨s, hs, e⟩ := fo _ hj
      have := (st.1 s hs).2.2.2.1
      dsimp only at e
      omega

theorem want_ok {b x : Book} {n t : Int} (h : b.OK n) (hw : want b t = .ok x) : x = { b with jobs := b.jobs ++ [⟨t, true⟩] } ∧ x.OK n := by
  obtain ⟨l1, l2, s16, j8, st, fo, on⟩ := h
  unfold want at hw
  by_cases c1 : (b.find t).isNone = true
  · rw [if_pos c1] at hw; cases hw
  rw [if_neg c1] at hw
  by_cases c2 : b.jobs.contains ⟨t, true⟩ = true
  · rw [if_pos c2] at hw; cases hw
  rw [if_neg c2] at hw
  by_cases c3 : b.jobs.length = 8
  · rw [if_pos c3] at hw; cases hw
  rw [if_neg c3] at hw
  cases hw
  refine ⟨rfl, l1, l2, s16, by simp; omega, st, ?_, ?_⟩
  · intro j hj
    rcases List.mem_append.1 hj with hj | hj
    · exact fo j hj
    · simp at hj; subst hj
      unfold Book.find at c1
      cases hf : b.stays.find? (fun s => s.ticket == t) with
      | none => rw [hf] at c1; exact absurd rfl c1
      | some s => exact ⟨s, List.mem_of_find?_eq_some hf, by simpa using List.find?_some hf⟩
  · dsimp only
    rw [List.nodup_append]
    refine ⟨on, by simp, ?_⟩
    intro j hj y hy
    simp at hy; subst hy
    rintro rfl
    exact c2 (by simpa using hj)
end Ch
