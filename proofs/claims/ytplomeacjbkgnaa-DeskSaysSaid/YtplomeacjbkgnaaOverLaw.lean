/-
  PLAIN LAWS of what TopOver reckons: where a ticket stands in a book from which others have been struck; two lists of jobs gone through side by side. No program in sight.
-/
import Derived.Test.YtplomeacjbkgnaaBookLaw
namespace Ch

/-- where the k-th of a list stands when some have been struck -/
def rank {α : Type} (q : α → Bool) (l : List α) (k : Nat) : Nat := ((l.take k).filter q).length

theorem rank_succ {α : Type} {q : α → Bool} {l : List α} {k : Nat} {x : α} (h : l[k]? = some x) : rank q l (k + 1) = rank q l k + (if q x then 1 else 0) := by
  unfold rank
  rw [List.take_add_one, h, List.filter_append, List.length_append]
  cases hq : q x <;> simp [hq]

theorem rank_le {α : Type} {q : α → Bool} {l : List α} {k : Nat} {x : α} (h : l[k]? = some x) : rank q l k ≤ rank q l (k + 1) := by
  rw [rank_succ h]; omega

theorem rank_get {α : Type} {q : α → Bool} {l : List α} {k : Nat} {x : α} (h : l[k]? = some x) (hq : q x = true) : (l.filter q)[rank q l k]? = some x := by
  have hk : k < l.length := by
    rcases Nat.lt_or_ge k l.length with h1 | h1
    · exact h1
    · rw [List.getElem?_eq_none h1] at h; cases h
  have e : l = l.take k ++ x :: l.drop (k + 1) := by
    have h2 : l[k] = x := by rw [List.getElem?_eq_getElem hk] at h; exact Option.some.inj h
    rw [← h2, ← List.drop_eq_getElem_cons hk, List.take_append_drop]
  unfold rank
  conv => lhs; rw [e]
  rw [List.filter_append]
  have e2 : (List.take k (l.take k ++ x :: l.drop (k + 1))) = l.take k := by rw [← e]
  rw [e2, List.getElem?_append_right (Nat.le_refl _), Nat.sub_self, List.filter_cons, hq]
  simp

theorem indexOf_at {α : Type} {p : α → Bool} {l : List α} {k : Nat} {x : α} (h : l[k]? = some x) (hp : p x = true) (hb : ∀ j y, j < k → l[j]? = some y → p y = false) : indexOf p l = k := by
  have hk : k < l.length := by
    rcases Nat.lt_or_ge k l.length with h1 | h1
    · exact h1
    · rw [List.getElem?_eq_none h1] at h; cases h
  unfold indexOf
  have : l.findIdx? p = some k := by
    rw [List.findIdx?_eq_some_iff_getElem]
    refine ⟨hk, ?_, ?_⟩
    · rw [List.getElem?_eq_getElem hk] at h
      rw [Option.some.inj h]; exact hp
    · intro j hj
      have := hb j (l[j]'(by omega)) hj (by rw [List.getElem?_eq_getElem (by omega)])
      simp [this]
  rw [this]

theorem get_inj_of_lt {l : List Stay} (h : l.Pairwise StayLt) {j k : Nat} {a b : Stay} (ha : l[j]? = some a) (hb : l[k]? = some b) (hjk : j < k) : a.ticket < b.ticket := by
  have h1 : k < l.length := by
    rcases Nat.lt_or_ge k l.length with h1 | h1
    · exact h1
    · rw [List.getElem?_eq_none h1] at hb; cases hb
  have := List.pairwise_iff_getElem.1 h j k (by omega) h1 hjk
  rw [List.getElem?_eq_getElem h1] at hb
  rw [List.getElem?_eq_getElem (by omega)] at ha
  cases ha; cases hb
  exact this.1

/-- a ticket is found where its stay stands -/
theorem index_ticket {l : List Stay} (h : l.Pairwise StayLt) {k : Nat} {s : Stay} (hs : l[k]? = some s) : indexOf (fun x : Stay => x.ticket == s.ticket) l = k :=
  indexOf_at hs (by simp) (fun j y hj hy => by
    have := get_inj_of_lt h hy hs hj
    simp; omega)

/-- a ticket that is not struck is found, and its stay there -/
theorem index_rank {l : List Stay} (h : l.Pairwise StayLt) {q : Stay → Bool} {k : Nat} {s : Stay} (hs : l[k]? = some s) (hq : q s = true) :
    indexOf (fun x : Stay => x.ticket == s.ticket) (l.filter q) = (rank q l k : Nat) ∧ (l.filter q)[rank q l k]? = some s :=
  ⟨index_ticket (h.sublist List.filter_sublist) (rank_get hs hq), rank_get hs hq⟩

/-- what is struck of a book's stays when a job is done -/
def staysKept (j : Job) (gone : Bool) (s : Stay) : Bool := !((j.fetch || gone) && s.ticket == j.ticket)

def jobsKept (j : Job) (gone : Bool) (x : Job) : Bool := !(x == j || ((j.fetch || gone) && x.ticket == j.ticket))

theorem done_stays (b : Book) (j : Job) (gone : Bool) : (doneWith b j gone).stays = b.stays.filter (staysKept j gone) := by
  unfold doneWith staysKept
  cases (j.fetch || gone)
  · simp only [Bool.false_and, Bool.not_false, Bool.false_eq_true, if_false]
    exact (List.filter_eq_self.2 (fun _ _ => rfl)).symm
  · simp

theorem done_jobs (b : Book) (j : Job) (gone : Bool) : (doneWith b j gone).jobs = b.jobs.filter (jobsKept j gone) := rfl

theorem staysKept_other {j : Job} {gone : Bool} {s : Stay} (h : s.ticket ≠ j.ticket) : staysKept j gone s = true := by
  unfold staysKept
  simp [h]

theorem jobsKept_not {j : Job} {gone : Bool} {x : Job} (h : jobsKept j gone x = false) : x.ticket = j.ticket := by
  unfold jobsKept at h
  by_cases e : x = j
  · rw [e]
  · simp [e] at h
    exact h.2

theorem jobsKept_self {j : Job} {gone : Bool} : jobsKept j gone j = false := by simp [jobsKept]

/-- a job that is done is no more -/
theorem done_job_ne {b : Book} {j : Job} {gone : Bool} {i : Nat} {x : Job} (h : (doneWith b j gone).jobs[i]? = some x) : x ≠ j := by
  rintro rfl
  have := List.mem_of_getElem? h
  rw [done_jobs, List.mem_filter] at this
  rw [jobsKept_self] at this
  cases this.2

/-- who is gone, or was fetched, is found no more -/
theorem done_find {b : Book} {j : Job} {gone : Bool} (h : (j.fetch || gone) = true) : indexOf (fun s : Stay => s.ticket == j.ticket) (doneWith b j gone).stays = -1 := by
  rw [done_stays]
  unfold indexOf
  have : (b.stays.filter (staysKept j gone)).findIdx? (fun s : Stay => s.ticket == j.ticket) = none := by
    rw [List.findIdx?_eq_none_iff]
    intro x hx
    rw [List.mem_filter] at hx
    have := hx.2
    unfold staysKept at this
    rw [h] at this
    simpa using this
  rw [this]

theorem done_stays_same {b : Book} {j : Job} {gone : Bool} (h : (j.fetch || gone) = false) : (doneWith b j gone).stays = b.stays := by
  rw [done_stays]
  unfold staysKept
  rw [h]
  simp

/-! ### two lists of jobs, side by side -/

theorem filter_drop_ne {α : Type} {q : α → Bool} {l : List α} {at_ : Nat} {x y : α} {r : List α} (h : (l.drop at_).filter q = x :: r) (hy : l[at_]? = some y) (hne : y ≠ x) : q y = false ∧ (l.drop (at_ + 1)).filter q = x :: r := by
  have hk : at_ < l.length := by
    rcases Nat.lt_or_ge at_ l.length with h1 | h1
    · exact h1
    · rw [List.getElem?_eq_none h1] at hy; cases hy
  rw [List.getElem?_eq_getElem hk] at hy
  rw [List.drop_eq_getElem_cons hk, Option.some.inj hy, List.filter_cons] at h
  cases hq : q y
  · rw [hq] at h; exact ⟨rfl, by simpa using h⟩
  · rw [hq] at h
    simp at h
    exact absurd h.1 hne

theorem filter_drop_eq {α : Type} {q : α → Bool} {l : List α} {at_ : Nat} {x : α} {r : List α} (h : (l.drop at_).filter q = x :: r) (hy : l[at_]? = some x) (hq : q x = true) : (l.drop (at_ + 1)).filter q = r := by
  have hk : at_ < l.length := by
    rcases Nat.lt_or_ge at_ l.length with h1 | h1
    · exact h1
    · rw [List.getElem?_eq_none h1] at hy; cases hy
  rw [List.getElem?_eq_getElem hk] at hy
  rw [List.drop_eq_getElem_cons hk, Option.some.inj hy, List.filter_cons, hq] at h
  simpa using h

theorem filter_drop_lt {α : Type} {q : α → Bool} {l : List α} {at_ : Nat} {x : α} {r : List α} (h : (l.drop at_).filter q = x :: r) : at_ < l.length := by
  rcases Nat.lt_or_ge at_ l.length with h1 | h1
  · exact h1
  · rw [List.drop_of_length_le h1] at h; cases h

theorem filter_head {α : Type} {q : α → Bool} {l : List α} {i : Nat} {x : α} (h : (l.filter q)[i]? = some x) : q x = true := (List.mem_filter.1 (List.mem_of_getElem? h)).2

theorem filter_end {α : Type} {q : α → Bool} {l : List α} {at_ : Nat} {y : α} (h : (l.drop at_).filter q = []) (hy : l[at_]? = some y) : q y = false ∧ (l.drop (at_ + 1)).filter q = [] := by
  have hk : at_ < l.length := by
    rcases Nat.lt_or_ge at_ l.length with h1 | h1
    · exact h1
    · rw [List.getElem?_eq_none h1] at hy; cases hy
  rw [List.getElem?_eq_getElem hk] at hy
  rw [List.drop_eq_getElem_cons hk, Option.some.inj hy, List.filter_cons] at h
  cases hq : q y
  · rw [hq] at h; exact ⟨rfl, by simpa using h⟩
  · rw [hq] at h; cases h
end Ch
