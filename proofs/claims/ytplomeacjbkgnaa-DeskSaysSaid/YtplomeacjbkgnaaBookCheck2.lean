/-
  The walk of book.Check: a book's fault.
-/
import Derived.Test.YtplomeacjbkgnaaBookCheck
import Derived.Test.YtplomeacjbkgnaaBookLaw
namespace Go.Proofs.Ytplomeacjbkgnaa
open Go.RowKit

theorem jobs_at (st : List Ch.Stay) {l : List Ch.Job} {k : Nat} {j : Ch.Job} (hj : l[k]? = some j) :
    Ch.jobsFault st (l.take k) (l.drop k) = if (st.any fun s => s.ticket == j.ticket) = false ∨ j ∈ l.take k then 3 else Ch.jobsFault st (l.take (k + 1)) (l.drop (k + 1)) := by
  have hk : k < l.length := by
    by_cases h : k < l.length
    · exact h
    · rw [List.getElem?_eq_none (by omega)] at hj; cases hj
  rw [List.drop_eq_getElem_cons hk, List.take_add_one, hj]
  rw [List.getElem?_eq_getElem hk] at hj
  cases hj
  rfl

theorem index_none {l : List Ch.Stay} {p : Ch.Stay → Bool} (h : l.any p = false) : Ch.indexOf p l = -1 := by
  unfold Ch.indexOf
  have : l.findIdx? p = none := by
    rw [List.findIdx?_eq_none_iff]
    intro x hx
    have h2 := List.any_eq_false.1 h x hx
    simpa using h2
  rw [this]

theorem index_some {l : List Ch.Stay} {p : Ch.Stay → Bool} (h : l.any p = true) : ∃ i : Nat, Ch.indexOf p l = i := by
  unfold Ch.indexOf
  cases h2 : l.findIdx? p with
  | none =>
    rw [List.findIdx?_eq_none_iff] at h2
    obtain ⟨x, hx, hp⟩ := List.any_eq_true.1 h
    have := h2 x hx
    rw [hp] at this
    cases this
  | some i => exact ⟨i, rfl⟩

theorem find_at (fi last t : Int) (a1 : Option Addr) (m1 c1 : Nat) (a2 : Option Addr) (m2 c2 : Nat) (l : List Ch.Stay) (w : World) (h : Sl w 8 stayCells l a1 m1 c1) (hf : Hid (Ch.indexOf (fun s => s.ticket == t) l = fi)) :
    Calls Try.prog 108 #[bookA last a1 m1 c1 a2 m2 c2, vi t] w fun e w' => e = .returned (vi fi) ∧ Ext w w' := by
  have := find_any last t a1 m1 c1 a2 m2 c2 l w h
  rw [hf.out] at this
  exact this

theorem containsJob_at (bb : Bool) (a : Option Addr) (n cap : Nat) (l : List Ch.Job) (t : Int) (f : Bool) (w : World) (h : Sl w 2 jobCells l a n cap) (hb : Hid (decide ((⟨t, f⟩ : Ch.Job) ∈ l) = bb)) :
    Calls Try.prog 109 #[.slice a n cap, .agg #[vi t, .bool f]] w fun e w' => e = .returned (.bool bb) ∧ Ext w w' := by
  have := containsJob_any a n cap l t f w h
  rw [hb.out] at this
  exact this

end Go.Proofs.Ytplomeacjbkgnaa
