/-
  What the reference's Picked reckons of a place, and desk.Pick's own test: the same. (Plain.)
-/
import Derived.Test.YtplomeacjbkgnaaPick2
namespace Go.Proofs.Ytplomeacjbkgnaa
open Go.RowKit

/-- is this stay's home the place, or in front of it? -/
def pcond (a b c : Int) (s : Ch.Stay) : Bool := s.home.level == a && (s.home.side == b && (s.home.depth == c || s.home.depth == 0))

/-- is this job to fill the place behind? -/
def wjob (a b : Int) (s : Ch.Stay) (j : Ch.Job) : Bool := !j.fetch && (j.ticket == s.ticket && (s.home.level == a && (s.home.side == b && s.home.depth == 1)))

def rfreeJ (js : List Ch.Job) (a b : Int) (s : Ch.Stay) (f : Bool) (n : Nat) : Bool := f && !(js.take n).any (wjob a b s)

def rfreeTo (js : List Ch.Job) (a b c : Int) (f : Bool) (l : List Ch.Stay) (k : Nat) : Bool := f && !(l.take k).any (fun s => pcond a b c s || js.any (wjob a b s))

theorem any_take {α : Type} {l : List α} {k : Nat} {x : α} (p : α → Bool) (h : l[k]? = some x) : (l.take (k + 1)).any p = ((l.take k).any p || p x) := by
  rw [List.take_add_one, h, List.any_append]
  simp

theorem rfreeJ_step {js : List Ch.Job} {a b : Int} {s : Ch.Stay} {f : Bool} {n : Nat} {j : Ch.Job} (h : js[n]? = some j) : rfreeJ js a b s f (n + 1) = (rfreeJ js a b s f n && !wjob a b s j) := by
  unfold rfreeJ
  rw [any_take _ h, Bool.not_or, Bool.and_assoc]

theorem rfreeTo_step {js : List Ch.Job} {a b c : Int} {f : Bool} {l : List Ch.Stay} {k : Nat} {s : Ch.Stay} (h : l[k]? = some s) : rfreeTo js a b c f l (k + 1) = rfreeJ js a b s (rfreeTo js a b c f l k && !pcond a b c s) js.length := by
  unfold rfreeTo rfreeJ
  rw [any_take _ h, List.take_length]
  simp only [Bool.not_or, Bool.and_assoc]

theorem blk_eq {a b c : Int} {js : List Ch.Job} {s : Ch.Stay} (hd : s.home.depth = 0 ∨ s.home.depth = 1) (hc : c = 0 ∨ c = 1) :
    (pcond a b c s || js.any (wjob a b s)) = (decide (s.home = ⟨a, b, c⟩) || decide (s.home = ⟨a, b, 0⟩) || waitB js a b c s) := by
  obtain ⟨t, cr, ⟨h0, h1, h2⟩⟩ := s
  dsimp only at hd
  have hw : ∀ x : Bool, (js.any (fun j : Ch.Job => !j.fetch && (j.ticket == t && x))) = (x && decide ((⟨t, false⟩ : Ch.Job) ∈ js)) := by
    intro x
    cases x
    · simp
    · rw [Bool.eq_iff_iff]
      simp only [List.any_eq_true, Bool.and_eq_true, Bool.not_eq_true', beq_iff_eq, decide_eq_true_eq, true_and, and_true]
      constructor
      · rintro ⟨⟨jt, jf⟩, hm, h1, h2⟩
        dsimp only at h1 h2
        subst h1 h2
        exact hm
      · intro hm
        exact ⟨_, hm, rfl, rfl⟩
  unfold pcond waitB
  have e : js.any (wjob a b ⟨t, cr, ⟨h0, h1, h2⟩⟩) = ((h0 == a && (h1 == b && h2 == 1)) && decide ((⟨t, false⟩ : Ch.Job) ∈ js)) := hw _
  rw [e]
  have hf : Ch.front ⟨h0, h1, h2⟩ = ⟨h0, h1, 0⟩ := rfl
  dsimp only
  rw [hf]
  by_cases e0 : h0 = a
  · by_cases e1 : h1 = b
    · subst e0 e1
      rcases hd with rfl | rfl <;> rcases hc with rfl | rfl <;> simp
    · simp [e1]
  · simp [e0]

theorem rfree_do {js : List Ch.Job} {l : List Ch.Stay} {ls : List Ch.Size} {z : Ch.Size} {a b c : Int} {f : Bool} (hd : ∀ s ∈ l, s.home.depth = 0 ∨ s.home.depth = 1) (hc : c = 0 ∨ c = 1) (hf : f = Ch.fits z (ls.getD (a - 1).toNat default)) :
    rfreeTo js a b c f l l.length = doP l js ls z ⟨a, b, c⟩ := by
  unfold rfreeTo doP
  rw [List.take_length, hf]
  have e : l.any (fun s => pcond a b c s || js.any (wjob a b s)) = (hasB l a b c || hasB l a b 0 || waitsB l js a b c) := by
    unfold hasB waitsB
    induction l with
    | nil => rfl
    | cons s l ih =>
      simp only [List.any_cons]
      rw [ih (fun x hx => hd x (by simp [hx])), blk_eq (hd s (by simp)) hc]
      cases decide (s.home = (⟨a, b, c⟩ : Ch.Place)) <;> cases decide (s.home = (⟨a, b, 0⟩ : Ch.Place)) <;> cases waitB js a b c s <;> simp
  rw [e]
  simp only [Bool.not_or, Bool.and_assoc]
end Go.Proofs.Ytplomeacjbkgnaa
