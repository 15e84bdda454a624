/-
  The walks of the library's DeleteFunc at jobs and at stays: what is left of a list of one's own.
-/
import Derived.Test.YtplomeacjbkgnaaDoorCopy
import Derived.Test.YtplomeacjbkgnaaDoorInPlace
import Derived.Lib.SliceRun
namespace Go.Proofs.YtplomeacjbkgnaaDoor
open Go.RowKit

/-- a function value that answers a predicate of jobs, in whatever world that is as this one but for some blocks -/
structure JobPredIn (w : World) (S : Nat → Prop) (K : Nat) (caps : Array Value) (pred : Ch.Job → Bool) : Prop where
  enters : ∀ args w, (callFunc K args).run Tryd.prog w = .ok (.enter K args) w
  answers : ∀ (s : Ch.Job) (W : World), Kept S w W → Calls Tryd.prog K (#[jobA s] ++ caps) W fun e w' => e = .returned (.bool (pred s)) ∧ Ext W w'

structure StayPredIn (w : World) (S : Nat → Prop) (K : Nat) (caps : Array Value) (pred : Ch.Stay → Bool) : Prop where
  enters : ∀ args w, (callFunc K args).run Tryd.prog w = .ok (.enter K args) w
  answers : ∀ (s : Ch.Stay) (W : World), Kept S w W → Calls Tryd.prog K (#[stayA s] ++ caps) W fun e w' => e = .returned (.bool (pred s)) ∧ Ext W w'

theorem StayPredIn.stay {w : World} {S : Nat → Prop} {K : Nat} {caps : Array Value} {pred : Ch.Stay → Bool} (h : StayPredIn w S K caps pred) : StayPred w K caps pred :=
  ⟨h.enters, fun s W x => h.answers s W (Kept.of_ext x)⟩

theorem index_split {α : Type} (p : α → Bool) (l : List α) : (Ch.indexOf p l = -1 ∧ l.filter (fun x => !p x) = l) ∨ ∃ (k : Nat) (x : α), Ch.indexOf p l = (k : Int) ∧ l[k]? = some x ∧ p x = true ∧ ∀ j s, j < k → l[j]? = some s → p s = false := by
  unfold Ch.indexOf
  cases h : l.findIdx? p with
  | none =>
    rw [List.findIdx?_eq_none_iff] at h
    exact Or.inl ⟨rfl, List.filter_eq_self.2 (fun x hx => by simp [h x hx])⟩
  | some k =>
    rw [List.findIdx?_eq_some_iff_getElem] at h
    obtain ⟨hk, hp, hb⟩ := h
    refine Or.inr ⟨k, l[k], rfl, by simp [hk], hp, fun j s hj hs => ?_⟩
    have hjl : j < l.length := by omega
    rw [List.getElem?_eq_getElem hjl] at hs
    cases hs
    have := hb j hj
    simpa using this

/-- what is left -/
def Left (w : World) (B e c : Nat) (v : Value) {α : Type} (enc : α → List Value) (l : List α) (en : Ending) (w' : World) : Prop :=
  ∃ v', en = .returned v' ∧ w'.ownsRow B e c v' l.length (l.flatMap enc) ∧ (∀ k, v'.ownBlock = some k → v.ownBlock = some k) ∧ Kept (fun k => v.ownBlock = some k) w w'

theorem index_at {P : Program} {F : FuncId} {args : Array Value} {w : World} {x y : Int} (h : Calls P F args w fun e w' => e = .returned (vi x) ∧ Ext w w') (e : Hid (x = y)) : Calls P F args w fun e w' => e = .returned (vi y) ∧ Ext w w' := by
  rw [← e.out]; exact h

end Go.Proofs.YtplomeacjbkgnaaDoor
