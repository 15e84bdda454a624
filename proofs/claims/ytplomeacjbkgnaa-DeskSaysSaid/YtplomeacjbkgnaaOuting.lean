/-
  A book that is being written: its block, its two lists of the call's own.
-/
import Derived.Test.YtplomeacjbkgnaaDone
import Derived.Deep.RegionLaw
namespace Go.Proofs.Ytplomeacjbkgnaa
open Go.RowKit

/-- a book that is being written, in a block O of the call's own -/
structure Outing (w1 : World) (O : Nat) (last : Int) (dl : List Ch.Stay) (dj : List Ch.Job) (v1 v2 : Value) (wr : World) : Prop where
  cell : BookCell wr O (vi last) v1 v2
  kept : Kept (Is O) w1 wr
  stays : wr.ownsRow w1.heap.size 149 8 v1 dl.length (dl.flatMap stayCells)
  jobs : wr.ownsRow w1.heap.size 94 2 v2 dj.length (dj.flatMap jobCells)
  apart : ∀ k, v1.ownBlock = some k → v2.ownBlock ≠ some k

theorem Outing.ext {w1 wr wr' : World} {O : Nat} {last : Int} {dl : List Ch.Stay} {dj : List Ch.Job} {v1 v2 : Value} (h : Outing w1 O last dl dj v1 v2 wr) (x : Ext wr wr') : Outing w1 O last dl dj v1 v2 wr' :=
  ⟨h.cell.ext x, h.kept.ext x, owns_x h.stays x, owns_x h.jobs x, h.apart⟩

theorem Outing.far1 {w1 wr : World} {O : Nat} {last : Int} {dl : List Ch.Stay} {dj : List Ch.Job} {v1 v2 : Value} (h : Outing w1 O last dl dj v1 v2 wr) (hO : O < w1.heap.size) : v1.ownBlock ≠ some O := by
  intro e; have := owns_block h.stays _ e; omega

theorem Outing.far2 {w1 wr : World} {O : Nat} {last : Int} {dl : List Ch.Stay} {dj : List Ch.Job} {v1 v2 : Value} (h : Outing w1 O last dl dj v1 v2 wr) (hO : O < w1.heap.size) : v2.ownBlock ≠ some O := by
  intro e; have := owns_block h.jobs _ e; omega

theorem Outing.addStay {w1 wp A w5 : World} {O : Nat} {last : Int} {dl : List Ch.Stay} {dj : List Ch.Job} {v1 v2 : Value} (h : Outing w1 O last dl dj v1 v2 wp) (s : Ch.Stay) (x : Ext wp A) (hO : O < w1.heap.size) {gg cap n : Nat}
    (hown : w5.ownsRow w1.heap.size 149 8 (.slice (some ⟨gg, 0, none⟩) n cap) n (dl.flatMap stayCells ++ stayCells s)) (hgrow : A.grownBy w5 v1.ownBlock) (hat : v1.ownBlock = some gg ∨ gg = A.heap.size) (hn : n = dl.length + 1 := by rfl) :
    Outing w1 O last (dl ++ [s]) dj (.slice (some ⟨gg, 0, none⟩) n cap) v2 (w5.setCell ⟨O, 1, none⟩ (.slice (some ⟨gg, 0, none⟩) n cap)) := by
  subst hn
  have hb : ∀ k, v1.ownBlock = some k → w1.heap.size ≤ k := owns_block h.stays
  have hb2 : ∀ k, v2.ownBlock = some k → w1.heap.size ≤ k := owns_block h.jobs
  have hg : w1.heap.size ≤ gg := owns_block hown gg rfl
  have hc := (h.cell.ext x).grown hgrow (h.far1 hO)
  refine ⟨hc.set1 _, ((h.kept.ext x).grown hgrow hb).put 1 _, ?_, ?_, ?_⟩
  · rw [List.length_append, List.flatMap_append, List.flatMap_singleton]
    exact owns_set hown _ (by intro e; have := Option.some.inj e; dsimp only at this; omega)
  · refine owns_set ((owns_x h.jobs x).kept hgrow ?_) _ (h.far2 hO)
    cases hv : v2.ownBlock with
    | none => exact Or.inl rfl
    | some k => exact Or.inr (fun e => h.apart k e.symm hv)
  · intro k hk hk2
    obtain rfl : gg = k := Option.some.inj hk
    rcases hat with e | e
    · exact h.apart gg e hk2
    · have := (own_lt (owns_x h.jobs x) hk2).2
      omega

theorem Outing.addJob {w1 wp A w5 : World} {O : Nat} {last : Int} {dl : List Ch.Stay} {dj : List Ch.Job} {v1 v2 : Value} (h : Outing w1 O last dl dj v1 v2 wp) (s : Ch.Job) (x : Ext wp A) (hO : O < w1.heap.size) {gg cap n : Nat}
    (hown : w5.ownsRow w1.heap.size 94 2 (.slice (some ⟨gg, 0, none⟩) n cap) n (dj.flatMap jobCells ++ jobCells s)) (hgrow : A.grownBy w5 v2.ownBlock) (hat : v2.ownBlock = some gg ∨ gg = A.heap.size) (hn : n = dj.length + 1 := by rfl) :
    Outing w1 O last dl (dj ++ [s]) v1 (.slice (some ⟨gg, 0, none⟩) n cap) (w5.setCell ⟨O, 2, none⟩ (.slice (some ⟨gg, 0, none⟩) n cap)) := by
  subst hn
  have hb : ∀ k, v2.ownBlock = some k → w1.heap.size ≤ k := owns_block h.jobs
  have hg : w1.heap.size ≤ gg := owns_block hown gg rfl
  have hc := (h.cell.ext x).grown hgrow (h.far2 hO)
  refine ⟨hc.set2 _, ((h.kept.ext x).grown hgrow hb).put 2 _, ?_, ?_, ?_⟩
  · refine owns_set ((owns_x h.stays x).kept hgrow ?_) _ (h.far1 hO)
    cases hv : v1.ownBlock with
    | none => exact Or.inl rfl
    | some k => exact Or.inr (fun e => h.apart k hv e.symm)
  · rw [List.length_append, List.flatMap_append, List.flatMap_singleton]
    exact owns_set hown _ (by intro e; have := Option.some.inj e; dsimp only at this; omega)
  · intro k hk hk2
    obtain rfl : gg = k := Option.some.inj hk2
    rcases hat with e | e
    · exact h.apart gg hk e
    · have := (own_lt (owns_x h.stays x) hk).2
      omega

end Go.Proofs.Ytplomeacjbkgnaa
