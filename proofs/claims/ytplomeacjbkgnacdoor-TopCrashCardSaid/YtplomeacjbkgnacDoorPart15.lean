/-
  Walks of the program's functions, and what they need: Done, Outing, LightBook.
-/
import Derived.Test.YtplomeacjbkgnacDoorPart14
import Derived.Deep.RegionLaw
import Derived.Test.YtplomeacjbkgnacDoorPart12

namespace Go.Proofs.YtplomeacjbkgnacDoor
open Go.RowKit

/-- is a job over, when this one is? -/
def jobOver (jt : Int) (jf ov : Bool) (x : Ch.Job) : Bool := decide (x = ⟨jt, jf⟩) || (ov && x.ticket == jt)

theorem jobOver_kept (j : Ch.Job) (gone : Bool) : (fun x => !jobOver j.ticket j.fetch (j.fetch || gone) x) = fun x => !(x == j || ((j.fetch || gone) && x.ticket == j.ticket)) := by
  funext x
  unfold jobOver
  congr 2

theorem owns_kept {S : Nat → Prop} {w w' : World} {base e size : Nat} {v : Value} {n : Nat} {xs : List Value} (h : w.ownsRow base e size v n xs) (k : Kept S w w') (hn : ∀ b, v.ownBlock = some b → ¬ S b) : w'.ownsRow base e size v n xs := by
  refine ⟨h.1, ?_⟩
  rcases h.2 with h2 | ⟨g, cap, cur, rfl, hb, hg, hnc, hc, hs, ht⟩
  · exact .inl h2
  · refine .inr ⟨g, cap, cur, rfl, hb, ?_, hnc, hc, hs, ht⟩
    have hlt : g < w.heap.size := by
      rcases Nat.lt_or_ge g w.heap.size with h1 | h1
      · exact h1
      · rw [Array.getElem?_eq_none h1] at hg; cases hg
    rw [k.block g hlt (hn g rfl)]; exact hg

theorem BookCell.kept {S : Nat → Prop} {w w' : World} {T : Nat} {x y z : Value} (h : BookCell w T x y z) (k : Kept S w w') (hn : ¬ S T) : BookCell w' T x y z := h.same (k.block T h.lt hn)

end Go.Proofs.YtplomeacjbkgnacDoor

namespace Go.Proofs.YtplomeacjbkgnacDoor
open Go.RowKit

/-- a book that is being written, in a block O of the call's own -/
structure Outing (w1 : World) (O : Nat) (last : Int) (dl : List Ch.Stay) (dj : List Ch.Job) (v1 v2 : Value) (wr : World) : Prop where
  cell : BookCell wr O (vi last) v1 v2
  kept : Kept (Is O) w1 wr
  stays : wr.ownsRow w1.heap.size 60 8 v1 dl.length (dl.flatMap stayCells)
  jobs : wr.ownsRow w1.heap.size 62 2 v2 dj.length (dj.flatMap jobCells)
  apart : ∀ k, v1.ownBlock = some k → v2.ownBlock ≠ some k

theorem Outing.ext {w1 wr wr' : World} {O : Nat} {last : Int} {dl : List Ch.Stay} {dj : List Ch.Job} {v1 v2 : Value} (h : Outing w1 O last dl dj v1 v2 wr) (x : Ext wr wr') : Outing w1 O last dl dj v1 v2 wr' :=
  ⟨h.cell.ext x, h.kept.ext x, owns_x h.stays x, owns_x h.jobs x, h.apart⟩

theorem Outing.far1 {w1 wr : World} {O : Nat} {last : Int} {dl : List Ch.Stay} {dj : List Ch.Job} {v1 v2 : Value} (h : Outing w1 O last dl dj v1 v2 wr) (hO : O < w1.heap.size) : v1.ownBlock ≠ some O := by
  intro e; have := owns_block h.stays _ e; omega

theorem Outing.far2 {w1 wr : World} {O : Nat} {last : Int} {dl : List Ch.Stay} {dj : List Ch.Job} {v1 v2 : Value} (h : Outing w1 O last dl dj v1 v2 wr) (hO : O < w1.heap.size) : v2.ownBlock ≠ some O := by
  intro e; have := owns_block h.jobs _ e; omega

theorem Outing.addStay {w1 wp A w5 : World} {O : Nat} {last : Int} {dl : List Ch.Stay} {dj : List Ch.Job} {v1 v2 : Value} (h : Outing w1 O last dl dj v1 v2 wp) (s : Ch.Stay) (x : Ext wp A) (hO : O < w1.heap.size) {gg cap n : Nat}
    (hown : w5.ownsRow w1.heap.size 60 8 (.slice (some ⟨gg, 0, none⟩) n cap) n (dl.flatMap stayCells ++ stayCells s)) (hgrow : A.grownBy w5 v1.ownBlock) (hat : v1.ownBlock = some gg ∨ gg = A.heap.size) (hn : n = dl.length + 1 := by rfl) :
    Outing w1 O last (dl ++ [s]) dj (.slice (some ⟨gg, 0, none⟩) n cap) v2 (w5.setCell ⟨O, 1, none⟩ (.slice (some ⟨gg, 0, none⟩) n cap)) := by
  subst hn
  have hb : ∀ k, v1.ownBlock = some k → w1.heap.size ≤ k := owns_block h.stays
  have hb2 : ∀ k, v2.ownBlock = some k → w1.heap.size ≤ k := owns_block h.jobs
  have hg : w1.heap.size ≤ gg := owns_block hown gg rfl
  have hc := (h.cell.ext x).grown hgrow (h.far1 hO)
  refine ⟨hc.set1 _, ((h.kept.ext x).grown hgrow hb).put 1 _, ?_, ?_, ?_⟩
  · rw [List.length_append, List.flatMap_append, List.flatMap_singleton]
    exact owns_set hown _ (by intro e; have := Option.some.inj e; dsimp only at this; omega)
  · refine owns_set ((owns_x h.jobs x).kept hgrow ?_) _ (h.far2 hO)
    cases hv : v2.ownBlock with
    | none => exact Or.inl rfl
    | some k => exact Or.inr (fun e => h.apart k e.symm hv)
  · intro k hk hk2
    obtain rfl : gg = k := Option.some.inj hk
    rcases hat with e | e
    · exact h.apart gg e hk2
    · have := (own_lt (owns_x h.jobs x) hk2).2
      omega

theorem Outing.addJob {w1 wp A w5 : World} {O : Nat} {last : Int} {dl : List Ch.Stay} {dj : List Ch.Job} {v1 v2 : Value} (h : Outing w1 O last dl dj v1 v2 wp) (s : Ch.Job) (x : Ext wp A) (hO : O < w1.heap.size) {gg cap n : Nat}
    (hown : w5.ownsRow w1.heap.size 62 2 (.slice (some ⟨gg, 0, none⟩) n cap) n (dj.flatMap jobCells ++ jobCells s)) (hgrow : A.grownBy w5 v2.ownBlock) (hat : v2.ownBlock = some gg ∨ gg = A.heap.size) (hn : n = dj.length + 1 := by rfl) :
    Outing w1 O last dl (dj ++ [s]) v1 (.slice (some ⟨gg, 0, none⟩) n cap) (w5.setCell ⟨O, 2, none⟩ (.slice (some ⟨gg, 0, none⟩) n cap)) := by
  subst hn
  have hb : ∀ k, v2.ownBlock = some k → w1.heap.size ≤ k := owns_block h.jobs
  have hg : w1.heap.size ≤ gg := owns_block hown gg rfl
  have hc := (h.cell.ext x).grown hgrow (h.far2 hO)
  refine ⟨hc.set2 _, ((h.kept.ext x).grown hgrow hb).put 2 _, ?_, ?_, ?_⟩
  · refine owns_set ((owns_x h.stays x).kept hgrow ?_) _ (h.far1 hO)
    cases hv : v1.ownBlock with
    | none => exact Or.inl rfl
    | some k => exact Or.inr (fun e => h.apart k hv e.symm)
  · rw [List.length_append, List.flatMap_append, List.flatMap_singleton]
    exact owns_set hown _ (by intro e; have := Option.some.inj e; dsimp only at this; omega)
  · intro k hk hk2
    obtain rfl : gg = k := Option.some.inj hk2
    rcases hat with e | e
    · exact h.apart gg hk e
    · have := (own_lt (owns_x h.stays x) hk).2
      omega

end Go.Proofs.YtplomeacjbkgnacDoor

namespace Go.Proofs.YtplomeacjbkgnacDoor
open Go.RowKit

set_option maxRecDepth 100000 in
set_option maxHeartbeats 1000000 in
theorem lightBook_any (bb : Bool) (last : Int) (a1 : Option Addr) (m1 c1 : Nat) (a2 : Option Addr) (m2 c2 : Nat) (w : World) (hb : Hid (decide (m1 ≤ 20 ∧ m2 ≤ 12) = bb)) :
    Calls Tryd.prog 6 #[bookA last a1 m1 c1 a2 m2 c2] w fun e w' => e = .returned (.bool bb) ∧ Ext w w' := by
  by_cases h1 : m1 ≤ 20
  · have i1 : (m1 : Int) ≤ 20 := by omega
    by_cases h2 : m2 ≤ 12
    · have i2 : (m2 : Int) ≤ 12 := by omega
      have HR : Hid (bb = true) := by unfold Hid; rw [← hb.out]; exact decide_eq_true ⟨h1, h2⟩
      clear h1 h2 hb
      go_enter Tryd.func6, Tryd.ntmps6
      go_wp2
      go_ret
      exact ⟨by rw [HR.out]; rfl, (by simp (maxDischargeDepth := 60))⟩
    · have i2 : decide ((m2 : Int) ≤ 12) = false := decide_eq_false (by omega)
      have i3 : ¬ ((m2 : Int) ≤ 12) := by omega
      have HR : Hid (bb = false) := by unfold Hid; rw [← hb.out]; exact decide_eq_false (fun h => h2 h.2)
      clear h1 h2 hb
      go_enter Tryd.func6, Tryd.ntmps6
      go_wp2
      go_ret
      exact ⟨by rw [HR.out, ← i2]; rfl, (by simp (maxDischargeDepth := 60))⟩
  · have i1 : (20 : Int) < (m1 : Int) := by omega
    have HR : Hid (bb = false) := by unfold Hid; rw [← hb.out]; exact decide_eq_false (fun h => h1 h.1)
    clear h1 hb
    go_enter Tryd.func6, Tryd.ntmps6
    go_wp2
    go_ret
    exact ⟨by rw [HR.out]; rfl, (by simp (maxDischargeDepth := 60))⟩

theorem bookcheck_at (V : Value) (last levels : Int) (a1 : Option Addr) (m1 c1 : Nat) (a2 : Option Addr) (m2 c2 : Nat) (l : List Ch.Stay) (js : List Ch.Job) (w : World) (h : Sl w 8 stayCells l a1 m1 c1) (h2 : Sl w 2 jobCells js a2 m2 c2) (hl4 : levels ≤ 4) (hv : Hid (errV (Ch.bookFault ⟨last, l, js⟩ levels) = V)) :
    Calls Tryd.prog 7 #[bookA last a1 m1 c1 a2 m2 c2, vi levels] w fun e w' => e = .returned V ∧ Ext w w' := by
  have := bookcheck_any last levels a1 m1 c1 a2 m2 c2 l js w h h2 hl4
  rw [hv.out] at this
  exact this

theorem levels_len {l : List Ch.Size} (h : Ch.levelsFault l = 0) : 1 ≤ l.length ∧ l.length ≤ 4 := by
  unfold Ch.levelsFault at h
  split at h
  · cases h
  · omega

theorem errV_ne {n : Int} (h : ¬ n = 0) : ∃ E, Hid (errV n = .iface 63 (vi E)) := ⟨n, by unfold Hid errV; rw [if_neg h]⟩

theorem put3_far {a : World} {R b o : Nat} {x y z v : Value} (h : b ≠ R) (c : a.cell? ⟨b, o, none⟩ = some v) : (((a.setCell ⟨R, 0, none⟩ x).setCell ⟨R, 1, none⟩ y).setCell ⟨R, 2, none⟩ z).cell? ⟨b, o, none⟩ = some v := by
  have n : ∀ i, (⟨R, i, none⟩ : Addr) ≠ ⟨b, o, none⟩ := by intro i e; cases e; exact h rfl
  rw [World.cell?_setCell_other (h := n 2), World.cell?_setCell_other (h := n 1), World.cell?_setCell_other (h := n 0)]
  exact c

end Go.Proofs.YtplomeacjbkgnacDoor
