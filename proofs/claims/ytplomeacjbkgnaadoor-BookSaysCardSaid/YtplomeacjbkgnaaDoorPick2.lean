/-
  The walk of desk.Pick. (Laid by wip/mk_pick.py.)
-/
import Derived.Test.YtplomeacjbkgnaaDoorPick
import Derived.Test.YtplomeacjbkgnaaDoorKept
namespace Go.Proofs.YtplomeacjbkgnaaDoor
open Go.RowKit

/-- would this place do? -/
def doP (l : List Ch.Stay) (js : List Ch.Job) (levels : List Ch.Size) (s : Ch.Size) (p : Ch.Place) : Bool :=
  Ch.fits s (levels.getD (p.level - 1).toNat default) && !hasB l p.level p.side p.depth && !hasB l p.level p.side 0 && !waitsB l js p.level p.side p.depth

theorem pick_doP (last : Int) (l : List Ch.Stay) (js : List Ch.Job) (levels : List Ch.Size) (c : Ch.Car) : Ch.pick ⟨last, l, js⟩ levels c = (Ch.places levels.length).find? (doP l js levels c.size) := by
  unfold Ch.pick
  congr 1
  funext p
  rw [hasB_home, hasB_home, waitsB_waits]
  rfl

/-- the answer as a value -/
def pickV (o : Option Ch.Place) : Value := .tuple #[placeA (o.getD ⟨0, 0, 0⟩), .bool o.isSome]

theorem find_no {α : Type} {P : α → Bool} {l : List α} {k : Nat} {x : α} (hx : l[k]? = some x) (h : P x = false) : (l.drop k).find? P = (l.drop (k + 1)).find? P := by
  have hk : k < l.length := by
    rcases Nat.lt_or_ge k l.length with h1 | h1
    · exact h1
    · rw [List.getElem?_eq_none h1] at hx; cases hx
  rw [List.drop_eq_getElem_cons hk, List.find?_cons]
  rw [List.getElem?_eq_getElem hk] at hx
  cases hx
  rw [h]

theorem find_yes {α : Type} {P : α → Bool} {l : List α} {k : Nat} {x : α} (hx : l[k]? = some x) (h : P x = true) : (l.drop k).find? P = some x := by
  have hk : k < l.length := by
    rcases Nat.lt_or_ge k l.length with h1 | h1
    · exact h1
    · rw [List.getElem?_eq_none h1] at hx; cases hx
  rw [List.drop_eq_getElem_cons hk, List.find?_cons]
  rw [List.getElem?_eq_getElem hk] at hx
  cases hx
  rw [h]

/-- three stores into a block of the call's own -/
theorem put3 {w a : World} {R : Nat} {x y z x' y' z' : Value} (hx : Ext w a) (hR : w.heap.size ≤ R) (c0 : a.cell? ⟨R, 0, none⟩ = some x') (c1 : a.cell? ⟨R, 1, none⟩ = some y') (c2 : a.cell? ⟨R, 2, none⟩ = some z') :
    (((a.setCell ⟨R, 0, none⟩ x).setCell ⟨R, 1, none⟩ y).setCell ⟨R, 2, none⟩ z).cell? ⟨R, 0, none⟩ = some x ∧ (((a.setCell ⟨R, 0, none⟩ x).setCell ⟨R, 1, none⟩ y).setCell ⟨R, 2, none⟩ z).cell? ⟨R, 1, none⟩ = some y ∧
    (((a.setCell ⟨R, 0, none⟩ x).setCell ⟨R, 1, none⟩ y).setCell ⟨R, 2, none⟩ z).cell? ⟨R, 2, none⟩ = some z ∧ Ext w (((a.setCell ⟨R, 0, none⟩ x).setCell ⟨R, 1, none⟩ y).setCell ⟨R, 2, none⟩ z) := by
  have n01 : (⟨R, 0, none⟩ : Addr) ≠ ⟨R, 1, none⟩ := by intro e; cases e
  have n02 : (⟨R, 0, none⟩ : Addr) ≠ ⟨R, 2, none⟩ := by intro e; cases e
  have n12 : (⟨R, 1, none⟩ : Addr) ≠ ⟨R, 2, none⟩ := by intro e; cases e
  refine ⟨?_, ?_, ?_, ?_⟩
  · rw [World.cell?_setCell_other (h := n02.symm), World.cell?_setCell_other (h := n01.symm), World.cell?_setCell_same (h := c0)]
  · rw [World.cell?_setCell_other (h := n12.symm), World.cell?_setCell_same (h := (show (a.setCell ⟨R, 0, none⟩ x).cell? ⟨R, 1, none⟩ = some y' by rw [World.cell?_setCell_other (h := n01)]; exact c1))]
  · rw [World.cell?_setCell_same (h := (show ((a.setCell ⟨R, 0, none⟩ x).setCell ⟨R, 1, none⟩ y).cell? ⟨R, 2, none⟩ = some z' by rw [World.cell?_setCell_other (h := n12), World.cell?_setCell_other (h := n02)]; exact c2))]
  · exact Ext.of_below (below_kept (S := fun i => w.heap.size ≤ i) (Ext.refl w).below (Nat.le_refl _) ((((Kept.of_ext hx).setCell (Or.inl hR) _).setCell (Or.inl hR) _).setCell (Or.inl hR) _) (fun _ h => h))

theorem new_below {B : Nat} {w a b : World} (h : Below B w a) (hb : B ≤ w.heap.size) (k : Kept (fun i => B ≤ i) a b) : Below B w b := below_kept h hb k (fun _ hi => hi)

end Go.Proofs.YtplomeacjbkgnaaDoor
