/-
  The walk of desk.Park.
-/
import Derived.Test.YtplomeacjbkgnaaDoorCopy
import Derived.Test.YtplomeacjbkgnaaDoorPick2
import Derived.Deep.AppendLies
namespace Go.Proofs.YtplomeacjbkgnaaDoor
open Go.RowKit

/-- a book's three cells, in a block that may be written -/
structure BookCell (w : World) (T : Nat) (x y z : Value) : Prop where
  c0 : w.cell? ⟨T, 0, none⟩ = some x
  c1 : w.cell? ⟨T, 1, none⟩ = some y
  c2 : w.cell? ⟨T, 2, none⟩ = some z
  fz : ∀ i, w.frozen? ⟨T, i, none⟩ = false

theorem BookCell.lt {w : World} {T : Nat} {x y z : Value} (h : BookCell w T x y z) : T < w.heap.size := cell_lt h.c0

theorem BookCell.same {w w' : World} {T : Nat} {x y z : Value} (h : BookCell w T x y z) (e : w'.heap[T]? = w.heap[T]?) : BookCell w' T x y z :=
  ⟨(World.cell?_of_block e).trans h.c0, (World.cell?_of_block e).trans h.c1, (World.cell?_of_block e).trans h.c2, fun i => (World.frozen?_of_block e).trans (h.fz i)⟩

theorem BookCell.ext {w w' : World} {T : Nat} {x y z : Value} (h : BookCell w T x y z) (e : Ext w w') : BookCell w' T x y z := by
  obtain ⟨o, n, rfl⟩ := e
  exact h.same (plus_heap w o n T h.lt)

theorem BookCell.grown {w w' : World} {row : Option Nat} {T : Nat} {x y z : Value} (h : BookCell w T x y z) (g : w.grownBy w' row) (hn : row ≠ some T) : BookCell w' T x y z :=
  h.same (g.block T h.lt (fun e => hn e.symm))

theorem BookCell.far {w : World} {T : Nat} {x y z : Value} (h : BookCell w T x y z) {a : Addr} (u : Value) (hn : a.block ≠ T) : BookCell (w.setCell a u) T x y z :=
  h.same (setCell_other (fun e => hn e.symm))

theorem BookCell.set0 {w : World} {T : Nat} {x y z : Value} (h : BookCell w T x y z) (u : Value) : BookCell (w.setCell ⟨T, 0, none⟩ u) T u y z :=
  ⟨World.cell?_setCell_same _ _ _ h.c0, by rw [World.cell?_setCell_other (h := by intro e; cases e)]; exact h.c1, by rw [World.cell?_setCell_other (h := by intro e; cases e)]; exact h.c2, fun i => by rw [World.frozen?_setCell]; exact h.fz i⟩

theorem BookCell.set1 {w : World} {T : Nat} {x y z : Value} (h : BookCell w T x y z) (u : Value) : BookCell (w.setCell ⟨T, 1, none⟩ u) T x u z :=
  ⟨by rw [World.cell?_setCell_other (h := by intro e; cases e)]; exact h.c0, World.cell?_setCell_same _ _ _ h.c1, by rw [World.cell?_setCell_other (h := by intro e; cases e)]; exact h.c2, fun i => by rw [World.frozen?_setCell]; exact h.fz i⟩

theorem BookCell.set2 {w : World} {T : Nat} {x y z : Value} (h : BookCell w T x y z) (u : Value) : BookCell (w.setCell ⟨T, 2, none⟩ u) T x y u :=
  ⟨by rw [World.cell?_setCell_other (h := by intro e; cases e)]; exact h.c0, by rw [World.cell?_setCell_other (h := by intro e; cases e)]; exact h.c1, World.cell?_setCell_same _ _ _ h.c2, fun i => by rw [World.frozen?_setCell]; exact h.fz i⟩

theorem BookCell.set {w : World} {T : Nat} {x y z : Value} (h : BookCell w T x y z) (x' y' z' : Value) : BookCell (((w.setCell ⟨T, 0, none⟩ x').setCell ⟨T, 1, none⟩ y').setCell ⟨T, 2, none⟩ z') T x' y' z' := ((h.set0 x').set1 y').set2 z'

theorem checkCar_at (V : Value) (x a b c : Int) (w : World) (hv : Hid (errV (Ch.carFault ⟨x, ⟨a, b, c⟩⟩) = V)) : Calls Tryd.prog 38 #[.agg #[vi x, vi a, vi b, vi c]] w fun e w' => e = .returned V ∧ Ext w w' := by
  have := checkCar_f x a b c w
  rw [hv.out] at this
  exact this

theorem of_at (fi last t : Int) (a1 : Option Addr) (m1 c1 : Nat) (a2 : Option Addr) (m2 c2 : Nat) (l : List Ch.Stay) (w : World) (h : Sl w 8 stayCells l a1 m1 c1) (hf : Hid (Ch.indexOf (fun s => s.car.id == t) l = fi)) :
    Calls Tryd.prog 19 #[bookA last a1 m1 c1 a2 m2 c2, vi t] w fun e w' => e = .returned (vi fi) ∧ Ext w w' := by
  have := of_any last t a1 m1 c1 a2 m2 c2 l w h
  rw [hf.out] at this
  exact this

theorem of_none {l : List Ch.Stay} {t : Int} {last : Int} {js : List Ch.Job} (h : ((⟨last, l, js⟩ : Ch.Book).of t).isSome = false) : Ch.indexOf (fun s : Ch.Stay => s.car.id == t) l = -1 := by
  apply index_none
  simpa [Ch.Book.of] using h

theorem of_some {l : List Ch.Stay} {t : Int} {last : Int} {js : List Ch.Job} (h : ((⟨last, l, js⟩ : Ch.Book).of t).isSome = true) : ∃ i : Nat, Ch.indexOf (fun s : Ch.Stay => s.car.id == t) l = i := by
  apply index_some
  simpa [Ch.Book.of] using h

/-- nothing was done: what came back -/
abbrev parkErrV (f : Int) : Value := .tuple #[bookA 0 none 0 0 none 0 0, vi 0, errV f]

/-- a book that is new, and what came back with it -/
def NewBook (w : World) (x : Ch.Book) (r : Value → Value) (e : Ending) (w' : World) : Prop := ∃ v1 v2, e = .returned (r (.agg #[vi x.last, v1, v2])) ∧ OwnBook w w' x.last x.stays x.jobs v1 v2 ∧ Ext w w'

theorem infoOfStay : (Tryd.prog.info? 52).map (fun i => (i.zero, i.size, i.bytes)) = some (some (.agg #[vi 0, vi 0, vi 0, vi 0, vi 0, vi 0, vi 0, vi 0]), 8, 64) := infoStay

end Go.Proofs.YtplomeacjbkgnaaDoor
