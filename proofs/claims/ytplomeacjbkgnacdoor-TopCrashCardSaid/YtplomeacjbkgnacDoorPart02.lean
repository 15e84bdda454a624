/-
  Walks of the program's functions, and what they need: Base, Held.
-/
import Derived.Test.YtplomeacjbkgnacDoorChecked
import Derived.Test.YtplomeacjbkgnacDoorPart01
import Derived.WalkKit
import Derived.ProofKit
import Derived.OpenShut
import Derived.Carry
import Derived.Handy
import Derived.Deep.QuietTactic
import Derived.BigQuiet
import Derived.Lib.Hide
import Derived.Outline
import Derived.WalkSmall
import Derived.OrdersHeld
import Derived.RegionTactic

namespace Go.Proofs.YtplomeacjbkgnacDoor
open Go.ChangeShapes Go.WideShapes Go.ChangeAt Go.RowKit

/-! ### cells of plain values -/

abbrev vi (n : Int) : Value := .int .i64 n

def sizeCells (s : Ch.Size) : List Value := [vi s.long, vi s.high, vi s.heavy]

def carCells (c : Ch.Car) : List Value := [vi c.id, vi c.size.long, vi c.size.high, vi c.size.heavy]

def placeCells (p : Ch.Place) : List Value := [vi p.level, vi p.side, vi p.depth]

def goalCells (g : Ch.Goal) : List Value := [vi g.kind, vi g.n]

def stayCells (s : Ch.Stay) : List Value := [vi s.ticket, vi s.car.id, vi s.car.size.long, vi s.car.size.high, vi s.car.size.heavy, vi s.home.level, vi s.home.side, vi s.home.depth]

def jobCells (j : Ch.Job) : List Value := [vi j.ticket, .bool j.fetch]

def intCells (n : Int) : List Value := [vi n]

def strCells (s : ByteArray) : List Value := [.string s]

/-- a number of Go's int -/
def I64 (n : Int) : Prop := -9223372036854775808 ≤ n ∧ n ≤ 9223372036854775807

/-! ### worlds -/

theorem cell_lt {w : World} {b o : Nat} {v : Value} (h : w.cell? ⟨b, o, none⟩ = some v) : b < w.heap.size := by
  by_cases hb : b < w.heap.size
  · exact hb
  · simp [World.cell?, Array.getElem?_eq_none (Nat.le_of_not_lt hb)] at h

theorem bcell {w w1 : World} {B : Nat} (hb : Below B w w1) : (∀ b o, b < B → w1.cell? ⟨b, o, none⟩ = w.cell? ⟨b, o, none⟩) ∧ (∀ b o, b < B → w1.frozen? ⟨b, o, none⟩ = w.frozen? ⟨b, o, none⟩) :=
  ⟨fun b o h => hb.cell (p := ⟨b, o, none⟩) h, fun b o h => hb.frozen (p := ⟨b, o, none⟩) h⟩

@[go_sem] theorem nlt1 {a b c : Nat} (h : a < b) : a < b + c := by omega

@[go_sem] theorem nlt2 {a b c d : Nat} (h : a < b) : a < b + c + d := by omega

@[go_sem] theorem nlt3 {a b c d e : Nat} (h : a < b) : a < b + c + d + e := by omega

@[go_sem] theorem nlt4 {a b c d e f : Nat} (h : a < b) : a < b + c + d + e + f := by omega

@[go_sem] theorem nlt_self1 {a c : Nat} (h : 0 < c) : a < a + c := by omega

@[go_sem] theorem nlt_one2 {a d : Nat} : a < a + 1 + d := by omega

@[go_sem] theorem nlt_one3 {a d e : Nat} : a < a + 1 + d + e := by omega

/-- the world with new blocks behind, and a count of draws -/
def _root_.Go.World.plus (w : World) (o : Array Obj) (n : Nat) : World := { w with heap := w.heap ++ o, drawn := n }
section
variable (w : World) (o : Array Obj) (n : Nat)

@[simp, go_sem] theorem plus_size : (w.plus o n).heap.size = w.heap.size + o.size := by simp [World.plus]

theorem plus_heap (k : Nat) (h : k < w.heap.size) : (w.plus o n).heap[k]? = w.heap[k]? := by
  simp only [World.plus]
  rw [Array.getElem?_append_left h]

@[simp, go_sem] theorem plus_cell (b i : Nat) (s : Option Nat) (h : b < w.heap.size) : (w.plus o n).cell? ⟨b, i, s⟩ = w.cell? ⟨b, i, s⟩ := by
  simp only [World.cell?, plus_heap w o n b h]

@[simp, go_sem] theorem plus_frozen (b i : Nat) (s : Option Nat) (h : b < w.heap.size) : (w.plus o n).frozen? ⟨b, i, s⟩ = w.frozen? ⟨b, i, s⟩ := by
  simp only [World.frozen?, plus_heap w o n b h]

@[simp, go_sem] theorem plus_plus (o' : Array Obj) (n' : Nat) : (w.plus o n).plus o' n' = w.plus (o ++ o') n' := by
  simp [World.plus]

@[simp, go_sem] theorem plus_drew : (w.plus o n).drew = w.plus o (n + 1) := rfl

@[simp, go_sem] theorem plus_drewN (m : Nat) : (w.plus o n).drewN m = w.plus o (n + m) := rfl

@[simp, go_sem] theorem plus_tape : (w.plus o n).tape = w.tape := rfl

theorem plus_alloc (b : Obj) : (w.plus o n).alloc b = w.plus (o.push b) n := by
  show ({ w.plus o n with heap := (w.heap ++ o).push b } : World) = _
  simp [World.plus]

theorem plus_refl : w.plus #[] w.drawn = w := by simp [World.plus]

theorem alloc_at (b : Obj) (k : Nat) (h : k = w.heap.size) : (w.alloc b).heap[k]? = some b := by subst h; exact heap_alloc_new w b

theorem alloc_plus (b : Obj) : w.alloc b = w.plus #[b] w.drawn := by
  show ({ w with heap := w.heap.push b } : World) = _
  simp [World.plus]
end

/-- w' is w with new blocks, and draws -/
def Ext (w w' : World) : Prop := ∃ o n, w' = w.plus o n

theorem Ext.out {w w' : World} (h : Ext w w') : ∃ o n, w' = w.plus o n := h

@[simp] theorem Ext.refl (w : World) : Ext w w := ⟨#[], w.drawn, (plus_refl w).symm⟩

@[simp] theorem Ext.plus {w w' : World} (h : Ext w w') (o : Array Obj) (n : Nat) : Ext w (w'.plus o n) := by
  obtain ⟨o1, n1, rfl⟩ := h; exact ⟨_, _, plus_plus ..⟩

@[simp] theorem Ext.alloc {w w' : World} (h : Ext w w') (b : Obj) : Ext w (w'.alloc b) := by
  rw [alloc_plus]; exact h.plus _ _

@[simp] theorem Ext.drew {w w' : World} (h : Ext w w') : Ext w w'.drew := by
  obtain ⟨o1, n1, rfl⟩ := h; exact ⟨_, _, plus_drew ..⟩

@[simp] theorem Ext.drewN {w w' : World} (h : Ext w w') (n : Nat) : Ext w (w'.drewN n) := by
  obtain ⟨o1, n1, rfl⟩ := h; exact ⟨_, _, plus_drewN ..⟩

theorem Ext.trans {a b c : World} (h : Ext a b) (h' : Ext b c) : Ext a c := by
  obtain ⟨o1, n1, rfl⟩ := h'; exact h.plus _ _

theorem Ext.below {w w' : World} (h : Ext w w') : Below w.heap.size w w' := by
  obtain ⟨o, n, rfl⟩ := h
  exact ⟨rfl, rfl, rfl, by simp, fun k hk => plus_heap w o n k hk⟩

theorem Ext.of_below {w w' : World} (h : Below w.heap.size w w') : Ext w w' := by
  refine ⟨w'.heap.extract w.heap.size w'.heap.size, w'.drawn, ?_⟩
  have hh : w'.heap = w.heap ++ w'.heap.extract w.heap.size w'.heap.size := by
    apply Array.ext_getElem?
    intro k
    by_cases hk : k < w.heap.size
    · rw [h.block k hk, Array.getElem?_append_left hk]
    · rw [Array.getElem?_append_right (by omega)]
      by_cases hk2 : k < w'.heap.size
      · simp only [Array.getElem?_extract]
        rw [if_pos (by omega)]
        congr 1; omega
      · rw [Array.getElem?_eq_none (by omega), Array.getElem?_eq_none (by simp; omega)]
  have e1 := h.os
  have e2 := h.tape
  have e3 := h.output
  cases w'
  simp only [World.plus] at *
  subst e1 e2 e3
  congr 1

@[simp] theorem Ext.setCell {w w' : World} (h : Ext w w') {a : Addr} (ha : w.heap.size ≤ a.block) (v : Value) : Ext w (w'.setCell a v) :=
  Ext.of_below (h.below.setCell ha v)

@[go_sem] theorem all_two {p : World → Prop} (f : Array Obj → Nat → World) : (∀ (w' : World) (x : Array Obj) (n : Nat), w' = f x n → p w') ↔ ∀ x n, p (f x n) :=
  ⟨fun h x n => h _ x n rfl, fun h _ x n e => e ▸ h x n⟩

/-- a region that draws its order, whose operations only read, and whose callees may make memory -/
theorem wp_region_ext {P : Program} {id : Nat} {Q : Exit → Act → World → Prop} {a : Act} {w : World} {l : List Oper} (hm : P.follows .mixedOrders = true) (hB : Region.lexB .any l.toArray = true)
    (h : wpQuiet P l.toArray (fun w' => ∃ o n, w' = w.plus o n) (fun a' => ∀ w', (∃ o n, w' = w.plus o n) → Q .normal a' w') l a) : (Code.region id l.toArray true).wp P Q a w :=
  wp_region_quiet (C := fun w' => ∃ o n, w' = w.plus o n) hm hB ⟨#[], w.drawn + 1, by simp [World.plus]⟩ (by simpa using h)

theorem ext_call {P : Program} {f : FuncId} {args : Array Value} {w : World} {o : Array Obj} {n : Nat} {v : Value}
    (h : Calls P f args (w.plus o n) fun e w' => e = .returned v ∧ Ext (w.plus o n) w') : Calls P f args (w.plus o n) fun e w'' => e = .returned v ∧ ∃ o n, w'' = w.plus o n :=
  h.mono fun _ _ ⟨he, _, _, hm⟩ => ⟨he, _, _, hm.trans (plus_plus ..)⟩

theorem ext_callF {P : Program} {g : FuncId} {args : Array Value} {w : World} {f : Array Obj → Array Obj} {x : Array Obj} {n : Nat} {v : Value} (hf : ∀ x y, f x ++ y = f (x ++ y))
    (h : Calls P g args (w.plus (f x) n) fun e w' => e = .returned v ∧ Ext (w.plus (f x) n) w') : Calls P g args (w.plus (f x) n) fun e w'' => e = .returned v ∧ ∃ o n, w'' = w.plus (f o) n :=
  h.mono fun _ _ ⟨he, o', n', hm⟩ => ⟨he, x ++ o', n', by rw [hm, plus_plus, hf]⟩


@[simp] theorem owns_plus {w : World} {base : Nat} {e : TypeId} {size : Nat} {v : Value} {n : Nat} {xs : List Value} (h : w.ownsRow base e size v n xs) (o : Array Obj) (m : Nat) : (w.plus o m).ownsRow base e size v n xs := by
  refine ⟨h.1, ?_⟩
  rcases h.2 with h2 | ⟨g, cap, cur, hv, hb, hg, hn, hc, hs, ht⟩
  · exact .inl h2
  · refine .inr ⟨g, cap, cur, hv, hb, ?_, hn, hc, hs, ht⟩
    have hlt : g < w.heap.size := by
      rcases Nat.lt_or_ge g w.heap.size with hlt | hge
      · exact hlt
      · rw [Array.getElem?_eq_none hge] at hg; cases hg
    rw [plus_heap w o m g hlt, hg]

@[simp] theorem owns_alloc {w : World} {base : Nat} {e : TypeId} {size : Nat} {v : Value} {n : Nat} {xs : List Value} (h : w.ownsRow base e size v n xs) (b : Obj) : (w.alloc b).ownsRow base e size v n xs := by
  rw [alloc_plus]; exact owns_plus h _ _

@[simp] theorem owns_drew {w : World} {base : Nat} {e : TypeId} {size : Nat} {v : Value} {n : Nat} {xs : List Value} (h : w.ownsRow base e size v n xs) : w.drew.ownsRow base e size v n xs := h

theorem owns_more {w : World} {base : Nat} {e : TypeId} {size : Nat} {v : Value} {n : Nat} {xs : List Value} {o : Array Obj} {m : Nat} (h : (w.plus o m).ownsRow base e size v n xs) (o' : Array Obj) (m' : Nat) : (w.plus (o ++ o') m').ownsRow base e size v n xs := by
  rw [← plus_plus w o m o' m']; exact owns_plus h _ _

theorem owns_pre {w : World} {base : Nat} {e : TypeId} {size : Nat} {v : Value} {n : Nat} {xs : List Value} {o o' : Array Obj} {m m' : Nat} (h : (w.plus o m).ownsRow base e size v n xs) (ee : ∃ r, o' = o ++ r) : (w.plus o' m').ownsRow base e size v n xs := by
  obtain ⟨r, rfl⟩ := ee; exact owns_more h _ _

theorem owns_new (w : World) (e c n : Nat) (cs : Array Value) (h : cs.size = n * c) (hn : n ≤ maxLen) : (w.alloc (.cells cs e)).ownsRow w.heap.size e c (.slice (some ⟨w.heap.size, 0, none⟩) n n) n cs.toList :=
  ⟨by simpa using h, .inr ⟨_, n, cs, rfl, Nat.le_refl _, (MapKept.heap_alloc w _).1, Nat.le_refl _, hn, h, by rw [List.take_of_length_le (by simp [h])]⟩⟩

theorem owns_base {w : World} {base base' : Nat} {e : TypeId} {size : Nat} {v : Value} {n : Nat} {xs : List Value} (h : w.ownsRow base e size v n xs) (hb : base' ≤ base) : w.ownsRow base' e size v n xs := by
  refine ⟨h.1, ?_⟩
  rcases h.2 with h2 | ⟨g, cap, cur, hv, hb', r⟩
  · exact .inl h2
  · exact .inr ⟨g, cap, cur, hv, by omega, r⟩

theorem owns_block {w : World} {base : Nat} {e : TypeId} {size : Nat} {v : Value} {n : Nat} {xs : List Value} (h : w.ownsRow base e size v n xs) : ∀ k, v.ownBlock = some k → base ≤ k := by
  intro k hk
  rcases h.2 with ⟨rfl, _⟩ | ⟨g, cap, cur, rfl, hb, _⟩
  · cases hk
  · cases hk; exact hb

/-- behind an append to a slice of the call's own -/
theorem ext_grown {w a w' : World} {row : Option Nat} (h : Ext w a) (hg : a.grownBy w' row) (hr : ∀ k, row = some k → w.heap.size ≤ k) : Ext w w' := by
  have hb := h.below
  exact Ext.of_below (hb.grown hg hb.size hr)

theorem ext_callG {P : Program} {g : FuncId} {args : Array Value} {W : World} {F : Array Obj → Nat → World} {v : Value}
    (h : Calls P g args W fun e w' => e = .returned v ∧ Ext W w') (hf : ∀ w', Ext W w' → ∃ o n, w' = F o n) : Calls P g args W fun e w'' => e = .returned v ∧ ∃ o n, w'' = F o n :=
  h.mono fun _ _ ⟨he, hm⟩ => ⟨he, hf _ hm⟩

/-! ### slices as lists -/

def Sl {α : Type} (w : World) (c : Nat) (enc : α → List Value) (l : List α) (a : Option Addr) (n cap : Nat) : Prop :=
  l.length = n ∧ n ≤ cap ∧ cap ≤ maxLen ∧ (0 < n → ∃ b o, a = some ⟨b, o, none⟩ ∧ ∀ i x, l[i]? = some x → ∀ j y, (enc x)[j]? = some y → w.cell? ⟨b, o + i * c + j, none⟩ = some y)

theorem Sl.nil {α : Type} (w : World) (c : Nat) (enc : α → List Value) : Sl w c enc [] none 0 0 := ⟨rfl, Nat.le_refl _, Nat.zero_le _, fun h => absurd h (by omega)⟩

theorem Sl.len {α : Type} {w : World} {c : Nat} {enc : α → List Value} {l : List α} {a : Option Addr} {n cap : Nat} (h : Sl w c enc l a n cap) : l.length = n := h.1

theorem Sl.bound {α : Type} {w : World} {c : Nat} {enc : α → List Value} {l : List α} {a : Option Addr} {n cap : Nat} (h : Sl w c enc l a n cap) : n ≤ cap ∧ cap ≤ 9223372036854775807 := ⟨h.2.1, h.2.2.1⟩

theorem Sl.keep {α : Type} {w w' : World} {c : Nat} {enc : α → List Value} {l : List α} {a : Option Addr} {n cap : Nat} (h : Sl w c enc l a n cap)
    (hk : ∀ p : Addr, (w.cell? p).isSome → w'.cell? p = w.cell? p) : Sl w' c enc l a n cap :=
  ⟨h.1, h.2.1, h.2.2.1, fun hn => let ⟨b, o, e, f⟩ := h.2.2.2 hn; ⟨b, o, e, fun i x hx j y hy => by have := f i x hx j y hy; rw [hk _ (by rw [this]; rfl)]; exact this⟩⟩

theorem Sl.below {α : Type} {w w' : World} {c : Nat} {enc : α → List Value} {l : List α} {a : Option Addr} {n cap : Nat} (h : Sl w c enc l a n cap) (hb : Below w.heap.size w w') : Sl w' c enc l a n cap :=
  h.keep fun p hp => by
    obtain ⟨b, o, s⟩ := p
    have hlt : b < w.heap.size := by
      by_cases hb : b < w.heap.size
      · exact hb
      · simp [World.cell?, Array.getElem?_eq_none (Nat.le_of_not_lt hb)] at hp
    exact hb.cell hlt

@[simp] theorem Sl.ext {α : Type} {w : World} {c : Nat} {enc : α → List Value} {l : List α} {a : Option Addr} {n cap : Nat} (h : Sl w c enc l a n cap) (o : Array Obj) (m : Nat) : Sl (w.plus o m) c enc l a n cap :=
  h.below (Ext.below ⟨o, m, rfl⟩)

@[simp] theorem Sl.alloc {α : Type} {w : World} {c : Nat} {enc : α → List Value} {l : List α} {a : Option Addr} {n cap : Nat} (h : Sl w c enc l a n cap) (b : Obj) : Sl (w.alloc b) c enc l a n cap :=
  h.below (Ext.below (by simp))

@[simp] theorem Sl.drew {α : Type} {w : World} {c : Nat} {enc : α → List Value} {l : List α} {a : Option Addr} {n cap : Nat} (h : Sl w c enc l a n cap) : Sl w.drew c enc l a n cap :=
  h.below (Ext.below (by simp))

theorem Sl.more {α : Type} {w : World} {c : Nat} {enc : α → List Value} {l : List α} {a : Option Addr} {n cap : Nat} {o : Array Obj} {m : Nat} (h : Sl (w.plus o m) c enc l a n cap) (o' : Array Obj) (m' : Nat) : Sl (w.plus (o ++ o') m') c enc l a n cap := by
  rw [← plus_plus w o m o' m']; exact Sl.ext h _ _

theorem Sl.pre {α : Type} {w : World} {c : Nat} {enc : α → List Value} {l : List α} {a : Option Addr} {n cap : Nat} {o o' : Array Obj} {m m' : Nat} (h : Sl (w.plus o m) c enc l a n cap) (e : ∃ r, o' = o ++ r) : Sl (w.plus o' m') c enc l a n cap := by
  obtain ⟨r, rfl⟩ := e; exact Sl.more h _ _

/-- the element at k, cell by cell -/
theorem Sl.get {α : Type} {w : World} {c : Nat} {enc : α → List Value} {l : List α} {a : Option Addr} {n cap : Nat} (h : Sl w c enc l a n cap) {k : Nat} (hk : k < n) :
    ∃ b o x, a = some ⟨b, o, none⟩ ∧ l[k]? = some x ∧ ∀ j y, (enc x)[j]? = some y → w.cell? ⟨b, o + k * c + j, none⟩ = some y := by
  obtain ⟨b, o, e, f⟩ := h.2.2.2 (by omega)
  have hl := h.1
  exact ⟨b, o, l[k]'(by omega), e, by simp, fun j y hy => f k _ (by simp) j y hy⟩

/-- behind Sl.get, of the slice's later elements -/
theorem Sl.get' {α : Type} {w : World} {c : Nat} {enc : α → List Value} {l : List α} {b o : Nat} {n cap : Nat} (h : Sl w c enc l (some ⟨b, o, none⟩) n cap) {k : Nat} (hk : k < n) :
    ∃ x, l[k]? = some x ∧ ∀ j y, (enc x)[j]? = some y → w.cell? ⟨b, o + k * c + j, none⟩ = some y := by
  obtain ⟨b', o', x, e, hx, f⟩ := h.get hk
  simp only [Option.some.injEq, Addr.mk.injEq, and_true] at e
  obtain ⟨rfl, rfl⟩ := e
  exact ⟨x, hx, f⟩

theorem at2 {w : World} {b p : Nat} {x0 x1 : Value} (h : ∀ j y, ([x0, x1] : List Value)[j]? = some y → w.cell? ⟨b, p + j, none⟩ = some y) :
    w.cell? ⟨b, p, none⟩ = some x0 ∧ w.cell? ⟨b, p + 1, none⟩ = some x1 := ⟨h 0 _ rfl, h 1 _ rfl⟩

theorem at1 {w : World} {b p : Nat} {x0 : Value} (h : ∀ j y, ([x0] : List Value)[j]? = some y → w.cell? ⟨b, p + j, none⟩ = some y) :
    w.cell? ⟨b, p, none⟩ = some x0 := h 0 _ rfl

theorem at3 {w : World} {b p : Nat} {x0 x1 x2 : Value} (h : ∀ j y, ([x0, x1, x2] : List Value)[j]? = some y → w.cell? ⟨b, p + j, none⟩ = some y) :
    w.cell? ⟨b, p, none⟩ = some x0 ∧ w.cell? ⟨b, p + 1, none⟩ = some x1 ∧ w.cell? ⟨b, p + 2, none⟩ = some x2 := ⟨h 0 _ rfl, h 1 _ rfl, h 2 _ rfl⟩

theorem at8 {w : World} {b p : Nat} {x0 x1 x2 x3 x4 x5 x6 x7 : Value} (h : ∀ j y, ([x0, x1, x2, x3, x4, x5, x6, x7] : List Value)[j]? = some y → w.cell? ⟨b, p + j, none⟩ = some y) :
    w.cell? ⟨b, p, none⟩ = some x0 ∧ w.cell? ⟨b, p + 1, none⟩ = some x1 ∧ w.cell? ⟨b, p + 2, none⟩ = some x2 ∧ w.cell? ⟨b, p + 3, none⟩ = some x3 ∧
    w.cell? ⟨b, p + 4, none⟩ = some x4 ∧ w.cell? ⟨b, p + 5, none⟩ = some x5 ∧ w.cell? ⟨b, p + 6, none⟩ = some x6 ∧ w.cell? ⟨b, p + 7, none⟩ = some x7 :=
  ⟨h 0 _ rfl, h 1 _ rfl, h 2 _ rfl, h 3 _ rfl, h 4 _ rfl, h 5 _ rfl, h 6 _ rfl, h 7 _ rfl⟩

/-- a slice of the call's own, as a list -/
theorem Sl.of_owns {α : Type} {w : World} {c : Nat} {enc : α → List Value} {l : List α} {base e n : Nat} {v : Value} (h : w.ownsRow base e c v n (l.flatMap enc)) (hc : 0 < c) (he : ∀ x, (enc x).length = c) :
    ∃ a cap, v = .slice a n cap ∧ Sl w c enc l a n cap := by
  have key : ∀ l : List α, (l.flatMap enc).length = l.length * c := by
    intro l
    induction l with
    | nil => simp
    | cons x l ih => simp [ih, he, Nat.add_mul]; omega
  have hlen : l.length = n := by
    have h1 := h.1
    rw [key] at h1
    exact Nat.eq_of_mul_eq_mul_right hc h1
  have pick : ∀ (l : List α) (i : Nat) (x : α), l[i]? = some x → ∀ j y, (enc x)[j]? = some y → (l.flatMap enc)[i * c + j]? = some y := by
    intro l
    induction l with
    | nil => intro i x hx; simp at hx
    | cons z l ih =>
      intro i x hx j y hy
      cases i with
      | zero =>
        simp at hx
        subst hx
        have hj : j < (enc z).length := by
          by_cases h : j < (enc z).length
          · exact h
          · rw [List.getElem?_eq_none (by omega)] at hy; cases hy
        simp only [List.flatMap_cons, Nat.zero_mul, Nat.zero_add]
        rw [List.getElem?_append_left hj]
        exact hy
      | succ i =>
        simp at hx
        simp only [List.flatMap_cons]
        rw [List.getElem?_append_right (by rw [he, Nat.add_mul]; omega), he]
        have := ih i x hx j y hy
        rw [show (i + 1) * c + j - c = i * c + j by rw [Nat.add_mul]; omega]
        exact this
  rcases h.2 with ⟨rfl, h0⟩ | ⟨g, cap, cur, rfl, _, hg, hn, hcap, _, _⟩
  · subst h0
    exact ⟨none, 0, rfl, hlen, Nat.le_refl _, Nat.zero_le _, fun h => absurd h (by omega)⟩
  · refine ⟨_, cap, rfl, hlen, hn, hcap, fun _ => ⟨g, 0, rfl, fun i x hx j y hy => ?_⟩⟩
    have hy' := pick l i x hx j y hy
    have hlt : i * c + j < n * c := by
      have := h.1
      by_cases hh : i * c + j < (l.flatMap enc).length
      · omega
      · rw [List.getElem?_eq_none (by omega)] at hy'; cases hy'
    rw [show 0 + i * c + j = i * c + j by omega]
    exact (World.ownsRow.cellAt h _ hlt).trans hy'

/-! ### structs compared -/

def eqShape (d : Nat) (xs ys : Array Value) : List (Bool × TypeId × Nat) → Sem Bool
  | [] => pure true
  | f :: fs =>
    if f.1 = true then do
      let a ← part f.2.1 xs f.2.2
      let b ← part f.2.1 ys f.2.2
      let r ← Op.equalIn d f.2.1 a b
      if (!r) = true then pure false else eqShape d xs ys fs
    else eqShape d xs ys fs

theorem eqFields_shape (d : Nat) (xs ys : Array Value) : ∀ fs : List Field, Op.eqFields d xs ys fs = eqShape d xs ys (fs.map fun f => (f.name != "_", f.type, f.offset))
  | [] => rfl
  | f :: fs => by
    simp only [Op.eqFields, eqShape, List.map_cons, eqFields_shape d xs ys fs]
    by_cases h : f.name = "_" <;> simp [h]

theorem eqShape_cons {P : Program} (w : World) {d : Nat} {xs ys : Array Value} {t : TypeId} {o : Nat} {fs : List (Bool × TypeId × Nat)} {a b : Value} {r s : Bool}
    (hx : (part t xs o).run P w = .ok a w) (hy : (part t ys o).run P w = .ok b w) (he : (Op.equalIn d t a b).run P w = .ok r w) (ih : (eqShape d xs ys fs).run P w = .ok s w) :
    (eqShape d xs ys ((true, t, o) :: fs)).run P w = .ok (r && s) w := by
  cases r <;> simp [eqShape, hx, hy, he, ih, Result.andThen]

theorem eqStruct {P : Program} (w : World) {d : Nat} {t : TypeId} {xs ys : Array Value} {r : Bool} (fs : List (Bool × TypeId × Nat)) (ht : P.underlying t = some (.struct (P.fieldsOf t))) (hp : P.stoodInHeld t = false)
    (hf : (P.fieldsOf t).toList.map (fun f => (f.name != "_", f.type, f.offset)) = fs) (h : (eqShape d xs ys fs).run P w = .ok r w) :
    (Op.equalIn (d + 1) t (.agg xs) (.agg ys)).run P w = .ok r w := by
  rw [run_equalIn_struct w d t xs ys ht hp, eqFields_shape, hf, h]

theorem eqShape_nil {P : Program} (w : World) {d : Nat} {xs ys : Array Value} : (eqShape d xs ys []).run P w = .ok true w := rfl

theorem neqStruct {P : Program} (w : World) {t : TypeId} {xs ys : Array Value} {r : Bool} (h : (Op.equalIn 10000 t (.agg xs) (.agg ys)).run P w = .ok r w) :
    (Go.binOp .neq t (.agg xs) (.agg ys)).run P w = .ok (.bool (!r)) w := by rw [run_neq_struct, h]; rfl

theorem eqlStruct {P : Program} (w : World) {t : TypeId} {xs ys : Array Value} {r : Bool} (h : (Op.equalIn 10000 t (.agg xs) (.agg ys)).run P w = .ok r w) :
    (Go.binOp .eql t (.agg xs) (.agg ys)).run P w = .ok (.bool r) w := by rw [run_eql_struct, h]; rfl

theorem eqShapeI {P : Program} {w : World} {d : Nat} {xs ys : Array Value} {t : TypeId} {o : Nat} {fs : List (Bool × TypeId × Nat)} {a b : Int} {s : Bool} {k' : IntKind} (h : P.underlying t = some (.int k'))
    (hx : (part t xs o).run P w = .ok (.int .i64 a) w) (hy : (part t ys o).run P w = .ok (.int .i64 b) w) (ih : (eqShape (d + 1) xs ys fs).run P w = .ok s w) :
    (eqShape (d + 1) xs ys ((true, t, o) :: fs)).run P w = .ok (a == b && s) w := eqShape_cons w hx hy (run_equalIn_int w d t .i64 k' a b h) ih

theorem eqShapeB {P : Program} {w : World} {d : Nat} {xs ys : Array Value} {t : TypeId} {o : Nat} {fs : List (Bool × TypeId × Nat)} {a b : Bool} {s : Bool} (h : P.underlying t = some .bool)
    (hx : (part t xs o).run P w = .ok (.bool a) w) (hy : (part t ys o).run P w = .ok (.bool b) w) (ih : (eqShape (d + 1) xs ys fs).run P w = .ok s w) :
    (eqShape (d + 1) xs ys ((true, t, o) :: fs)).run P w = .ok (a == b && s) w := eqShape_cons w hx hy (run_equalIn_bool' w d t a b h) ih

theorem eqShapeA {P : Program} {w : World} {d : Nat} {xs ys : Array Value} {t : TypeId} {o : Nat} {fs : List (Bool × TypeId × Nat)} {xa ya : Array Value} {r s : Bool}
    (hx : (part t xs o).run P w = .ok (.agg xa) w) (hy : (part t ys o).run P w = .ok (.agg ya) w) (he : (Op.equalIn d t (.agg xa) (.agg ya)).run P w = .ok r w) (ih : (eqShape d xs ys fs).run P w = .ok s w) :
    (eqShape d xs ys ((true, t, o) :: fs)).run P w = .ok (r && s) w := eqShape_cons w hx hy he ih

abbrev goalA (g : Ch.Goal) : Value := .agg #[vi g.kind, vi g.n]

abbrev sizeA (s : Ch.Size) : Value := .agg #[vi s.long, vi s.high, vi s.heavy]

abbrev carA (c : Ch.Car) : Value := .agg #[vi c.id, vi c.size.long, vi c.size.high, vi c.size.heavy]

abbrev placeA (p : Ch.Place) : Value := .agg #[vi p.level, vi p.side, vi p.depth]

abbrev stayA (s : Ch.Stay) : Value := .agg #[vi s.ticket, vi s.car.id, vi s.car.size.long, vi s.car.size.high, vi s.car.size.heavy, vi s.home.level, vi s.home.side, vi s.home.depth]

abbrev jobA (j : Ch.Job) : Value := .agg #[vi j.ticket, .bool j.fetch]


theorem eqSize (w : World) (d : Nat) (a b : Ch.Size) : (Op.equalIn (d + 2) 45 (sizeA a) (sizeA b)).run Tryd.prog w = .ok (decide (a = b)) w := by
  rw [eqStruct (r := a.long == b.long && (a.high == b.high && (a.heavy == b.heavy && true))) w [(true, 3, 0), (true, 3, 1), (true, 3, 2)] (by kernel_rfl) (by kernel_rfl) (by kernel_rfl) (eqShapeI Tryd.underlying3 (by kernel_rfl) (by kernel_rfl) (eqShapeI Tryd.underlying3 (by kernel_rfl) (by kernel_rfl) (eqShapeI Tryd.underlying3 (by kernel_rfl) (by kernel_rfl) (eqShape_nil w))))]
  obtain ⟨a0, a1, a2⟩ := a; obtain ⟨b0, b1, b2⟩ := b; congr 1; rw [Bool.eq_iff_iff]; simp

theorem eqPlace (w : World) (d : Nat) (a b : Ch.Place) : (Op.equalIn (d + 2) 58 (placeA a) (placeA b)).run Tryd.prog w = .ok (decide (a = b)) w := by
  rw [eqStruct (r := a.level == b.level && (a.side == b.side && (a.depth == b.depth && true))) w [(true, 3, 0), (true, 3, 1), (true, 3, 2)] (by kernel_rfl) (by kernel_rfl) (by kernel_rfl) (eqShapeI Tryd.underlying3 (by kernel_rfl) (by kernel_rfl) (eqShapeI Tryd.underlying3 (by kernel_rfl) (by kernel_rfl) (eqShapeI Tryd.underlying3 (by kernel_rfl) (by kernel_rfl) (eqShape_nil w))))]
  obtain ⟨a0, a1, a2⟩ := a; obtain ⟨b0, b1, b2⟩ := b; congr 1; rw [Bool.eq_iff_iff]; simp

theorem eqJob (w : World) (d : Nat) (a b : Ch.Job) : (Op.equalIn (d + 2) 62 (jobA a) (jobA b)).run Tryd.prog w = .ok (decide (a = b)) w := by
  rw [eqStruct (r := a.ticket == b.ticket && (a.fetch == b.fetch && true)) w [(true, 3, 0), (true, 4, 1)] (by kernel_rfl) (by kernel_rfl) (by kernel_rfl) (eqShapeI Tryd.underlying3 (by kernel_rfl) (by kernel_rfl) (eqShapeB Tryd.underlying4 (by kernel_rfl) (by kernel_rfl) (eqShape_nil w)))]
  obtain ⟨a0, a1⟩ := a; obtain ⟨b0, b1⟩ := b; congr 1; rw [Bool.eq_iff_iff]; simp

theorem eqCar (w : World) (d : Nat) (a b : Ch.Car) : (Op.equalIn (d + 3) 47 (carA a) (carA b)).run Tryd.prog w = .ok (decide (a = b)) w := by
  rw [eqStruct (r := a.id == b.id && (decide (a.size = b.size) && true)) w [(true, 3, 0), (true, 45, 1)] (by kernel_rfl) (by kernel_rfl) (by kernel_rfl) (eqShapeI Tryd.underlying3 (by kernel_rfl) (by kernel_rfl) (eqShapeA (xa := #[vi a.size.long, vi a.size.high, vi a.size.heavy]) (ya := #[vi b.size.long, vi b.size.high, vi b.size.heavy]) (by kernel_rfl) (by kernel_rfl) (eqSize w d a.size b.size) (eqShape_nil w)))]
  obtain ⟨a0, a1⟩ := a; obtain ⟨b0, b1⟩ := b; congr 1; rw [Bool.eq_iff_iff]; simp

theorem eqStay (w : World) (d : Nat) (a b : Ch.Stay) : (Op.equalIn (d + 4) 60 (stayA a) (stayA b)).run Tryd.prog w = .ok (decide (a = b)) w := by
  rw [eqStruct (r := a.ticket == b.ticket && (decide (a.car = b.car) && (decide (a.home = b.home) && true))) w [(true, 3, 0), (true, 47, 1), (true, 58, 5)] (by kernel_rfl) (by kernel_rfl) (by kernel_rfl) (eqShapeI Tryd.underlying3 (by kernel_rfl) (by kernel_rfl) (eqShapeA (xa := #[vi a.car.id, vi a.car.size.long, vi a.car.size.high, vi a.car.size.heavy]) (ya := #[vi b.car.id, vi b.car.size.long, vi b.car.size.high, vi b.car.size.heavy]) (by kernel_rfl) (by kernel_rfl) (eqCar w d a.car b.car) (eqShapeA (xa := #[vi a.home.level, vi a.home.side, vi a.home.depth]) (ya := #[vi b.home.level, vi b.home.side, vi b.home.depth]) (by kernel_rfl) (by kernel_rfl) (eqPlace w (d + 1) a.home b.home) (eqShape_nil w))))]
  obtain ⟨a0, a1, a2⟩ := a; obtain ⟨b0, b1, b2⟩ := b; congr 1; rw [Bool.eq_iff_iff]; simp

/-! ### from a walk to a given statement -/

theorem trodAll_below {H : Type} {enc : TypeId × Value → H} {P : Program} (hl : laidOutB P = true) {W W' : World} (hb : Below W.heap.size W W') :
    ∀ {ts : List TypeId} {vs : List Value} {ds : List (DataW H)} {ps : List MemPlace}, (∀ t ∈ ts, P.readableRec t = true ∧ t < P.types.size) →
    DataW.TrodAll enc P W 0 (fun _ => true) true ts vs ds ps → (∀ x ∈ ps, x.block < W.heap.size) →
    DataW.TrodAll enc P W' 0 (fun b => decide (b < W.heap.size)) true ts vs ds ps
  | [], vs, ds, ps, _, h, _ => by
    obtain ⟨rfl, rfl, rfl⟩ := trodAll_nil h
    exact trodAll_mk0
  | t :: ts, vs, ds, ps, hr, h, hlt => by
    obtain ⟨v, vs, d, ds, p, p', rfl, rfl, rfl, h0, r0⟩ := trodAll_cons h
    exact trodAll_cons_mk (Below.trod hl (hr t (by simp)).1 (hr t (by simp)).2 h0 hb (fun x hx => hlt x (by simp [hx])))
      (trodAll_below hl hb (fun t ht => hr t (by simp [ht])) r0 (fun x hx => hlt x (by simp [hx])))

/-- A LAW's STEP, FOR WHATEVER LAW: the walk leaves the old memory as it was, and answers true. -/
theorem law_contract {H : Type} {enc : TypeId × Value → H} {P : Program} {f : FuncId} {fn : Func} {s : ChangeSpec} {tb : TypeId} (hl : laidOutB P = true) (hb : P.underlying tb = some .bool)
    (hres : fn.resultTypes = #[tb]) (hvars : s.vars = [])
    (hfn : ∀ ds : List (DataW H), ds.length = fn.params.size → s.fn H (ds ++ []) = { results := [.lit (.bool true)], args := ds })
    (hread : (fn.params.toList.all fun t => P.readableRec t && decide (t < P.types.size)) = true)
    {W : World} {args : Array Value} {ds gs : List (DataW H)} {before : List MemPlace}
    (hW : DataW.Whole enc P fn.params.toList s.vars false W args.toList ds gs before)
    (walk : Calls P f args W fun e W' => e = .returned (.bool true) ∧ Ext W W') :
    Calls P f args W fun e W' => ∃ v, e = .returned v ∧ s.post enc P fn false true false false W args v W' := by
  refine walk.mono fun e W' ⟨he, hx⟩ => ?_
  subst he
  have hg := hx.below
  have hW' := hW
  obtain ⟨p, q, hA, hV, rfl, hfz, hnd⟩ := hW
  rw [hvars] at hV
  obtain ⟨rfl, rfl⟩ := trodVars_none hV
  have hlen : ds.length = fn.params.size := by
    have := hA
    clear hW' hfz hnd walk hV hg hx
    have key : ∀ (ts : List TypeId) (vs : List Value) (ds : List (DataW H)) (ps : List MemPlace), DataW.TrodAll enc P W 0 (fun _ => true) true ts vs ds ps → ds.length = ts.length := by
      intro ts
      induction ts with
      | nil => intro vs ds ps h; obtain ⟨rfl, rfl, rfl⟩ := trodAll_nil h; rfl
      | cons t ts ih => intro vs ds ps h; obtain ⟨v, vs, d, ds, p, p', rfl, rfl, rfl, h0, r0⟩ := trodAll_cons h; simp [ih _ _ _ r0]
    simpa using key _ _ _ _ this
  simp only [List.append_nil] at hW'
  refine ⟨_, rfl, ds, [], p, [], p, [], hW', ?_, ?_, ?_, hg.frame _, fun h => by cases h⟩
  · rw [hfn ds hlen, hres]
    exact trodAll_cons_mk (shut_bool hb _) trodAll_mk0
  · rw [hfn ds hlen]
    exact trodAll_below hl hg (fun t ht => by simpa using List.all_eq_true.1 hread t ht) hA (fun x hx => by simpa using hW'.lt x hx)
  · rw [hvars, hfn ds hlen]; rfl

theorem own : ownKnob Tryd.prog.godebug = none := by kernel_rfl

theorem laidOut : laidOutB Tryd.prog = true := by kernel_rfl
end Go.Proofs.YtplomeacjbkgnacDoor

namespace Go.Proofs.YtplomeacjbkgnacDoor
open Go.RowKit
section
variable {P : Program} {ops : Array Oper} {Q : Exit → Act → World → Prop} {md : Region.Mode} {S : World → Prop} {t : Nat}

/-- whatever order is picked; S holds behind every operation but the t-th -/
def wpAnyT (P : Program) (md : Region.Mode) (ops : Array Oper) (Q : Exit → Act → World → Prop) (S : World → Prop) (t : Nat) : Nat → Array Bool → Act → World → Prop
  | 0, listed, a, w => Region.ready md ops listed = [] ∧ Q .normal a w
  | fuel + 1, listed, a, w =>
    (Region.ready md ops listed = [] → Q .normal a w) ∧
    ∀ i ∈ Region.ready md ops listed, wpOp P ops Q i (fun a' w' => (i ≠ t → S w') ∧ wpAnyT P md ops Q S t fuel (listed.setIfInBounds i true) a' w') a w

theorem wpAny_of_T : ∀ (fuel : Nat) (listed : Array Bool) (a : Act) (w : World), wpAnyT P md ops Q S t fuel listed a w → wpAny P md ops Q fuel listed a w
  | 0, _, _, _, h => h
  | fuel + 1, _, _, _, h => ⟨h.1, fun i hi => wpOp_mono (fun a' w' h' => wpAny_of_T fuel _ a' w' h'.2) (h.2 i hi)⟩

/-- does the t-th wait for the i-th by itself? -/
def awaitsB (md : Region.Mode) (ops : Array Oper) (t i : Nat) : Bool := ((ops[t]?).map fun o => o.after.any fun e => Region.binds md e && e.on == i).getD false

theorem waits_spec {i : Nat} (h : awaitsB md ops t i = true) {listed : Array Bool} (hl : t ∈ Region.ready md ops listed) : listed.getD i false = true := by
  obtain ⟨_, ot, hot, hall⟩ := mem_ready.1 hl
  unfold awaitsB at h
  rw [hot] at h
  simp only [Option.map_some, Option.getD_some] at h
  obtain ⟨e, he, hb⟩ := Array.any_eq_true'.1 h
  simp only [Bool.and_eq_true, beq_iff_eq] at hb
  have := hall e he hb.1
  rw [hb.2] at this
  exact this

theorem getD_clash {listed : Array Bool} {i : Nat} (h1 : listed.getD i false = true) (h0 : listed.getD i true = false) : False := by
  rcases Nat.lt_or_ge i listed.size with h' | h'
  · simp [h'] at h0 h1; rw [h0] at h1; cases h1
  · simp [Array.getElem?_eq_none h'] at h1

theorem wpAnyT_first {i : Nat} {oi : Oper} {v : Value} (hi : ops[i]? = some oi) (hw : awaitsB md ops t i = true) (hsel : ∀ (j : Nat) (o : Oper) cs b, ops[j]? = some o → o.op ≠ .select cs b)
    (hQ : ∀ c a w, Q (.panic c) (a.put oi.dst v) w → Q (.panic c) a w) :
    ∀ (fuel : Nat) (listed : Array Bool) (a : Act) (w : World),
      (∀ j oj, ops[j]? = some oj → j ≠ i → listed.getD j true = false → (∀ e ∈ oj.after, Region.binds md e = true → e.on ≠ i) → oi.apart ops oj = true) →
      i ∈ Region.ready md ops listed → YieldsIf P ops S oi v a → S w →
      wpAnyT P md ops Q S t fuel (listed.setIfInBounds i true) (a.put oi.dst v) w → wpAnyT P md ops Q S t (fuel + 1) listed a w := by
  intro fuel
  induction fuel with
  | zero =>
    intro listed a w _ hr hy hS H
    refine ⟨fun h => (by rw [h] at hr; cases hr), fun j hj => ?_⟩
    by_cases hji : j = i
    · subst hji; exact hy.wpOp hi hS ⟨fun _ => hS, H⟩
    · have := ready_mono hj hji
      rw [H.1] at this
      cases this
  | succ fuel ih =>
    intro listed a w hfree hr hy hS H
    refine ⟨fun h => (by rw [h] at hr; cases hr), fun j hj => ?_⟩
    by_cases hji : j = i
    · subst hji; exact hy.wpOp hi hS ⟨fun _ => hS, H⟩
    · have h1 := H.2 j (ready_mono hj hji)
      obtain ⟨hjun, oj, hoj, hall⟩ := mem_ready.1 hj
      have hjt : j ≠ t := by
        rintro rfl
        exact getD_clash (waits_spec hw hj) (mem_ready.1 hr).1
      have hnot : ∀ e ∈ oj.after, Region.binds md e = true → e.on ≠ i := fun e he hb heq => by
        have h1 := hall e he hb
        rw [heq] at h1
        exact getD_clash h1 (mem_ready.1 hr).1
      have h2 := wpOp_putIf hoj (hfree j oj hoj hji hjun hnot) (fun cs b => hsel i oi cs b hi) (fun cs b => hsel j oj cs b hoj) hQ hy h1
      have hfree' : ∀ k ok, ops[k]? = some ok → k ≠ i → (listed.setIfInBounds j true).getD k true = false →
          (∀ e ∈ ok.after, Region.binds md e = true → e.on ≠ i) → oi.apart ops ok = true := fun k ok hk hki hun hno => by
        refine hfree k ok hk hki ?_ hno
        by_cases hjk : j = k
        · subst hjk; exact hjun
        · rw [getD_set_ne true hjk] at hun; exact hun
      refine wpOp_mono (fun a' w' h3 => ⟨fun _ => h3.2.1 hjt, ih (listed.setIfInBounds j true) a' w' hfree' (ready_mono hr (Ne.symm hji)) h3.1 (h3.2.1 hjt) ?_⟩) h2
      rw [Array.setIfInBounds_comm _ _ hji]
      exact h3.2.2

theorem wpAnyT_take {i : Nat} {oi : Oper} {v : Value} {fuel : Nat} {listed : Array Bool} {a : Act} {w : World} (hi : ops[i]? = some oi) (hw : awaitsB md ops t i = true)
    (hs : Region.noSelect ops = true) (hf : Region.free md ops listed i = true) (hr : (Region.ready md ops listed).contains i = true)
    (hQ : ∀ c a w, Q (.panic c) (a.put oi.dst v) w → Q (.panic c) a w) (hy : YieldsIf P ops S oi v a) (hS : S w)
    (h : wpAnyT P md ops Q S t fuel (listed.setIfInBounds i true) (a.put oi.dst v) w) : wpAnyT P md ops Q S t (fuel + 1) listed a w :=
  wpAnyT_first hi hw (Region.noSelect_spec hs) hQ fuel listed a w (Region.free_spec hi hf) (by simpa using hr) hy hS h

/-- the same, the temporary told -/
theorem wpAnyT_take' {i : Nat} {oi : Oper} {v : Value} {fuel : Nat} {listed : Array Bool} {a : Act} {w : World} (d : Option Nat) (hi : ops[i]? = some oi) (hd : (ops[i]?).map (·.dst) = some d) (hw : awaitsB md ops t i = true)
    (hs : Region.noSelect ops = true) (hf : Region.free md ops listed i = true) (hr : (Region.ready md ops listed).contains i = true)
    (hQ : ∀ c a w, Q (.panic c) (a.put d v) w → Q (.panic c) a w) (hy : YieldsIf P ops S oi v a) (hS : S w)
    (h : wpAnyT P md ops Q S t fuel (listed.setIfInBounds i true) (a.put d v) w) : wpAnyT P md ops Q S t (fuel + 1) listed a w := by
  rw [hi] at hd
  obtain rfl : oi.dst = d := Option.some.inj hd
  exact wpAnyT_take hi hw hs hf hr hQ hy hS h

/-- one alone may come up -/
theorem wpAnyT_one {i : Nat} {o : Oper} {fuel : Nat} {listed : Array Bool} {a : Act} {w : World} (hr : Region.ready md ops listed = [i]) (ho : ops[i]? = some o)
    (h : ∀ K' : Act → World → Prop, (∀ a w, ((i ≠ t → S w) ∧ wpAnyT P md ops Q S t fuel (listed.setIfInBounds i true) a w) → K' a w) → if Region.wanted o (yielded ops a.tmps) = true then Oper.wp P o a w K' Q else K' (a.put o.dst undef) w) :
    wpAnyT P md ops Q S t (fuel + 1) listed a w :=
  ⟨(fun h0 => by rw [hr] at h0; cases h0), fun j hj => by
    rw [hr] at hj
    obtain rfl : j = i := by simpa using hj
    exact wpOp_step ho h⟩

theorem wpAnyT_done {listed : Array Bool} {a : Act} {w : World} (hr : Region.ready md ops listed = []) (h : Q .normal a w) : ∀ fuel, wpAnyT P md ops Q S t fuel listed a w
  | 0 => ⟨hr, h⟩
  | _ + 1 => ⟨fun _ => h, by rw [hr]; simp⟩

theorem wp_region_T {id : Nat} {a : Act} {w : World} (t : Nat) (S : World → Prop) (hm : P.follows .mixedOrders = true) (hS : S w.drew)
    (h : S w.drew → wpAnyT P .any ops Q S t ops.size (Array.replicate ops.size false) a w.drew) : (Code.region id ops true).wp P Q a w :=
  wp_region_any hm (wpAny_of_T _ _ _ _ (h hS))
end
end Go.Proofs.YtplomeacjbkgnacDoor
