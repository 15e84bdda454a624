/-
  A MAP FROM PLACES TO NUMBERS IN MEMORY: what look-ups, stores and deletes make of it, held against a function on places.
-/
import Derived.Test.YtplomeacjbkgnaaBase
import Derived.Test.YtplomeacjbkgnaaPlantLaw
import Derived.MapKept
import Derived.ChangeMaps5
namespace Go.Proofs.Ytplomeacjbkgnaa
open Go.RowKit Go.MapKept
open Go.ChangeMaps (setBlock heap_setBlock_same heap_setBlock_other)

abbrev Slot := Ch.Place × Int × Nat

/-- an entry of the map -/
def ent (e : Slot) : MapEntry := { key := placeA e.1, val := vi e.2.1, born := e.2.2 }

def findIn (x : Ch.Place) : List Slot → Nat → Option (Nat × Value)
  | [], _ => none
  | e :: l, i => if x = e.1 then some (i, vi e.2.1) else findIn x l (i + 1)

theorem placeType : Try.prog.underlying 23 = some (.struct (Try.prog.fieldsOf 23)) := by kernel_rfl

theorem mapType : Try.prog.underlying 163 = some (.map 23 3) := by kernel_rfl

theorem checkKey_place (e : Bool) (x : Ch.Place) (w : World) : (Instr.checkKey e 10000 23 (placeA x)).run Try.prog w = .ok () w := by kernel_rfl

theorem equal_place (w : World) (a b : Ch.Place) : (Op.equal 23 (placeA a) (placeA b)).run Try.prog w = .ok (decide (a = b)) w := eqPlace w 9998 a b

theorem run_findAsking_place (w : World) (x : Ch.Place) : ∀ (l : List Slot) (i : Nat), (Instr.findAsking 23 (placeA x) (l.map ent) i).run Try.prog w = .ok (findIn x l i) w
  | [], _ => rfl
  | e :: l, i => by
    simp only [List.map_cons, Instr.findAsking, Sem.run_bind, findIn]
    rw [show (ent e).key = placeA e.1 from rfl, equal_place]
    simp only [Result.andThen]
    by_cases h : x = e.1
    · rw [if_pos h, decide_eq_true h]; rfl
    · rw [if_neg h, decide_eq_false h]; exact run_findAsking_place w x l (i + 1)

theorem run_findKey_place (w : World) (x : Ch.Place) (l : List Slot) : (Instr.findKey 23 (placeA x) (l.map ent)).run Try.prog w = .ok (findIn x l 0) w := by
  unfold Instr.findKey
  simp only [Sem.run_bind, run_underlying placeType, Result.andThen]
  cases l with
  | nil => rfl
  | cons e l =>
    have : Instr.findNow (.struct (Try.prog.fieldsOf 23)) (placeA x) ((e :: l).map ent) 0 = none := rfl
    rw [this]
    exact run_findAsking_place w x (e :: l) 0

/-- what is there -/
def getIn (x : Ch.Place) : List Slot → Int
  | [] => 0
  | e :: l => if x = e.1 then e.2.1 else getIn x l

theorem findIn_get (x : Ch.Place) : ∀ (l : List Slot) (i : Nat), (findIn x l i = none ∧ getIn x l = 0 ∧ ∀ e ∈ l, e.1 ≠ x) ∨ ∃ j e, l[j]? = some e ∧ e.1 = x ∧ findIn x l i = some (i + j, vi e.2.1) ∧ getIn x l = e.2.1
  | [], i => Or.inl ⟨rfl, rfl, by simp⟩
  | e :: l, i => by
    by_cases h : x = e.1
    · right
      exact ⟨0, e, rfl, h.symm, by simp [findIn, h], by simp [getIn, h]⟩
    · rcases findIn_get x l (i + 1) with ⟨h1, h2, h3⟩ | ⟨j, e', h1, h2, h3, h4⟩
      · left
        refine ⟨by simp [findIn, h, h1], by simp [getIn, h, h2], ?_⟩
        intro e' he
        rcases List.mem_cons.1 he with rfl | he
        · exact fun c => h c.symm
        · exact h3 e' he
      · right
        refine ⟨j + 1, e', by simpa using h1, h2, ?_, by simp [getIn, h, h4]⟩
        simp only [findIn, if_neg h, h3]
        congr 2; omega

/-- a map's block, and the function that it is -/
structure Slots (w : World) (mb : Nat) (l : List Slot) (clock : Nat) (f : Ch.Place → Int) : Prop where
  heap : w.heap[mb]? = some (.map (l.map ent).toArray clock)
  once : (l.map fun e => e.1).Nodup
  full : ∀ e ∈ l, e.2.1 ≠ 0
  is : ∀ x, getIn x l = f x
  born : (l.map fun e => e.2.2).Nodup
  clock : ∀ e ∈ l, e.2.2 < clock

theorem run_lookup_place {w : World} {mb : Nat} {l : List Slot} {clock : Nat} (h : w.heap[mb]? = some (.map (l.map ent).toArray clock)) (x : Ch.Place) :
    (Instr.lookup 163 (.map (some mb)) (placeA x) false).run Try.prog w = .ok (vi (getIn x l)) w := by
  have hz : (zeroValue 3).run Try.prog w = .ok (vi 0) w := by kernel_rfl
  rcases findIn_get x l 0 with ⟨h1, h2, _⟩ | ⟨j, e, _, _, h3, h4⟩
  · simp [Instr.lookup, run_underlying mapType, MapKept.run_getObj_map h, checkKey_place, run_findKey_place, h1, h2, hz, Result.andThen]
  · simp [Instr.lookup, run_underlying mapType, MapKept.run_getObj_map h, checkKey_place, run_findKey_place, h3, h4, Result.andThen]

theorem Slots.look {w : World} {mb : Nat} {l : List Slot} {clock : Nat} {f : Ch.Place → Int} (h : Slots w mb l clock f) (x : Ch.Place) :
    (Instr.lookup 163 (.map (some mb)) (placeA x) false).run Try.prog w = .ok (vi (f x)) w := by
  rw [run_lookup_place h.heap, h.is]

theorem Slots.same {w w' : World} {mb : Nat} {l : List Slot} {clock : Nat} {f : Ch.Place → Int} (h : Slots w mb l clock f) (e : w'.heap[mb]? = w.heap[mb]?) : Slots w' mb l clock f :=
  ⟨e.trans h.heap, h.once, h.full, h.is, h.born, h.clock⟩

theorem Slots.lt {w : World} {mb : Nat} {l : List Slot} {clock : Nat} {f : Ch.Place → Int} (h : Slots w mb l clock f) : mb < w.heap.size := by
  by_cases hb : mb < w.heap.size
  · exact hb
  · have := h.heap
    rw [Array.getElem?_eq_none (Nat.le_of_not_lt hb)] at this
    cases this

theorem map_erase (j : Nat) : ∀ (l : List Slot), (l.eraseIdx j).map ent = (l.map ent).eraseIdx j := by
  induction j with
  | zero => intro l; cases l <;> rfl
  | succ j ih => intro l; cases l with
    | nil => rfl
    | cons e l => simp [ih]

theorem getIn_erase (x : Ch.Place) : ∀ (l : List Slot) (j : Nat) (e : Slot), (l.map fun e => e.1).Nodup → l[j]? = some e → getIn x (l.eraseIdx j) = if x = e.1 then 0 else getIn x l
  | [], j, e, _, h => by simp at h
  | y :: l, 0, e, hn, h => by
    simp at h; subst h
    simp only [List.eraseIdx_cons_zero, getIn]
    by_cases hx : x = y.1
    · rw [if_pos hx]
      have hn' := (List.nodup_cons.1 hn).1
      rcases findIn_get x l 0 with ⟨_, h2, _⟩ | ⟨k, e', h1, h2, _, _⟩
      · exact h2
      · exfalso
        apply hn'
        show y.1 ∈ _
        rw [← hx, ← h2]
        exact List.mem_map.2 ⟨e', List.mem_of_getElem? h1, rfl⟩
    · rw [if_neg hx, if_neg hx]
  | y :: l, j + 1, e, hn, h => by
    have hn' := List.nodup_cons.1 hn
    simp at h
    simp only [List.eraseIdx_cons_succ, getIn]
    rw [getIn_erase x l j e hn'.2 h]
    by_cases hx : x = y.1
    · rw [if_pos hx]
      by_cases he : x = e.1
      · exfalso
        apply hn'.1
        show y.1 ∈ _
        rw [← hx, he]
        exact List.mem_map.2 ⟨e, List.mem_of_getElem? h, rfl⟩
      · rw [if_neg he, if_pos hx]
    · rw [if_neg hx]
      by_cases he : x = e.1
      · rw [if_pos he, if_pos he]
      · rw [if_neg he, if_neg he, if_neg hx]

/-- delete -/
theorem Slots.drop {w : World} {mb : Nat} {l : List Slot} {clock : Nat} {f : Ch.Place → Int} (h : Slots w mb l clock f) (x : Ch.Place) :
    ∃ l', (∀ ty, (Builtin.delete_ #[163, 23] ty #[.map (some mb), placeA x]).run Try.prog w = .ok (.tuple #[]) (setBlock w mb (.map (l'.map ent).toArray clock))) ∧
      Slots (setBlock w mb (.map (l'.map ent).toArray clock)) mb l' clock (Ch.setSlot f x 0) := by
  rcases findIn_get x l 0 with ⟨h1, h2, h3⟩ | ⟨j, e, h1, h2, h3, h4⟩
  · refine ⟨l, ?_, heap_setBlock_same h.heap _, h.once, h.full, ?_, h.born, h.clock⟩
    · intro ty; simp [Builtin.delete_, run_underlying mapType, MapKept.run_getObj_map h.heap, checkKey_place, run_findKey_place, h1, run_setObj_map _ h.heap, Result.andThen, setBlock]
    · intro y
      rw [h.is]
      simp only [Ch.setSlot]
      split
      · rename_i hy; subst hy; rw [← h.is]; exact h2
      · rfl
  · have hj : j < l.length := by
      by_cases hj : j < l.length
      · exact hj
      · rw [List.getElem?_eq_none (by omega)] at h1; cases h1
    have hsub : List.Sublist (l.eraseIdx j) l := List.eraseIdx_sublist l j
    refine ⟨l.eraseIdx j, ?_, heap_setBlock_same h.heap _, h.once.sublist (hsub.map _), fun e he => h.full e (hsub.subset he), ?_, h.born.sublist (hsub.map _), fun e he => h.clock e (hsub.subset he)⟩
    · intro ty; simp [Builtin.delete_, run_underlying mapType, MapKept.run_getObj_map h.heap, checkKey_place, run_findKey_place, h3, run_setObj_map _ h.heap, Result.andThen, setBlock, Array.eraseIdxIfInBounds, hj, map_erase]
    · intro y
      rw [getIn_erase y l j e h.once h1, h.is]
      simp only [Ch.setSlot, h2]

theorem getIn_snoc (x y : Ch.Place) (v : Int) (k : Nat) : ∀ l : List Slot, (∀ e ∈ l, e.1 ≠ y) → getIn x (l ++ [(y, v, k)]) = if x = y then v else getIn x l
  | [], _ => by simp [getIn]
  | e :: l, h => by
    have := getIn_snoc x y v k l (fun e' he => h e' (by simp [he]))
    have he := h e (by simp)
    simp only [List.cons_append, getIn, this]
    by_cases hx : x = e.1
    · rw [if_pos hx, if_neg (by rw [hx]; exact he), if_pos hx]
    · rw [if_neg hx, if_neg hx]

theorem run_mapEntry_place {w : World} {mb : Nat} {l : List Slot} {clock : Nat} (h : w.heap[mb]? = some (.map (l.map ent).toArray clock)) (x : Ch.Place) (hx : ∀ e ∈ l, e.1 ≠ x) :
    (Instr.mapEntry 163 (.map (some mb)) (placeA x)).run Try.prog w = .ok (.tuple #[vi 0, vi clock]) (setBlock w mb (.map ((l ++ [(x, 0, clock)]).map ent).toArray (clock + 1))) := by
  have hz : (zeroValue 3).run Try.prog w = .ok (vi 0) w := by kernel_rfl
  rcases findIn_get x l 0 with ⟨h1, _, _⟩ | ⟨j, e, h1, h2, _, _⟩
  · simp [Instr.mapEntry, run_underlying mapType, MapKept.run_getObj_map h, checkKey_place, run_findKey_place, h1, hz, run_setObj_map _ h, Result.andThen, setBlock, ent, goInt]
  · exact absurd h2 (hx e (List.mem_of_getElem? h1))

theorem findIdx_born (clock : Nat) (x : Ch.Place) (u : Int) : ∀ l : List Slot, (∀ e ∈ l, e.2.2 < clock) → ((l ++ [(x, u, clock)]).map ent).findIdx? (fun e => (e.born : Int) == (clock : Int)) = some l.length
  | [], _ => by simp [ent]
  | e :: l, h => by
    have := findIdx_born clock x u l (fun e' he => h e' (by simp [he]))
    have he := h e (by simp)
    rw [List.cons_append, List.map_cons, List.findIdx?_cons, this]
    have : ((ent e).born : Int) ≠ (clock : Int) := by simp [ent]; omega
    simp [this]

theorem modify_last (x : MapEntry) (g : MapEntry → MapEntry) (f : Slot → MapEntry) : ∀ l : List Slot, (l.map f ++ [x]).modify l.length g = l.map f ++ [g x]
  | [] => rfl
  | e :: l => by simp [modify_last x g f l]

theorem run_entryStore_place {w : World} {mb : Nat} {l : List Slot} {clock : Nat} {x : Ch.Place} {u v : Int} (h : w.heap[mb]? = some (.map ((l ++ [(x, u, clock)]).map ent).toArray (clock + 1))) (hc : ∀ e ∈ l, e.2.2 < clock) :
    (Instr.entryStore 163 (.map (some mb)) (vi clock) (vi v)).run Try.prog w = .ok () (setBlock w mb (.map ((l ++ [(x, v, clock)]).map ent).toArray (clock + 1))) := by
  have hi := findIdx_born clock x u l hc
  have ha : (asInt (vi clock)).run Try.prog w = .ok (clock : Int) w := rfl
  have hg : (getObj mb).run Try.prog w = .ok (.map ((l ++ [(x, u, clock)]).map ent).toArray (clock + 1)) w := MapKept.run_getObj_map h
  unfold Instr.entryStore
  simp only [Sem.run_bind, hg, ha, Result.andThen, List.findIdx?_toArray, hi]
  rw [run_setObj_map _ h]
  simp only [setBlock]
  congr 4
  simp only [List.map_append, List.map_cons, List.map_nil, ent]
  rw [List.modify_toArray, modify_last]

/-- the place was free: it has the car now -/
theorem Slots.stored {w w' : World} {mb : Nat} {l : List Slot} {clock : Nat} {f : Ch.Place → Int} (h : Slots w mb l clock f) {x : Ch.Place} {v : Int} (hx : f x = 0) (hv : v ≠ 0)
    (hw : w'.heap[mb]? = some (.map ((l ++ [(x, v, clock)]).map ent).toArray (clock + 1))) : Slots w' mb (l ++ [(x, v, clock)]) (clock + 1) (Ch.setSlot f x v) := by
  have hne : ∀ e ∈ l, e.1 ≠ x := by
    rcases findIn_get x l 0 with ⟨_, _, h3⟩ | ⟨j, e, h1, h2, _, h4⟩
    · exact h3
    · exfalso
      apply h.full e (List.mem_of_getElem? h1)
      rw [← h4, h.is]; exact hx
  refine ⟨hw, ?_, ?_, ?_, ?_, ?_⟩
  · rw [List.map_append, List.nodup_append]
    refine ⟨h.once, by simp, ?_⟩
    intro y hy z hz
    simp at hz; subst hz
    obtain ⟨e, he, rfl⟩ := List.mem_map.1 hy
    exact hne e he
  · intro e he
    rcases List.mem_append.1 he with he | he
    · exact h.full e he
    · simp at he; subst he; exact hv
  · intro y
    rw [getIn_snoc y x v clock l hne, h.is]
    rfl
  · rw [List.map_append, List.nodup_append]
    refine ⟨h.born, by simp, ?_⟩
    intro y hy z hz
    simp at hz; subst hz
    obtain ⟨e, he, rfl⟩ := List.mem_map.1 hy
    have := h.clock e he
    omega
  · intro e he
    rcases List.mem_append.1 he with he | he
    · have := h.clock e he; omega
    · simp at he; subst he; dsimp only; omega

theorem Slots.made (w : World) : Slots (w.alloc (.map #[] 0)) w.heap.size [] 0 (fun _ => 0) :=
  ⟨heap_alloc_new w _, by simp, by simp, fun _ => rfl, by simp, by simp⟩

end Go.Proofs.Ytplomeacjbkgnaa
