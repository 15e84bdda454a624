/-
  PLAIN LAW: where a car is: the places one by one.
-/
import Derived.Test.YtplomeacjbkgnaaPlantLaw
namespace Ch

/-- is it there? -/
def whereP (p : Plant) (id : Int) (x : Place) : Bool := id != 0 && p.slots x == id

theorem where_find (p : Plant) (id : Int) : p.where_ id = (allPlaces p.levels).find? (whereP p id) := by
  unfold Plant.where_
  split
  · rename_i h
    subst h
    refine (List.find?_eq_none.2 ?_).symm
    intro x _
    simp [whereP]
  · rename_i h
    have : (id != 0) = true := by simpa using h
    congr 1
    funext x
    unfold whereP
    rw [this, Bool.true_and]

/-- four levels are as good as those that there are -/
theorem where_find4 {p : Plant} (hp : p.WF) (id : Int) : p.where_ id = (allPlaces 4).find? (whereP p id) := by
  rw [where_find]
  have h1 := hp.lv1
  have h2 := hp.lv2
  have e : allPlaces 4 = allPlaces p.levels ++ (List.range' p.levels.toNat (4 - p.levels.toNat)).flatMap fun (k : Nat) => [⟨k + 1, 0, 0⟩, ⟨k + 1, 0, 1⟩, ⟨k + 1, 1, 0⟩, ⟨k + 1, 1, 1⟩] := by
    unfold allPlaces
    rw [← List.flatMap_append, List.range_eq_range', List.range_eq_range']
    congr 1
    have := @List.range'_append 0 p.levels.toNat (4 - p.levels.toNat) 1
    simp only [Nat.zero_add, Nat.one_mul] at this
    rw [this]
    congr 1
    omega
  rw [e, List.find?_append]
  have hn : ((List.range' p.levels.toNat (4 - p.levels.toNat)).flatMap fun (k : Nat) => [(⟨k + 1, 0, 0⟩ : Place), ⟨k + 1, 0, 1⟩, ⟨k + 1, 1, 0⟩, ⟨k + 1, 1, 1⟩]).find? (whereP p id) = none := by
    rw [List.find?_eq_none]
    intro x hx
    rw [List.mem_flatMap] at hx
    obtain ⟨k, hk, hx⟩ := hx
    have hk2 := (List.mem_range'_1.1 hk).1
    have hl : p.levels < x.level := by
      simp only [List.mem_cons, List.not_mem_nil, or_false] at hx
      rcases hx with rfl | rfl | rfl | rfl <;> (dsimp only; omega)
    have hz : p.slots x = 0 := by
      by_cases hz : p.slots x = 0
      · exact hz
      · have := placeFault_iff.1 (hp.sl x hz)
        omega
    unfold whereP
    rw [hz]
    by_cases h0 : id = 0
    · simp [h0]
    · simp
      exact fun a b => a b.symm
  rw [hn, Option.or_none]

theorem place_nth {n : Int} (h4 : n ≤ 4) {k s d : Nat} (hk : (k : Int) < n) (hs : s < 2) (hd : d < 2) : (allPlaces n)[4 * k + 2 * s + d]? = some ⟨(k : Int) + 1, (s : Int), (d : Int)⟩ := by
  have hn : n = 1 ∨ n = 2 ∨ n = 3 ∨ n = 4 := by omega
  have hs : s = 0 ∨ s = 1 := by omega
  have hd : d = 0 ∨ d = 1 := by omega
  have hk' : k = 0 ∨ k = 1 ∨ k = 2 ∨ k = 3 := by omega
  rcases hn with rfl | rfl | rfl | rfl <;> rcases hk' with rfl | rfl | rfl | rfl <;> first | (exfalso; omega) | (rcases hs with rfl | rfl <;> rcases hd with rfl | rfl <;> rfl)

theorem places_len {n : Int} (h1 : 0 ≤ n) (h4 : n ≤ 4) : (allPlaces n).length = 4 * n.toNat := by
  have hn : n = 0 ∨ n = 1 ∨ n = 2 ∨ n = 3 ∨ n = 4 := by omega
  rcases hn with rfl | rfl | rfl | rfl | rfl <;> rfl

theorem has_where (p : Plant) (id : Int) : p.has id = ((p.where_ id).isSome || p.lift == id || p.bay == id) := by
  unfold Plant.has Plant.where_
  congr 2
  by_cases h : id = 0
  · simp [h]
  · rw [if_neg h]
    have : (id != 0) = true := by simpa using h
    rw [this, Bool.true_and, Bool.eq_iff_iff, List.find?_isSome, List.any_eq_true]

theorem where_zero (p : Plant) : p.where_ 0 = none := by unfold Plant.where_; simp

theorem where_ok {p : Plant} {id : Int} {x : Place} (h : p.where_ id = some x) : placeFault x p.levels = 0 := by
  unfold Plant.where_ at h
  split at h
  · cases h
  · exact mem_allPlaces.1 (List.mem_of_find?_eq_some h)
end Ch
