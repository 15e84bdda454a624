/-
  Walks of the program's functions, and what they need: PlantLaw.
-/
import Derived.Test.YtplomeacjbkgnacDoorPart01

namespace Ch

theorem placeFault_iff {x : Place} {n : Int} : placeFault x n = 0 ↔ 1 ≤ x.level ∧ x.level ≤ n ∧ 0 ≤ x.side ∧ x.side ≤ 1 ∧ 0 ≤ x.depth ∧ x.depth ≤ 1 := by
  unfold placeFault
  split <;> simp <;> omega

theorem mem_allPlaces {x : Place} {n : Int} : x ∈ allPlaces n ↔ placeFault x n = 0 := by
  rw [placeFault_iff]
  obtain ⟨a, b, c⟩ := x
  simp only [allPlaces, List.mem_flatMap, List.mem_range, List.mem_cons, Place.mk.injEq, List.not_mem_nil, or_false]
  constructor
  · rintro ⟨k, hk, h⟩; omega
  · intro h
    refine ⟨(a - 1).toNat, by omega, ?_⟩
    omega

theorem nodup_allPlaces (n : Int) : (allPlaces n).Nodup := by
  unfold allPlaces
  generalize n.toNat = m
  unfold List.Nodup
  rw [List.pairwise_flatMap]
  refine ⟨fun k _ => by simp, ?_⟩
  refine List.Pairwise.imp ?_ (List.nodup_range (n := m))
  intro a b hab x hx y hy he
  subst he
  simp only [List.mem_cons, List.not_mem_nil, or_false] at hx hy
  rcases hx with rfl | rfl | rfl | rfl <;> simp at hy <;> omega

structure Plant.WF (p : Plant) : Prop where
  lv1 : 1 ≤ p.levels
  lv2 : p.levels ≤ 4
  ht1 : 0 ≤ p.height
  ht2 : p.height ≤ p.levels * 3
  ex1 : -2 ≤ p.ext
  ex2 : p.ext ≤ 2
  pe1 : 0 ≤ p.people
  pe2 : p.people ≤ 9
  st1 : 0 ≤ p.stall
  st2 : p.stall ≤ 5
  li1 : 0 ≤ p.lift
  li2 : p.lift ≤ 999
  ba1 : 0 ≤ p.bay
  ba2 : p.bay ≤ 999
  sl : ∀ x, p.slots x ≠ 0 → placeFault x p.levels = 0
  sv : ∀ x, 0 ≤ p.slots x ∧ p.slots x ≤ 999

theorem Plant.place_some {p : Plant} {e : Int} {x : Place} (h : p.place e = some x) :
    p.height % 3 = 0 ∧ p.height ≠ 0 ∧ e ≠ 0 ∧ -2 ≤ e ∧ e ≤ 2 ∧ x.level = p.height / 3 ∧ ((e < 0 ∧ x.side = 0 ∧ x.depth = -e - 1) ∨ (0 < e ∧ x.side = 1 ∧ x.depth = e - 1)) := by
  unfold Plant.place at h
  split at h
  · cases h
  · split at h <;> (cases h; simp; omega)

theorem Plant.place_ok {p : Plant} (hp : p.WF) {e : Int} {x : Place} (h : p.place e = some x) : placeFault x p.levels = 0 := by
  have := place_some h
  have h1 := hp.ht1
  have h2 := hp.ht2
  rw [placeFault_iff]
  omega

theorem clamp_bd (n hi : Int) (h : 0 ≤ hi) : 0 ≤ clamp n hi ∧ clamp n hi ≤ hi := by unfold clamp; omega

theorem Plant.WF.act {p : Plant} (hp : p.WF) (c : Int) : (p.act c).WF := by
  obtain ⟨a1, a2, a3, a4, a5, a6, a7, a8, a9, a10, a11, a12, a13, a14, a15, a16⟩ := id hp
  unfold Plant.act
  have hr : ∀ n, (p.rise n).WF := fun n => by
    have := clamp_bd (p.height + n) (p.levels * 3) (by omega)
    exact ⟨a1, a2, this.1, this.2, a5, a6, a7, a8, a9, a10, a11, a12, a13, a14, a15, a16⟩
  have hs : ∀ n, (p.stretch n).WF := fun n => by
    unfold Plant.stretch
    split
    · exact hp
    · exact ⟨a1, a2, a3, a4, by dsimp only; omega, by dsimp only; omega, a7, a8, a9, a10, a11, a12, a13, a14, a15, a16⟩
  have hg : p.grab.WF := by
    unfold Plant.grab
    split
    · exact hp
    · rename_i x hx
      split
      · refine ⟨a1, a2, a3, a4, a5, a6, a7, a8, a9, a10, (a16 x).1, (a16 x).2, a13, a14, ?_, ?_⟩
        · intro y hy
          simp only [setSlot] at hy
          split at hy
          · exact absurd rfl hy
          · exact a15 y hy
        · intro y
          simp only [setSlot]
          split
          · omega
          · exact a16 y
      · exact hp
  have hu : p.put.WF := by
    unfold Plant.put
    split
    · exact hp
    · rename_i x hx
      split
      · refine ⟨a1, a2, a3, a4, a5, a6, a7, a8, a9, a10, by simp, by simp, a13, a14, ?_, ?_⟩
        · intro y hy
          simp only [setSlot] at hy
          split at hy
          · rename_i e; rw [e]; exact Plant.place_ok hp hx
          · exact a15 y hy
        · intro y
          simp only [setSlot]
          split
          · omega
          · exact a16 y
      · exact hp
  have hw : ∀ o, (p.swing o).WF := fun o => ⟨a1, a2, a3, a4, a5, a6, a7, a8, a9, a10, a11, a12, a13, a14, a15, a16⟩
  have hpa : ∀ i, (p.pass i).WF := fun i => by
    unfold Plant.pass
    dsimp only
    split
    · exact ⟨a1, a2, a3, a4, a5, a6, a7, a8, a9, a10, a11, a12, a13, a14, a15, a16⟩
    · split
      · split
        · exact ⟨a1, a2, a3, a4, a5, a6, a7, a8, a9, a10, a13, a14, by simp, by simp, a15, a16⟩
        · exact ⟨a1, a2, a3, a4, a5, a6, a7, a8, a9, a10, a11, a12, a13, a14, a15, a16⟩
      · split
        · exact ⟨a1, a2, a3, a4, a5, a6, a7, a8, a9, a10, by simp, by simp, a11, a12, a15, a16⟩
        · exact ⟨a1, a2, a3, a4, a5, a6, a7, a8, a9, a10, a11, a12, a13, a14, a15, a16⟩
  repeat' split
  all_goals first | exact hr _ | exact hs _ | exact hg | exact hu | exact hw _ | exact hpa _ | exact hp

theorem Plant.WF.step {p : Plant} (hp : p.WF) (c : Int) : (p.step c).WF := by
  unfold Plant.step
  split
  · obtain ⟨a1, a2, a3, a4, a5, a6, a7, a8, a9, a10, a11, a12, a13, a14, a15, a16⟩ := hp
    exact ⟨a1, a2, a3, a4, a5, a6, a7, a8, by dsimp only; omega, by dsimp only; omega, a11, a12, a13, a14, a15, a16⟩
  · exact hp.act c

theorem Plant.WF.walk {p : Plant} (hp : p.WF) (n : Int) : (p.walk n).1.WF := by
  unfold Plant.walk
  split
  · exact hp
  · split
    · exact hp
    · obtain ⟨a1, a2, a3, a4, a5, a6, a7, a8, a9, a10, a11, a12, a13, a14, a15, a16⟩ := hp
      have := clamp_bd (p.people + n) 9 (by omega)
      exact ⟨a1, a2, a3, a4, a5, a6, this.1, this.2, a9, a10, a11, a12, a13, a14, a15, a16⟩

theorem Plant.WF.arrive {p : Plant} (hp : p.WF) (n : Int) : (p.arrive n).1.WF := by
  unfold Plant.arrive
  split
  · exact hp
  · split
    · exact hp
    · split
      · exact hp
      · obtain ⟨a1, a2, a3, a4, a5, a6, a7, a8, a9, a10, a11, a12, a13, a14, a15, a16⟩ := hp
        exact ⟨a1, a2, a3, a4, a5, a6, a7, a8, a9, a10, a11, a12, by dsimp only; omega, by dsimp only; omega, a15, a16⟩

theorem Plant.WF.leave {p : Plant} (hp : p.WF) : p.leave.1.WF := by
  unfold Plant.leave
  split
  · exact hp
  · obtain ⟨a1, a2, a3, a4, a5, a6, a7, a8, a9, a10, a11, a12, a13, a14, a15, a16⟩ := hp
    exact ⟨a1, a2, a3, a4, a5, a6, a7, a8, a9, a10, a11, a12, by simp, by simp, a15, a16⟩

theorem Plant.WF.setStall {p : Plant} (hp : p.WF) (n : Int) : (p.setStall n).1.WF := by
  unfold Plant.setStall
  split
  · exact hp
  · obtain ⟨a1, a2, a3, a4, a5, a6, a7, a8, a9, a10, a11, a12, a13, a14, a15, a16⟩ := hp
    exact ⟨a1, a2, a3, a4, a5, a6, a7, a8, by dsimp only; omega, by dsimp only; omega, a11, a12, a13, a14, a15, a16⟩

theorem Plant.WF.new {n : Int} (h1 : 1 ≤ n) (h2 : n ≤ 4) : (Plant.new n).WF := by
  constructor <;> simp [Plant.new] <;> omega

structure Act where
  kind : ByteArray
  a : Int
  b : Int
  car : Car
  s : ByteArray
  k : Int
  book : Book

def kStep : ByteArray := ⟨#[115, 116, 101, 112]⟩
def kWalk : ByteArray := ⟨#[119, 97, 108, 107]⟩
def kArrive : ByteArray := ⟨#[97, 114, 114, 105, 118, 101]⟩
def kLeave : ByteArray := ⟨#[108, 101, 97, 118, 101]⟩
def kStall : ByteArray := ⟨#[115, 116, 97, 108, 108]⟩

def Act.first (a : Act) : Option Int := a.s.data.toList.head?.map fun c => (c.toNat : Int)

/-- the five kinds of what comes from outside, or is done; the last one: any other -/
def Plant.outside (p : Plant) (a : Act) : Plant :=
  if a.kind = kStep then (match a.first with | none => p | some c => p.step c)
  else if a.kind = kWalk then (p.walk a.a).1
  else if a.kind = kArrive then (p.arrive a.a).1
  else if a.kind = kLeave then p.leave.1
  else if a.kind = kStall then (p.setStall a.a).1
  else p

def Plant.safely (p : Plant) (a : Act) : Plant :=
  if a.kind = kStep then (match a.first with | none => p | some c => if may c p.sense then p.step c else p) else p.outside a

theorem Plant.WF.outside {p : Plant} (hp : p.WF) (a : Act) : (p.outside a).WF := by
  unfold Plant.outside
  split
  · split
    · exact hp
    · exact hp.step _
  · split
    · exact hp.walk _
    · split
      · exact hp.arrive _
      · split
        · exact hp.leave
        · split
          · exact hp.setStall _
          · exact hp

theorem Plant.WF.safely {p : Plant} (hp : p.WF) (a : Act) : (p.safely a).WF := by
  unfold Plant.safely
  split
  · split
    · exact hp
    · split
      · exact hp.step _
      · exact hp
  · exact hp.outside a

theorem w64_small {n : Int} (h1 : -9223372036854775808 ≤ n) (h2 : n ≤ 9223372036854775807) : w64 n = n := by unfold w64; omega

theorem place_none {p : Plant} {e : Int} (h1 : 0 < p.height) (h2 : p.height % 3 = 0) (h3 : e ≠ 0) (h4 : -2 ≤ e) (h5 : e ≤ 2) : (p.place e).isNone = false := by
  unfold Plant.place
  rw [if_neg (by omega)]
  split <;> rfl

theorem place_iff {p : Plant} {e : Int} (hp : 0 ≤ p.height) (h4 : -2 ≤ e) (h5 : e ≤ 2) : (p.place e).isNone = true ↔ ¬ (0 < p.height ∧ p.height % 3 = 0 ∧ e ≠ 0) := by
  constructor
  · intro h ⟨a, b, c⟩
    rw [place_none a b c h4 h5] at h
    cases h
  · intro h
    unfold Plant.place
    rw [if_pos (by omega)]
    rfl

theorem level_sense {p : Plant} : level p.sense = true ↔ 0 < p.height ∧ p.height % 3 = 0 := by
  unfold level
  rw [Bool.and_eq_true, decide_eq_true_eq, beq_iff_eq]
  exact Iff.rfl

theorem shut_sense {p : Plant} : shut p.sense = true ↔ p.door = false ∧ p.people = 0 := by simp [shut, Plant.sense]

theorem open_shut {p : Plant} (h : 0 ≤ p.people) : p.openB = !shut p.sense := by
  unfold Plant.openB shut
  rw [show p.sense.door = p.door from rfl, show p.sense.people = p.people from rfl]
  cases p.door
  · rw [Bool.false_or, Bool.eq_iff_iff]
    simp
    omega
  · simp

theorem may_stretch {p : Plant} (hp : p.WF) (hh : p.hurt = false) {n : Int} {f : Bool} (hn : n = 1 ∨ n = -1) (hf : f = p.full (p.ext + n)) (hm : mayStretch p.sense (w64 (p.ext + n)) f = true) : (p.stretch n).hurt = false := by
  have e1 := hp.ex1
  have e2 := hp.ex2
  rw [w64_small (by omega) (by omega)] at hm
  unfold mayStretch at hm
  unfold Plant.stretch
  split
  · exact hh
  · rename_i hb
    rw [if_neg hb] at hm
    dsimp only
    rw [hh]
    simp only [Bool.or_eq_true, beq_iff_eq, Bool.and_eq_true, Bool.not_eq_true', Bool.and_eq_false_iff] at hm
    simp only [Bool.false_or, Bool.or_eq_false_iff, Bool.and_eq_false_iff]
    rcases hm with h0 | ⟨hl, hm⟩
    · rw [h0]
      refine ⟨Or.inl (by simp), Or.inr ?_⟩
      unfold Plant.full Plant.place
      simp
    · rw [level_sense] at hl
      constructor
      · by_cases h0 : p.ext + n = 0
        · left; simp [h0]
        · right; exact place_none hl.1 hl.2 h0 (by omega) (by omega)
      · rw [← hf]
        simpa [Plant.sense] using hm

theorem may_safe {p : Plant} (hp : p.WF) (hh : p.hurt = false) (c : Int) (hm : may c p.sense = true) : (p.act c).hurt = false := by
  have hpe := hp.pe1
  have hop := open_shut hpe
  unfold may at hm
  unfold Plant.act
  by_cases c1 : c = 45
  · subst c1; simpa using hh
  rw [if_neg c1] at hm
  by_cases c2 : c = 117
  · subst c2
    rw [if_pos (Or.inl rfl)] at hm
    rw [if_pos rfl]
    simp only [Bool.and_eq_true, beq_iff_eq] at hm
    simp [Plant.rise, hh, hop, hm.2]
    exact hm.1
  by_cases c3 : c = 100
  · subst c3
    rw [if_pos (Or.inr rfl)] at hm
    rw [if_neg (by decide), if_pos rfl]
    simp only [Bool.and_eq_true, beq_iff_eq] at hm
    simp [Plant.rise, hh, hop, hm.2]
    exact hm.1
  rw [if_neg (by omega)] at hm
  rw [if_neg c2, if_neg c3]
  by_cases c4 : c = 108
  · subst c4
    rw [if_pos rfl] at hm
    rw [if_pos rfl]
    exact may_stretch hp hh (n := -1) (Or.inr rfl) rfl hm
  rw [if_neg c4] at hm ⊢
  by_cases c5 : c = 114
  · subst c5
    rw [if_pos rfl] at hm
    rw [if_pos rfl]
    exact may_stretch hp hh (n := 1) (Or.inl rfl) rfl hm
  rw [if_neg c5] at hm ⊢
  by_cases c6 : c = 103
  · subst c6
    rw [if_pos rfl]
    unfold Plant.grab
    split
    · exact hh
    · split
      · exact hh
      · exact hh
  rw [if_neg c6] at hm ⊢
  by_cases c7 : c = 112
  · subst c7
    rw [if_pos rfl]
    unfold Plant.put
    split
    · exact hh
    · split
      · exact hh
      · exact hh
  rw [if_neg c7] at hm ⊢
  by_cases c8 : c = 111
  · subst c8
    rw [if_pos rfl] at hm
    rw [if_pos rfl]
    simp only [Bool.and_eq_true, beq_iff_eq, Plant.sense] at hm
    simp [Plant.swing, hh, hm.1, hm.2]
  rw [if_neg c8] at hm ⊢
  by_cases c9 : c = 99
  · subst c9
    rw [if_pos rfl] at hm
    rw [if_pos rfl]
    simp only [beq_iff_eq, Plant.sense] at hm
    simp [Plant.swing, hh, hm]
  rw [if_neg c9] at hm ⊢
  have hpass : ∀ i, shut p.sense = true → (p.pass i).hurt = false := fun i hs => by
    unfold Plant.pass
    dsimp only
    split
    · simp [hh, hop, hs]
    · split
      · split <;> simp [hh, hop, hs]
      · split <;> simp [hh, hop, hs]
  by_cases c10 : c = 110
  · subst c10
    rw [if_pos rfl] at hm
    rw [if_pos rfl]
    simp only [Bool.and_eq_true] at hm
    exact hpass _ hm.1.1.2
  rw [if_neg c10] at hm ⊢
  by_cases c11 : c = 120
  · subst c11
    rw [if_pos rfl] at hm
    rw [if_pos rfl]
    simp only [Bool.and_eq_true] at hm
    exact hpass _ hm.1.1.2
  rw [if_neg c11]
  exact hh

theorem may_safe_step {p : Plant} (hp : p.WF) (hh : p.hurt = false) (c : Int) (hm : may c p.sense = true) : (p.step c).hurt = false := by
  unfold Plant.step
  split
  · exact hh
  · exact may_safe hp hh c hm

theorem walk_hurt (p : Plant) (n : Int) : (p.walk n).1.hurt = p.hurt := by
  unfold Plant.walk; split
  · rfl
  · split <;> rfl
theorem arrive_hurt (p : Plant) (n : Int) : (p.arrive n).1.hurt = p.hurt := by
  unfold Plant.arrive; split
  · rfl
  · split
    · rfl
    · split <;> rfl
theorem leave_hurt (p : Plant) : p.leave.1.hurt = p.hurt := by unfold Plant.leave; split <;> rfl
theorem stall_hurt (p : Plant) (n : Int) : (p.setStall n).1.hurt = p.hurt := by unfold Plant.setStall; split <;> rfl

theorem safely_hurt {p : Plant} (hp : p.WF) (hh : p.hurt = false) (a : Act) : (p.safely a).hurt = false := by
  unfold Plant.safely
  split
  · split
    · exact hh
    · split
      · rename_i hm; exact may_safe_step hp hh _ hm
      · exact hh
  · rename_i hk
    unfold Plant.outside
    rw [if_neg hk]
    split
    · rw [walk_hurt]; exact hh
    · split
      · rw [arrive_hurt]; exact hh
      · split
        · rw [leave_hurt]; exact hh
        · split
          · rw [stall_hurt]; exact hh
          · exact hh

/-! ### what may not be done -/

def Plant.freely (p : Plant) (a : Act) : Plant := if a.kind = kStep then p.safely a else if a.kind = kStall then p else p.outside a

theorem Plant.WF.freely {p : Plant} (hp : p.WF) (a : Act) : (p.freely a).WF := by
  unfold Plant.freely
  split
  · exact hp.safely a
  · split
    · exact hp
    · exact hp.outside a

theorem act_stall (p : Plant) (c : Int) : (p.act c).stall = p.stall := by
  unfold Plant.act
  have h1 : ∀ n, (p.stretch n).stall = p.stall := fun n => by unfold Plant.stretch; split <;> rfl
  have h2 : p.grab.stall = p.stall := by
    unfold Plant.grab; split
    · rfl
    · split <;> rfl
  have h3 : p.put.stall = p.stall := by
    unfold Plant.put; split
    · rfl
    · split <;> rfl
  have h4 : ∀ i, (p.pass i).stall = p.stall := fun i => by
    unfold Plant.pass; dsimp only; split
    · rfl
    · split
      · split <;> rfl
      · split <;> rfl
  repeat' split
  all_goals first | rfl | exact h1 _ | exact h2 | exact h3 | exact h4 _

theorem step_stall {p : Plant} (h : p.stall = 0) (c : Int) : (p.step c).stall = 0 := by
  unfold Plant.step
  rw [if_neg (by omega), act_stall]; exact h

theorem outside_stall {p : Plant} (h : p.stall = 0) {a : Act} (ha : a.kind ≠ kStall) : (p.outside a).stall = 0 := by
  unfold Plant.outside
  split
  · split
    · exact h
    · exact step_stall h _
  · split
    · unfold Plant.walk; split
      · exact h
      · split <;> exact h
    · split
      · unfold Plant.arrive; split
        · exact h
        · split
          · exact h
          · split <;> exact h
      · split
        · unfold Plant.leave; split <;> exact h
        · try rw [if_neg ha]
          exact h

theorem freely_stall {p : Plant} (h : p.stall = 0) (a : Act) : (p.freely a).stall = 0 := by
  unfold Plant.freely
  split
  · rename_i hk
    unfold Plant.safely
    rw [if_pos hk]
    split
    · exact h
    · split
      · exact step_stall h _
      · exact h
  · split
    · exact h
    · rename_i hk; exact outside_stall h hk

theorem stretch_not {p : Plant} (hp : p.WF) {n : Int} {f : Bool} (hn : n = 1 ∨ n = -1) (hf : f = p.full (p.ext + n)) (hm : mayStretch p.sense (w64 (p.ext + n)) f = false) : (p.stretch n).hurt = true ∨ p.stretch n = p := by
  have e1 := hp.ex1
  have e2 := hp.ex2
  have h1 := hp.ht1
  rw [w64_small (by omega) (by omega)] at hm
  unfold mayStretch at hm
  unfold Plant.stretch
  split
  · exact Or.inr rfl
  · rename_i hb
    left
    rw [if_neg hb] at hm
    simp only [Bool.or_eq_false_iff, beq_eq_false_iff_ne, Bool.and_eq_false_iff, Bool.not_eq_false'] at hm
    obtain ⟨h0, hm⟩ := hm
    dsimp only
    rcases hm with hl | hl
    · have hn : (p.place (p.ext + n)).isNone = true := by
        rw [place_iff h1 (by omega) (by omega)]
        intro ⟨a, b, c⟩
        rw [level_sense.2 ⟨a, b⟩] at hl
        cases hl
      rw [hn]; simp [h0]
    · rw [← hf]
      rw [show (p.sense.lift != 0) = (p.lift != 0) from rfl] at hl
      rw [hl]; simp

theorem act_not {p : Plant} (hp : p.WF) (c : Int) (hm : may c p.sense = false) : (p.act c).hurt = true ∨ p.act c = p := by
  have hpe := hp.pe1
  have hop := open_shut hpe
  have hh1 := hp.ht1
  unfold may at hm
  unfold Plant.act
  by_cases c1 : c = 45
  · subst c1; simp
  rw [if_neg c1] at hm
  by_cases c2 : c = 117 ∨ c = 100
  · rw [if_pos c2] at hm
    left
    have : ∀ n, (p.rise n).hurt = true := fun n => by
      simp only [Bool.and_eq_false_iff, beq_eq_false_iff_ne, Plant.sense] at hm
      simp only [Plant.rise]
      rcases hm with h | h
      · simp [h]
      · rw [hop]; simp only [Plant.sense]; rw [h]; simp
    rcases c2 with rfl | rfl
    · rw [if_pos rfl]; exact this _
    · rw [if_neg (by decide), if_pos rfl]; exact this _
  rw [if_neg c2] at hm
  rw [if_neg (by omega), if_neg (by omega)]
  by_cases c4 : c = 108
  · subst c4
    rw [if_pos rfl] at hm
    rw [if_pos rfl]
    exact stretch_not hp (n := -1) (Or.inr rfl) rfl hm
  rw [if_neg c4] at hm ⊢
  by_cases c5 : c = 114
  · subst c5
    rw [if_pos rfl] at hm
    rw [if_pos rfl]
    exact stretch_not hp (n := 1) (Or.inl rfl) rfl hm
  rw [if_neg c5] at hm ⊢
  by_cases c6 : c = 103
  · subst c6
    rw [if_pos rfl] at hm
    rw [if_pos rfl]
    right
    unfold Plant.grab
    split
    · rfl
    · rename_i x hx
      rw [if_neg]
      rintro ⟨hl, hs⟩
      have := Plant.place_some hx
      have l1 : level p.sense = true := level_sense.2 ⟨by omega, this.1⟩
      have l2 : p.sense.here = true := by simp [Plant.sense, Plant.full, hx, hs]
      simp [l1, l2] at hm
      simp [Plant.sense] at hm
      exact hm (by omega) hl
  rw [if_neg c6] at hm ⊢
  by_cases c7 : c = 112
  · subst c7
    rw [if_pos rfl] at hm
    rw [if_pos rfl]
    right
    unfold Plant.put
    split
    · rfl
    · rename_i x hx
      rw [if_neg]
      rintro ⟨hl, hs⟩
      have := Plant.place_some hx
      have l1 : level p.sense = true := level_sense.2 ⟨by omega, this.1⟩
      have l2 : p.sense.here = false := by simp [Plant.sense, Plant.full, hx, hs]
      simp [l1, l2] at hm
      simp [Plant.sense] at hm
      exact hl (hm (by omega))
  rw [if_neg c7] at hm ⊢
  by_cases c8 : c = 111
  · subst c8
    rw [if_pos rfl] at hm
    rw [if_pos rfl]
    left
    simp only [Bool.and_eq_false_iff, beq_eq_false_iff_ne, Plant.sense] at hm
    simp [Plant.swing, hm]
  rw [if_neg c8] at hm ⊢
  by_cases c9 : c = 99
  · subst c9
    rw [if_pos rfl] at hm
    rw [if_pos rfl]
    left
    simp only [beq_eq_false_iff_ne, Plant.sense] at hm
    simp [Plant.swing]
    omega
  rw [if_neg c9] at hm ⊢
  have hopen : shut p.sense = false → ∀ i, (p.pass i).hurt = true := fun hs i => by
    unfold Plant.pass
    dsimp only
    split
    · simp [hop, hs]
    · split
      · split <;> simp [hop, hs]
      · split <;> simp [hop, hs]
  have keep : shut p.sense = true → ({ p with hurt := p.hurt || p.openB } : Plant) = p := fun hs => by
    rw [hop, hs]; simp
  by_cases c10 : c = 110
  · subst c10
    rw [if_pos rfl] at hm
    rw [if_pos rfl]
    cases hs : shut p.sense with
    | false => exact Or.inl (hopen hs _)
    | true =>
      right
      rw [hs] at hm
      simp [Plant.sense] at hm
      unfold Plant.pass
      dsimp only
      split
      · exact keep hs
      · rename_i hz
        rw [if_pos rfl]
        split
        · rename_i hl
          have hb : p.bay = 0 := hm (by omega) (by omega) hl
          rw [hb]
          have := keep hs
          obtain ⟨p0, p1, p2, p3, p4, p5, p6, p7, p8, p9⟩ := p
          simp_all
        · exact keep hs
  rw [if_neg c10] at hm ⊢
  by_cases c11 : c = 120
  · subst c11
    rw [if_pos rfl] at hm
    rw [if_pos rfl]
    cases hs : shut p.sense with
    | false => exact Or.inl (hopen hs _)
    | true =>
      right
      rw [hs] at hm
      simp [Plant.sense] at hm
      unfold Plant.pass
      dsimp only
      split
      · exact keep hs
      · rename_i hz
        rw [if_neg (by simp)]
        split
        · rename_i hl
          have hb : p.lift = 0 := by
            apply Classical.byContradiction
            intro hc
            exact hm (by omega) (by omega) hc hl
          have := keep hs
          obtain ⟨p0, p1, p2, p3, p4, p5, p6, p7, p8, p9⟩ := p
          simp_all
        · exact keep hs
  rw [if_neg c11]
  exact Or.inr rfl

theorem step_not {p : Plant} (hp : p.WF) (h0 : p.stall = 0) (c : Int) (hm : may c p.sense = false) : (p.step c).hurt = true ∨ p.step c = p := by
  unfold Plant.step
  rw [if_neg (by omega)]
  exact act_not hp c hm

/-! ### a height, a reach come nearer -/

theorem next_done (g : Goal) (s : Sensed) : (nextOf g s).2 = decide ((nextOf g s).1 = 45) := by
  unfold nextOf toward once
  repeat' split
  all_goals rfl

theorem next_height {p : Plant} (hp : p.WF) (h0 : p.stall = 0) {g : Goal} (hk : g.kind = 1) (n1 : 0 ≤ g.n) (n2 : g.n ≤ p.levels * 3) (hd : (nextOf g p.sense).2 = false) :
    (p.height < g.n ∧ (p.step (nextOf g p.sense).1).height = p.height + 1) ∨ (g.n < p.height ∧ (p.step (nextOf g p.sense).1).height = p.height - 1) := by
  have h1 := hp.ht1
  have h2 := hp.ht2
  have h3 := hp.lv1
  have e : nextOf g p.sense = toward p.height g.n 117 100 := by unfold nextOf; rw [if_pos hk]; rfl
  rw [e] at hd ⊢
  clear e
  unfold toward at hd ⊢
  by_cases hlt : p.height < g.n
  · left
    rw [if_pos hlt]
    refine ⟨hlt, ?_⟩
    unfold Plant.step
    rw [if_neg (by omega)]
    simp [Plant.act, Plant.rise, clamp]
    omega
  · rw [if_neg hlt] at hd ⊢
    by_cases hgt : g.n < p.height
    · right
      rw [if_pos hgt]
      refine ⟨hgt, ?_⟩
      unfold Plant.step
      rw [if_neg (by omega)]
      simp [Plant.act, Plant.rise, clamp]
      omega
    · rw [if_neg hgt] at hd; cases hd

theorem next_reach {p : Plant} (hp : p.WF) (h0 : p.stall = 0) {g : Goal} (hk : g.kind = 2) (n1 : -2 ≤ g.n) (n2 : g.n ≤ 2) (hd : (nextOf g p.sense).2 = false) :
    (p.ext < g.n ∧ (p.step (nextOf g p.sense).1).ext = p.ext + 1) ∨ (g.n < p.ext ∧ (p.step (nextOf g p.sense).1).ext = p.ext - 1) := by
  have h1 := hp.ex1
  have h2 := hp.ex2
  have e : nextOf g p.sense = toward p.ext g.n 114 108 := by unfold nextOf; rw [if_neg (by omega), if_pos hk]; rfl
  rw [e] at hd ⊢
  clear e
  unfold toward at hd ⊢
  by_cases hlt : p.ext < g.n
  · left
    rw [if_pos hlt]
    refine ⟨hlt, ?_⟩
    unfold Plant.step
    rw [if_neg (by omega)]
    simp [Plant.act, Plant.stretch]
    rw [if_neg (by omega)]
  · rw [if_neg hlt] at hd ⊢
    by_cases hgt : g.n < p.ext
    · right
      rw [if_pos hgt]
      refine ⟨hgt, ?_⟩
      unfold Plant.step
      rw [if_neg (by omega)]
      simp [Plant.act, Plant.stretch]
      rw [if_neg (by omega)]
      simp; omega
    · rw [if_neg hgt] at hd; cases hd

/-- the cars that a machine has, anywhere -/
def Plant.cars (p : Plant) : List Int :=
  (if p.lift ≠ 0 then [p.lift] else []) ++ (if p.bay ≠ 0 then [p.bay] else []) ++ ((allPlaces 4).map p.slots).filter (fun n => n != 0)

def alike (a b : List Int) : Bool := decide (a.length = b.length) && a.all fun x => decide (a.count x = b.count x)

theorem alike_of_perm {a b : List Int} (h : a.Perm b) : alike a b = true := by
  unfold alike
  simp only [Bool.and_eq_true, decide_eq_true_eq, List.all_eq_true]
  exact ⟨h.length_eq, fun x _ => h.count_eq x⟩

theorem count_set {l : List Place} (hn : l.Nodup) {x : Place} (hx : x ∈ l) (f : Place → Int) (a v : Int) :
    (l.map (setSlot f x a)).count v + (if f x = v then 1 else 0) = (l.map f).count v + (if a = v then 1 else 0) := by
  induction l with
  | nil => cases hx
  | cons y l ih =>
    obtain ⟨hy, hl⟩ := List.nodup_cons.1 hn
    simp only [List.map_cons, List.count_cons, beq_iff_eq]
    rcases List.mem_cons.1 hx with rfl | hx'
    · have e : l.map (setSlot f x a) = l.map f := by
        apply List.map_congr_left
        intro z hz
        simp only [setSlot]
        rw [if_neg]
        rintro rfl
        exact hy hz
      rw [e]
      simp only [setSlot, if_true]
      omega
    · have hne : y ≠ x := by rintro rfl; exact hy hx'
      have := ih hl hx'
      simp only [setSlot, if_neg hne]
      omega

theorem count_cars (p : Plant) (v : Int) : p.cars.count v = if v = 0 then 0 else (if p.lift = v then 1 else 0) + (if p.bay = v then 1 else 0) + ((allPlaces 4).map p.slots).count v := by
  unfold Plant.cars
  simp only [List.count_append]
  by_cases hv : v = 0
  · subst hv
    rw [if_pos rfl]
    have h1 : (if p.lift ≠ 0 then [p.lift] else []).count 0 = 0 := by
      split
      · rename_i h; simp [h]
      · rfl
    have h2 : (if p.bay ≠ 0 then [p.bay] else []).count 0 = 0 := by
      split
      · rename_i h; simp [h]
      · rfl
    rw [h1, h2, List.count_eq_zero_of_not_mem]
    simp
  · rw [if_neg hv]
    have h1 : (if p.lift ≠ 0 then [p.lift] else []).count v = if p.lift = v then 1 else 0 := by
      split
      · simp [List.count_cons]
      · rename_i h
        have h : p.lift = 0 := by simpa using h
        rw [if_neg (by omega)]; rfl
    have h2 : (if p.bay ≠ 0 then [p.bay] else []).count v = if p.bay = v then 1 else 0 := by
      split
      · simp [List.count_cons]
      · rename_i h
        have h : p.bay = 0 := by simpa using h
        rw [if_neg (by omega)]; rfl
    rw [h1, h2, List.count_filter (by simpa using hv)]

theorem perm_cars {p : Plant} {l : List Int} (h : ∀ v, p.cars.count v = l.count v) : p.cars.Perm l := List.perm_iff_count.2 h

theorem place_mem4 {p : Plant} (hp : p.WF) {e : Int} {x : Place} (h : p.place e = some x) : x ∈ allPlaces 4 := by
  have h1 := Plant.place_ok hp h
  have h2 := hp.lv2
  rw [mem_allPlaces, placeFault_iff]
  rw [placeFault_iff] at h1
  omega

/-- how often a machine has a car -/
def Plant.tally (p : Plant) (v : Int) : Nat := (if p.lift = v then 1 else 0) + (if p.bay = v then 1 else 0) + ((allPlaces 4).map p.slots).count v

theorem tally_rise (p : Plant) (n v : Int) : (p.rise n).tally v = p.tally v := rfl

theorem tally_swing (p : Plant) (o : Bool) (v : Int) : (p.swing o).tally v = p.tally v := rfl

theorem tally_stretch (p : Plant) (n v : Int) : (p.stretch n).tally v = p.tally v := by
  unfold Plant.stretch; split <;> rfl

theorem tally_grab {p : Plant} (hp : p.WF) {v : Int} (hv : v ≠ 0) : p.grab.tally v = p.tally v := by
  unfold Plant.grab; split
  · rfl
  · rename_i x hx
    split
    · rename_i hl
      have := count_set (nodup_allPlaces 4) (place_mem4 hp hx) p.slots 0 v
      unfold Plant.tally
      dsimp only
      rw [if_neg (show ¬ (0 : Int) = v by omega)] at this
      rw [if_neg (show ¬ p.lift = v by omega)]
      omega
    · rfl

theorem tally_put {p : Plant} (hp : p.WF) {v : Int} (hv : v ≠ 0) : p.put.tally v = p.tally v := by
  unfold Plant.put; split
  · rfl
  · rename_i x hx
    split
    · rename_i hl
      have := count_set (nodup_allPlaces 4) (place_mem4 hp hx) p.slots p.lift v
      unfold Plant.tally
      dsimp only
      rw [if_neg (show ¬ p.slots x = v by omega)] at this
      rw [if_neg (show ¬ (0 : Int) = v by omega)]
      omega
    · rfl

theorem tally_pass (p : Plant) (i : Bool) {v : Int} (hv : v ≠ 0) : (p.pass i).tally v = p.tally v := by
  unfold Plant.pass; dsimp only; split
  · rfl
  · split
    · split
      · rename_i hl
        unfold Plant.tally
        dsimp only
        rw [if_neg (show ¬ (0 : Int) = v by omega), if_neg (show ¬ p.lift = v by omega)]
        omega
      · rfl
    · split
      · rename_i hl
        unfold Plant.tally
        dsimp only
        rw [if_neg (show ¬ (0 : Int) = v by omega), if_neg (show ¬ p.bay = v by omega)]
        omega
      · rfl

theorem tally_act {p : Plant} (hp : p.WF) (c : Int) {v : Int} (hv : v ≠ 0) : (p.act c).tally v = p.tally v := by
  unfold Plant.act
  repeat' split
  all_goals first | rfl | exact tally_rise _ _ _ | exact tally_swing _ _ _ | exact tally_stretch _ _ _ | exact tally_grab hp hv | exact tally_put hp hv | exact tally_pass _ _ hv

theorem act_cars {p : Plant} (hp : p.WF) (c : Int) (v : Int) : (p.act c).cars.count v = p.cars.count v := by
  rw [count_cars, count_cars]
  by_cases hv : v = 0
  · rw [if_pos hv, if_pos hv]
  rw [if_neg hv, if_neg hv]
  exact tally_act hp c hv

theorem step_cars {p : Plant} (hp : p.WF) (c : Int) : (p.step c).cars.Perm p.cars := by
  apply perm_cars
  intro v
  unfold Plant.step
  split
  · rw [count_cars, count_cars]
  · exact act_cars hp c v

theorem walk_cars (p : Plant) (n : Int) : (p.walk n).1.cars = p.cars := by
  unfold Plant.walk; split
  · rfl
  · split <;> rfl

theorem stall_cars (p : Plant) (n : Int) : (p.setStall n).1.cars = p.cars := by
  unfold Plant.setStall; split <;> rfl

theorem has_iff {p : Plant} (hp : p.WF) {v : Int} (hv : v ≠ 0) : p.has v = true ↔ v ∈ p.cars := by
  have hl := hp.lv2
  rw [← List.count_pos_iff, count_cars, if_neg hv]
  unfold Plant.has
  simp only [Bool.or_eq_true, Bool.and_eq_true, bne_iff_ne, beq_iff_eq, List.any_eq_true]
  have hc : 0 < ((allPlaces 4).map p.slots).count v ↔ ∃ x, x ∈ allPlaces p.levels ∧ p.slots x = v := by
    rw [List.count_pos_iff, List.mem_map]
    constructor
    · rintro ⟨x, hx, e⟩
      exact ⟨x, by rw [mem_allPlaces]; exact hp.sl x (by rw [e]; exact hv), e⟩
    · rintro ⟨x, hx, e⟩
      refine ⟨x, ?_, e⟩
      rw [mem_allPlaces, placeFault_iff] at *
      omega
  constructor
  · rintro ((⟨_, h⟩ | h) | h)
    · have := hc.2 h; omega
    · rw [if_pos h]; omega
    · rw [if_pos h]; omega
  · intro h
    by_cases h1 : p.lift = v
    · exact Or.inl (Or.inr h1)
    · by_cases h2 : p.bay = v
      · exact Or.inr h2
      · rw [if_neg h1, if_neg h2] at h
        exact Or.inl (Or.inl ⟨hv, hc.1 (by omega)⟩)

theorem arrive_cars {p : Plant} (hp : p.WF) (id : Int) (h : (p.arrive id).2 = 0) : (p.arrive id).1.cars.Perm (p.cars ++ [id]) ∧ ¬ id ∈ p.cars ∧ 1 ≤ id := by
  unfold Plant.arrive at *
  split at h
  · cases h
  · split at h
    · cases h
    · split at h
      · cases h
      · rename_i h1 h2 h3
        rw [if_neg h1, if_neg h2, if_neg h3]
        refine ⟨?_, ?_, by omega⟩
        · apply perm_cars
          intro v
          rw [List.count_append, count_cars, count_cars]
          dsimp only
          have : p.bay = 0 := by
            apply Classical.byContradiction
            intro hc
            exact h2 (Or.inr hc)
          rw [this]
          simp only [List.count_cons, List.count_nil, beq_iff_eq]
          by_cases hv : v = 0
          · subst hv; rw [if_pos rfl, if_pos rfl, if_neg (by omega)]
          · rw [if_neg hv, if_neg hv, if_neg (show ¬ (0 : Int) = v by omega)]
            omega
        · intro hm
          exact h3 ((has_iff hp (by omega)).2 hm)

theorem arrive_not {p : Plant} (id : Int) (h : (p.arrive id).2 ≠ 0) : (p.arrive id).1 = p := by
  unfold Plant.arrive at *
  split
  · rfl
  · split
    · rfl
    · split
      · rfl
      · rename_i h1 h2 h3
        rw [if_neg h1, if_neg h2, if_neg h3] at h
        exact absurd rfl h

theorem leave_not {p : Plant} (h : p.leave.2.2 ≠ 0) : p.leave.1 = p ∧ p.leave.2.1 = 0 := by
  unfold Plant.leave at *
  split
  · exact ⟨rfl, rfl⟩
  · rename_i h1
    rw [if_neg h1] at h
    exact absurd rfl h

theorem nodup_count {l : List Int} : l.Nodup ↔ ∀ v, l.count v ≤ 1 := List.nodup_iff_count

theorem leave_cars {p : Plant} (hd : p.cars.Nodup) (h : p.leave.2.2 = 0) : p.leave.1.cars.Perm (p.cars.filter fun x => x != p.leave.2.1) ∧ p.leave.2.1 ∈ p.cars := by
  unfold Plant.leave at *
  split at h
  · cases h
  · rename_i h1
    rw [if_neg h1]
    dsimp only
    have hb : p.bay ≠ 0 := fun e => h1 (Or.inr e)
    have hm : p.bay ∈ p.cars := by
      unfold Plant.cars
      simp [hb]
    refine ⟨?_, hm⟩
    apply perm_cars
    intro v
    rw [count_cars]
    by_cases hv : v = p.bay
    · subst hv
      rw [List.count_eq_zero_of_not_mem (l := p.cars.filter fun x => x != p.bay) (by simp), if_neg hb]
      have h2 := nodup_count.1 hd p.bay
      rw [count_cars, if_neg hb, if_pos rfl] at h2
      dsimp only
      rw [if_neg (show ¬ (0 : Int) = p.bay by omega)]
      omega
    · rw [List.count_filter (by simpa using hv), count_cars]
      dsimp only
      by_cases h0 : v = 0
      · rw [if_pos h0, if_pos h0]
      · rw [if_neg h0, if_neg h0, if_neg (show ¬ (0 : Int) = v by omega), if_neg (show ¬ p.bay = v by omega)]

/-- what is claimed of a machine at each step: the cars, each once -/
theorem outside_cars {p : Plant} (hp : p.WF) (a : Act) (h1 : a.kind ≠ kArrive) (h2 : a.kind ≠ kLeave) : (p.outside a).cars.Perm p.cars := by
  unfold Plant.outside
  split
  · split
    · exact List.Perm.refl _
    · exact step_cars hp _
  · split
    · rw [walk_cars]
    · split
      · rw [stall_cars]
      · exact List.Perm.refl _

theorem new_cars (n : Int) : (Plant.new n).cars = [] := by
  unfold Plant.cars Plant.new
  simp

theorem nodup_next {p : Plant} (hp : p.WF) (hd : p.cars.Nodup) (a : Act) : (p.outside a).cars.Nodup := by
  by_cases h1 : a.kind = kArrive
  · have e : p.outside a = (p.arrive a.a).1 := by unfold Plant.outside; rw [h1]; rfl
    rw [e]
    by_cases h : (p.arrive a.a).2 = 0
    · obtain ⟨hp1, hn, _⟩ := arrive_cars hp a.a h
      rw [hp1.nodup_iff, List.nodup_append]
      refine ⟨hd, by simp, ?_⟩
      intro x hx y hy
      simp at hy; subst hy
      rintro rfl; exact hn hx
    · rw [arrive_not _ h]; exact hd
  · by_cases h2 : a.kind = kLeave
    · have e : p.outside a = p.leave.1 := by unfold Plant.outside; rw [h2]; rfl
      rw [e]
      by_cases h : p.leave.2.2 = 0
      · rw [(leave_cars hd h).1.nodup_iff]
        exact hd.filter _
      · rw [(leave_not h).1]; exact hd
    · rw [(outside_cars hp a h1 h2).nodup_iff]; exact hd
end Ch
