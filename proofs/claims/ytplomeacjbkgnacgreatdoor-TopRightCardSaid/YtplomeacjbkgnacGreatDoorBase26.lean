/-
  Walks of the program's functions, and what they need: Live, Live2, Live3, Live4, Live5.
-/
import Derived.Test.YtplomeacjbkgnacGreatDoorBase25

set_option linter.unusedSimpArgs false
set_option linter.unusedVariables false
set_option linter.unusedSectionVars false
set_option linter.unnecessarySimpa false

namespace Ch

namespace Live

inductive Steps (pre : Plant → Plant) : Nat → Plant → List Goal → Plant → List Goal → Prop
 | refl (p : Plant) (l : List Goal) : Steps pre 0 p l p l
 | done {k : Nat} {p q : Plant} {g : Goal} {r m : List Goal} : (nextOf g p.sense).2 = true → Steps pre k p r q m → Steps pre (k + 1) p (g :: r) q m
 | doit {k : Nat} {p q : Plant} {g : Goal} {r m : List Goal} {c : Int} : nextOf g p.sense = (c, false) → may c p.sense = true → c ≠ 111 → p.stall = 0 → Steps pre k (p.act c) (g :: r) q m → Steps pre (k + 1) p (g :: r) q m
 | opens {p : Plant} : p.door = false → p.height = 0 → p.ext = 0 → p.hurt = false → p.people = 0 → p.stall = 0 → Steps pre 2 p [⟨6, 0⟩] (pre { p with door := true }) []

variable {pre : Plant → Plant}

theorem Steps.trans {a b : Nat} {p q s : Plant} {l m r : List Goal} (h : Steps pre a p l q m) (h' : Steps pre b q m s r) : Steps pre (b + a) p l s r := by
 induction h with
 | refl => exact h'
 | done h1 _ ih => exact .done h1 (ih h')
 | doit h1 h2 h3 h4 _ ih => exact .doit h1 h2 h3 h4 (ih h')
 | opens h1 h2 h3 h4 h5 h6 =>
  generalize hm : ([] : List Goal) = m' at h'
  cases h' with
  | refl => exact hm ▸ .opens h1 h2 h3 h4 h5 h6
  | done => cases hm
  | doit => cases hm
  | opens => cases hm

theorem Steps.done1 {p : Plant} {g : Goal} {r : List Goal} (h : (nextOf g p.sense).2 = true) : Steps pre 1 p (g :: r) p r := .done h (.refl _ _)

theorem Steps.doit1 {p : Plant} {g : Goal} {r : List Goal} {c : Int} (h : nextOf g p.sense = (c, false)) (hm : may c p.sense = true) (h0 : p.stall = 0) (hc : c ≠ 111 := by decide) : Steps pre 1 p (g :: r) (p.act c) (g :: r) := .doit h hm hc h0 (.refl _ _)

theorem Steps.tail {k : Nat} {p q : Plant} {g : Goal} {r : List Goal} (h : Steps pre k p (g :: r) q []) (hd : (nextOf g p.sense).2 = true) : ∃ m, k = m + 1 ∧ Steps pre m p r q [] := by
 generalize hl : g :: r = l at h
 generalize hm : ([] : List Goal) = m at h
 cases h with
 | refl => subst hl; cases hm
 | done h1 h2 => cases hl; subst hm; exact ⟨_, rfl, h2⟩
 | doit h1 => cases hl; rw [h1] at hd; cases hd
 | opens h1 =>
  cases hl
  unfold nextOf once at hd
  simp [Plant.sense, h1] at hd

theorem runs_height (d : Nat) {p : Plant} (hp : p.Calm) {h : Int} (h1 : 0 ≤ h) (h2 : h ≤ p.levels * 3) (hd : (h - p.height).natAbs = d) (r : List Goal) : Steps pre (d + 1) p (⟨1, h⟩ :: r) (p.atH h) r := by
 induction d generalizing p with
 | zero =>
  have e : h = p.height := by omega
  rw [e, atH_self]
  refine Steps.done1 ?_
  unfold nextOf toward
  simp [Plant.sense]
 | succ d ih =>
  have b1 := hp.wf.ht1
  have b2 := hp.wf.ht2
  have hs : nextOf ⟨1, h⟩ p.sense = toward p.height h 117 100 := by unfold nextOf; rw [if_pos rfl]; rfl
  by_cases hlt : p.height < h
  ·have hs : nextOf ⟨1, h⟩ p.sense = (117, false) := by rw [hs]; unfold toward; rw [if_pos hlt]
   have s1 := Steps.doit1 (pre := pre) (r := r) hs (may_rise hp (Or.inl rfl)) hp.st
   rw [act_up hp (by omega)] at s1
   have s2 := ih (p := p.atH (p.height + 1)) (calm_atH hp (by omega) (by omega)) (by simp only [Plant.atH]; omega) (by simp only [Plant.atH]; omega)
   exact s1.trans s2
  ·have hs : nextOf ⟨1, h⟩ p.sense = (100, false) := by rw [hs]; unfold toward; rw [if_neg hlt, if_pos (by omega)]
   have s1 := Steps.doit1 (pre := pre) (r := r) hs (may_rise hp (Or.inr rfl)) hp.st
   rw [act_down hp (by omega)] at s1
   have s2 := ih (p := p.atH (p.height - 1)) (calm_atH hp (by omega) (by omega)) (by simp only [Plant.atH]; omega) (by simp only [Plant.atH]; omega)
   exact s1.trans s2

theorem runs_reach1 {p : Plant} (hp : p.Still) {e t : Int} (r : List Goal) (he : -2 ≤ t ∧ t ≤ 2) (hgo : (p.ext < e ∧ t = p.ext + 1) ∨ (e < p.ext ∧ t = p.ext - 1)) (hc : p.canE t) : Steps pre 1 p (⟨2, e⟩ :: r) (p.atE t) (⟨2, e⟩ :: r) := by
 have hs : nextOf ⟨2, e⟩ p.sense = toward p.ext e 114 108 := by unfold nextOf; rw [if_neg (by simp), if_pos rfl]; rfl
 rcases hgo with ⟨hl, rfl⟩ | ⟨hl, rfl⟩
 ·have := stretch_to hp (n := 1) (by omega) (by omega) hc
  have hs : nextOf ⟨2, e⟩ p.sense = (114, false) := by rw [hs]; unfold toward; rw [if_pos hl]
  have s1 := Steps.doit1 (pre := pre) (r := r) hs (by unfold may; exact this.2) hp.st
  rw [show p.act 114 = p.stretch 1 from rfl, this.1] at s1
  exact s1
 ·have := stretch_to hp (n := -1) (by omega) (by omega) hc
  have hs : nextOf ⟨2, e⟩ p.sense = (108, false) := by rw [hs]; unfold toward; rw [if_neg (by omega), if_pos hl]
  have s1 := Steps.doit1 (pre := pre) (r := r) hs (by unfold may; exact this.2) hp.st
  rw [show p.act 108 = p.stretch (-1) from rfl, this.1] at s1
  exact s1

theorem runs_reached {p : Plant} {e : Int} (r : List Goal) (h : p.ext = e) : Steps pre 1 p (⟨2, e⟩ :: r) p r := by
 refine Steps.done1 ?_
 have hs : nextOf ⟨2, e⟩ p.sense = toward p.ext e 114 108 := by unfold nextOf; rw [if_neg (by simp), if_pos rfl]; rfl
 rw [hs]
 unfold toward
 rw [if_neg (by omega), if_neg (by omega)]

theorem runs_back {p : Plant} (hp : p.Still) (hf : p.ext = -2 ∨ p.ext = 2 → p.canE (p.ext / 2)) (r : List Goal) :
  ∃ k, k ≤ 3 ∧ Steps pre k p (⟨2, 0⟩ :: r) (p.atE 0) r := by
 have e1 := hp.wf.ex1
 have e2 := hp.wf.ex2
 by_cases h0 : p.ext = 0
 ·refine ⟨1, by omega, ?_⟩
  have : p.atE 0 = p := by unfold Plant.atE; rw [← h0]
  rw [this]
  exact runs_reached r h0
 ·by_cases h2 : p.ext = -2 ∨ p.ext = 2
  ·have hc := hf h2
   refine ⟨3, by omega, ?_⟩
   have s1 : Steps pre 1 p (⟨2, 0⟩ :: r) (p.atE (p.ext / 2)) (⟨2, 0⟩ :: r) := runs_reach1 (pre := pre) hp r (by omega) (by omega) hc
   have s2 : Steps pre 1 (p.atE (p.ext / 2)) (⟨2, 0⟩ :: r) ((p.atE (p.ext / 2)).atE 0) (⟨2, 0⟩ :: r) :=
    runs_reach1 (pre := pre) (still_atE hp (by omega) (by omega)) r (by omega) (by simp only [Plant.atE]; omega) (Or.inl rfl)
   exact (s1.trans s2).trans (runs_reached r rfl)
  ·refine ⟨2, by omega, ?_⟩
   have s1 : Steps pre 1 p (⟨2, 0⟩ :: r) (p.atE 0) (⟨2, 0⟩ :: r) := runs_reach1 (pre := pre) hp r (by omega) (by omega) (Or.inl rfl)
   exact s1.trans (runs_reached r rfl)

theorem runs_shut {p : Plant} (hd : p.door = false) (r : List Goal) : Steps pre 1 p (⟨5, 0⟩ :: r) p r := by
 refine Steps.done1 ?_
 unfold nextOf once
 simp [Plant.sense, hd]

theorem runs_down {p : Plant} (hp : p.Calm) (r : List Goal) : ∃ n, n ≤ 17 ∧ Steps pre n p (ahead 0 ++ r) (p.atH 0) r := by
 have b1 := hp.wf.ht1
 have b2 := hp.wf.ht2
 have b3 := hp.wf.lv2
 have b4 := hp.wf.lv1
 obtain ⟨k1, hk1, s1⟩ := runs_back (pre := pre) (p := p) ⟨hp.wf, hp.hh, hp.st⟩ (by rw [hp.ex]; omega) (⟨5, 0⟩ :: ⟨1, 0⟩ :: r)
 have e0 : p.atE 0 = p := by unfold Plant.atE; rw [← hp.ex]
 rw [e0] at s1
 have s2 := runs_shut (pre := pre) (p := p) hp.dr (⟨1, 0⟩ :: r)
 have s3 := runs_height (pre := pre) _ hp (h := 0) (by omega) (by omega) rfl r
 refine ⟨_, ?_, (s1.trans s2).trans s3⟩
 omega

theorem welcome_runs {p : Plant} (hp : p.Calm) : ∃ n, n ≤ 25 ∧ Steps pre n p welcome (pre { p with height := 0, door := true }) [] := by
 obtain ⟨n1, hn1, s1⟩ := runs_down (pre := pre) hp [⟨6, 0⟩]
 have s4 : Steps pre 2 (p.atH 0) [⟨6, 0⟩] _ [] := .opens hp.dr rfl hp.ex hp.hh hp.pe hp.st
 exact ⟨_, by omega, s1.trans s4⟩

/-! ### a plan that begins with the shuttle anywhere, and the bay open or not -/

def Plant.calmly (p : Plant) : Plant := { p with ext := 0, door := false }

theorem calmly_calm {p : Plant} (hs : p.Safe) (hp : p.people = 0) (h0 : p.stall = 0) : (Plant.calmly p).Calm := by
 obtain ⟨a1, a2, a3, a4, a5, a6, a7, a8, a9, a10, a11, a12, a13, a14, a15, a16⟩ := hs.wf
 exact ⟨⟨a1, a2, a3, a4, (by decide : (-2 : Int) ≤ 0), (by decide : (0 : Int) ≤ 2), a7, a8, a9, a10, a11, a12, a13, a14, a15, a16⟩, hs.hh, rfl, rfl, hp, h0⟩

theorem calmly_runs {p : Plant} (hs : p.Safe) (hp : p.people = 0) (h0 : p.stall = 0) (hR : p.ext = 2 ∨ p.ext = -2 → p.lift ≠ 0 → p.full (p.ext / 2) = false) (r : List Goal) :
  ∃ k, k ≤ 5 ∧ Steps pre k p (⟨2, 0⟩ :: ⟨5, 0⟩ :: r) (Plant.calmly p) r := by
 obtain ⟨k, hk, s1⟩ := runs_back (pre := pre) (p := p) ⟨hs.wf, hs.hh, h0⟩ (by
  intro h
  refine Or.inr ⟨(hs.at_ (by omega)).1, (hs.at_ (by omega)).2, ?_⟩
  by_cases hl : p.lift = 0
  ·exact Or.inl hl
  ·exact Or.inr (hR h.symm hl)) (⟨5, 0⟩ :: r)
 cases hd : p.door with
 | false =>
  have e : p.atE 0 = Plant.calmly p := by unfold Plant.atE Plant.calmly; rw [← hd]
  rw [e] at s1
  exact ⟨_, by omega, s1.trans (runs_shut rfl r)⟩
 | true =>
  have g1 : nextOf ⟨5, 0⟩ (p.atE 0).sense = (99, false) := by unfold nextOf once; simp [Plant.sense, Plant.atE, hd]
  have s2 := Steps.doit1 (pre := pre) (r := r) g1 (by unfold may; simp [Plant.sense, Plant.atE, hp]) h0
  have ha : (p.atE 0).act 99 = Plant.calmly p := by
   show Plant.swing _ false = _
   unfold Plant.swing Plant.atE Plant.calmly
   simp [hs.hh, hp]
  rw [ha] at s2
  exact ⟨_, by omega, (s1.trans s2).trans (runs_shut rfl r)⟩

theorem begin_runs {p q : Plant} {r : List Goal} (hs : p.Safe) (hp : p.people = 0) (h0 : p.stall = 0) (hR : p.ext = 2 ∨ p.ext = -2 → p.lift ≠ 0 → p.full (p.ext / 2) = false) {n : Nat} (hn : n ≤ 25)
  (h : Steps pre n (Plant.calmly p) (⟨2, 0⟩ :: ⟨5, 0⟩ :: r) q []) : ∃ k, k ≤ 28 ∧ Steps pre k p (⟨2, 0⟩ :: ⟨5, 0⟩ :: r) q [] := by
 obtain ⟨k, hk, s1⟩ := calmly_runs (pre := pre) hs hp h0 hR r
 obtain ⟨m, e, h1⟩ := h.tail (by unfold nextOf toward; simp [Plant.sense, Plant.calmly])
 obtain ⟨m', e', h2⟩ := h1.tail (by unfold nextOf once; simp [Plant.sense, Plant.calmly])
 exact ⟨_, by omega, s1.trans h2⟩

/-! ### the same with things that stall -/

inductive Fin (pre : Plant → Plant) : Nat → Plant → List Goal → Plant → Prop
 | last {p q : Plant} {l : List Goal} : drive p l = (q, []) → Fin pre 1 p l q
 | more {m : Nat} {p p1 q : Plant} {l l1 : List Goal} : drive p l = (p1, l1) → l1 ≠ [] → Fin pre m (pre p1) l1 q → Fin pre (m + 1) p l q

theorem Fin.congr {p p' q : Plant} {l l' : List Goal} {m : Nat} (h : Fin pre m p l q) (e : drive p' l' = drive p l) : Fin pre m p' l' q := by
 cases h with
 | last h => exact .last (e.trans h)
 | more h1 h2 h3 => exact .more (e.trans h1) h2 h3

def Plant.stalls (p : Plant) (s : Nat) : Plant := { p with stall := s }

structure PreOK (pre : Plant → Plant) (K : Int → Prop) : Prop where
 quiet : ∀ p : Plant, p.people = 0 → (p.door = true → K p.bay) → pre p = p
 stall : ∀ (p : Plant) (s : Nat), pre (Plant.stalls p s) = Plant.stalls (pre p) s
 door : ∀ p : Plant, (pre p).door = p.door
 folk : ∀ p : Plant, p.WF → p.door = true → (pre p).people = 0 ∨ (pre p).people = p.people
 bay : ∀ p : Plant, p.door = true → K p.bay ∨ K (pre p).bay

end Live

end Ch

namespace Ch

namespace Live

/-! ### what is done from outside while all is settled -/

def waitsB (b : Book) (bay : Int) : Bool := b.jobs.any fun j => !j.fetch && (b.stay j.ticket).car.id == bay

def settled (b : Book) (p : Plant) : Plant :=
 if p.door = false then p else if p.bay ≠ 0 ∧ waitsB b p.bay = false then { p with people := 0, bay := 0 } else { p with people := 0 }

def QuietBay (b : Book) (bay : Int) : Prop := bay = 0 ∨ waitsB b bay = true

theorem settled_ok (b : Book) : PreOK (settled b) (QuietBay b) where
 quiet := by
  intro p hp hk
  unfold settled
  by_cases hd : p.door = false
  ·rw [if_pos hd]
  ·rw [if_neg hd, if_neg]
   ·rw [← hp]
   ·rintro ⟨h1, h2⟩
    rcases hk (by simpa using hd) with k | k
    ·exact h1 k
    ·rw [k] at h2; cases h2
 stall := by
  intro p s
  unfold settled
  by_cases hd : p.door = false
  ·rw [if_pos hd, if_pos (show (Plant.stalls p s).door = false from hd)]
  ·rw [if_neg hd, if_neg (show ¬ (Plant.stalls p s).door = false from hd)]
   by_cases hb : p.bay ≠ 0 ∧ waitsB b p.bay = false
   ·rw [if_pos hb, if_pos (show (Plant.stalls p s).bay ≠ 0 ∧ waitsB b (Plant.stalls p s).bay = false from hb)]; rfl
   ·rw [if_neg hb, if_neg (show ¬ ((Plant.stalls p s).bay ≠ 0 ∧ waitsB b (Plant.stalls p s).bay = false) from hb)]; rfl
 door := by
  intro p
  unfold settled
  split
  ·rfl
  ·split <;> rfl
 folk := by
  intro p _ hd
  unfold settled
  rw [if_neg (by simp [hd])]
  split <;> exact Or.inl rfl
 bay := by
  intro p hd
  unfold settled QuietBay
  rw [if_neg (by simp [hd])]
  split
  ·exact Or.inr (Or.inl rfl)
  ·rename_i h
   left
   by_cases h0 : p.bay = 0
   ·exact Or.inl h0
   ·right
    cases hw : waitsB b p.bay
    ·exact absurd ⟨h0, hw⟩ h
    ·rfl

theorem settled_wf {b : Book} {p : Plant} (h : p.WF) : (settled b p).WF := by
 obtain ⟨a1, a2, a3, a4, a5, a6, a7, a8, a9, a10, a11, a12, a13, a14, a15, a16⟩ := h
 unfold settled
 split
 ·exact ⟨a1, a2, a3, a4, a5, a6, a7, a8, a9, a10, a11, a12, a13, a14, a15, a16⟩
 ·split
  ·exact ⟨a1, a2, a3, a4, a5, a6, Int.le_refl 0, (by decide : (0 : Int) ≤ 9), a9, a10, a11, a12, Int.le_refl 0, (by decide : (0 : Int) ≤ 999), a15, a16⟩
  ·exact ⟨a1, a2, a3, a4, a5, a6, Int.le_refl 0, (by decide : (0 : Int) ≤ 9), a9, a10, a11, a12, a13, a14, a15, a16⟩

theorem steps_wf {pre : Plant → Plant} (hpre : ∀ p : Plant, p.WF → (pre p).WF) {k : Nat} {p q : Plant} {l m : List Goal} (h : Steps pre k p l q m) : p.WF → q.WF := by
 induction h with
 | refl => exact id
 | done _ _ ih => exact ih
 | doit _ _ _ _ _ ih => exact fun hp => ih (hp.act _)
 | opens =>
  intro hp
  obtain ⟨a1, a2, a3, a4, a5, a6, a7, a8, a9, a10, a11, a12, a13, a14, a15, a16⟩ := hp
  exact hpre _ ⟨a1, a2, a3, a4, a5, a6, a7, a8, a9, a10, a11, a12, a13, a14, a15, a16⟩

/-! ### where a car is -/

theorem has_iff' {p : Plant} (hp : p.WF) {id : Int} (h : id ≠ 0) : p.has id = true ↔ (∃ y, p.slots y = id) ∨ p.lift = id ∨ p.bay = id := by
 constructor
 ·intro hh
  apply Classical.byContradiction
  intro hc
  have : id ∉ p.cars := by
   rw [← List.count_eq_zero, count_cars, if_neg h]
   have h1 : ¬ p.lift = id := fun e => hc (Or.inr (Or.inl e))
   have h2 : ¬ p.bay = id := fun e => hc (Or.inr (Or.inr e))
   rw [if_neg h1, if_neg h2]
   have h3 : ((allPlaces 4).map p.slots).count id = 0 := by
    rw [List.count_eq_zero]
    intro hm
    obtain ⟨y, _, hy⟩ := List.mem_map.1 hm
    exact hc (Or.inl ⟨y, hy⟩)
   omega
  exact this ((has_iff hp h).1 hh)
 ·intro hh
  rw [has_iff hp h, ← List.count_pos_iff, count_cars, if_neg h]
  rcases hh with ⟨y, hy⟩ | e | e
  ·have hm : y ∈ allPlaces 4 := slots_mem hp (by rw [hy]; exact h)
   have : 0 < ((allPlaces 4).map p.slots).count id := List.count_pos_iff.2 (List.mem_map.2 ⟨y, hm, hy⟩)
   omega
  ·rw [if_pos e]; omega
  ·rw [if_pos e]; omega

/-! ### how much is left to be done -/

def over (b : Book) (p : Plant) (j : Job) : Bool := p.bay == (b.stay j.ticket).car.id || !p.has (b.stay j.ticket).car.id

def ovB (b : Book) (p : Plant) : Bool := match firstJob b p.bay with | some j => j.fetch && over b p j | none => false

def blockB (b : Book) (p : Plant) (x : Stay) : Bool := match firstJob b p.bay with | some j => blocks b p x j | none => false

def giveB (b : Book) (p : Plant) (x : Stay) : Bool := match firstJob b p.bay with | some j => j.fetch && j.ticket == x.ticket && p.bay == 0 | none => false

def spareB (b : Book) (n : Int) (p : Plant) : Bool := match b.of (p.slots (spare n)) with | some x => blockB b p x | none => false

def frontFull (p : Plant) (id : Int) : Bool := match p.where_ id with | some z => decide (z.depth = 1 ∧ p.slots (front z) ≠ 0) | none => false

def pot (b : Book) (n : Int) (p : Plant) : Nat :=
 if p.lift ≠ 0 then
  if p.slots (spare n) ≠ 0 then 3
  else match b.of p.lift with
   | none => 8
   | some x =>
    if giveB b p x then 1
    else if blockB b p x then 5 + (if p.bay ≠ 0 then 2 else 0)
    else if ovB b p then 1
    else 7 + (if p.bay ≠ 0 then 2 else 0)
 else if p.slots (spare n) ≠ 0 then
  if spareB b n p then 4 + (if p.bay ≠ 0 then 2 else if p.door then 1 else 0)
  else if ovB b p then 2 else 10
 else match firstJob b p.bay with
  | none => if p.door then 0 else 1
  | some j =>
   if j.fetch then
    if over b p j then 0 else if p.bay ≠ 0 then 8 else if p.door then 7 else if frontFull p (b.stay j.ticket).car.id then 6 else 2
   else if p.bay = (b.stay j.ticket).car.id then 8 else 0

theorem first_id {n : Int} {b : Book} {p : Plant} (h : Core n b p) {bay : Int} {j : Job} (hj : firstJob b bay = some j) : (b.stay j.ticket).car.id ≠ 0 := by
 have := h.id_pos (stay_of h.book (first_mem hj).1).1
 omega

theorem pot_low {n : Int} {b : Book} {p : Plant} (h : Core n b p) {q : Plant} (hl : q.lift = 0) (hs : q.slots (spare n) = 0) : pot b n q ≤ 8 ∧ (q.bay = 0 → pot b n q ≤ 7) ∧ (q.bay = 0 → q.door = false → pot b n q ≤ 6) := by
 unfold pot
 rw [if_neg (by simp [hl]), if_neg (by simp [hs])]
 cases hj : firstJob b q.bay with
 | none => dsimp only; split <;> omega
 | some j =>
  have := first_id h hj
  dsimp only
  refine ⟨?_, ?_, ?_⟩
  ·repeat' split
   all_goals omega
  ·intro hb
   rw [hb]
   repeat' split
   all_goals first | omega | (exfalso; omega)
  ·intro hb hd
   rw [hb, hd]
   repeat' split
   all_goals first | omega | (exfalso; omega) | (rename_i c; cases c)

/-! ### the plans -/

theorem go_welcome {n : Int} {b : Book} {p : Plant} (h : Core n b p) (hp : p.people = 0) (h0 : p.stall = 0) {pre : Plant → Plant} :
  ∃ k, k ≤ 28 ∧ Steps pre k p welcome (pre { Plant.calmly p with height := 0, door := true }) [] := by
 obtain ⟨k, hk, s⟩ := welcome_runs (pre := pre) (calmly_calm h.safe hp h0)
 exact begin_runs h.safe hp h0 h.R hk s

theorem go_shut {n : Int} {b : Book} {p : Plant} (h : Core n b p) (hp : p.people = 0) (h0 : p.stall = 0) {pre : Plant → Plant} (hd : p.door = true) :
  ∃ k, k ≤ 28 ∧ Steps pre k p [⟨5, 0⟩] { p with door := false } [] := by
 have g1 : nextOf ⟨5, 0⟩ p.sense = (99, false) := by unfold nextOf once; simp [Plant.sense, hd]
 have s2 := Steps.doit1 (pre := pre) (r := []) g1 (by unfold may; simp [Plant.sense, hp]) h0
 have ha : p.act 99 = { p with door := false } := by
  show Plant.swing _ false = _
  unfold Plant.swing
  simp [h.safe.hh, hp]
 rw [ha] at s2
 exact ⟨_, by omega, s2.trans (runs_shut rfl [])⟩

theorem settled_out {b : Book} {p : Plant} (hd : p.door = true) (hw : p.bay ≠ 0 → waitsB b p.bay = false) : (settled b p).bay = 0 := by
 unfold settled
 rw [if_neg (by simp [hd])]
 by_cases h : p.bay = 0
 ·rw [if_neg (fun k => k.1 h)]; exact h
 ·rw [if_pos ⟨h, hw h⟩]

theorem settled_rest (b : Book) (p : Plant) : (settled b p).lift = p.lift ∧ (settled b p).slots = p.slots ∧ (settled b p).door = p.door ∧ (settled b p).levels = p.levels := by
 unfold settled
 split
 ·exact ⟨rfl, rfl, rfl, rfl⟩
 ·split <;> exact ⟨rfl, rfl, rfl, rfl⟩

theorem first_wait {b : Book} {bay : Int} {j : Job} (h : firstJob b bay = some j) (hf : j.fetch = true) : waitsB b bay = false := by
 unfold firstJob at h
 split at h
 ·rename_i i hi
  cases h
  have := List.find?_some hi
  rw [hf] at this
  cases this
 ·rename_i hi
  rw [List.find?_eq_none] at hi
  unfold waitsB
  rw [List.any_eq_false]
  exact hi

theorem first_none {b : Book} {bay : Int} (h : firstJob b bay = none) : b.jobs = [] := by
 unfold firstJob at h
 split at h
 ·cases h
 ·simpa using h

def Ends (n : Int) (b : Book) (p : Plant) (l : List Goal) : Prop :=
 ∃ k q, k ≤ 28 ∧ Steps (settled b) k p l q [] ∧ pot b n q < pot b n p ∧ q.people = 0 ∧ (q.door = true → QuietBay b q.bay) ∧ (q.door = true → q.lift = 0 → b.jobs = [] → q.slots (spare n) = 0)

end Live

end Ch

namespace Ch

namespace Live

theorem ends_shut {n : Int} {b : Book} {p q : Plant} {l : List Goal} (hs : ∃ k, k ≤ 28 ∧ Steps (settled b) k p l q []) (hd : q.door = false) (hp : q.people = 0) (hpot : pot b n q < pot b n p) : Ends n b p l := by
 obtain ⟨k, hk, s⟩ := hs
 exact ⟨k, q, hk, s, hpot, hp, (fun h => by rw [hd] at h; cases h), (fun h => by rw [hd] at h; cases h)⟩

theorem ends_open {n : Int} {b : Book} {p q : Plant} {l : List Goal} (hs : ∃ k, k ≤ 28 ∧ Steps (settled b) k p l (settled b q) []) (hp : q.people = 0) (hd : q.door = true) (hpot : pot b n (settled b q) < pot b n p)
  (hsp : b.jobs = [] → q.slots (spare n) = 0) : Ends n b p l := by
 obtain ⟨k, hk, s⟩ := hs
 refine ⟨k, _, hk, s, hpot, ?_, ?_, ?_⟩
 ·unfold settled
  rw [if_neg (by simp [hd])]
  split <;> rfl
 ·intro _
  unfold settled QuietBay
  rw [if_neg (by simp [hd])]
  split
  ·exact Or.inl rfl
  ·rename_i h
   by_cases h0 : q.bay = 0
   ·exact Or.inl h0
   ·right
    cases hw : waitsB b q.bay
    ·exact absurd ⟨h0, hw⟩ h
    ·rfl
 ·intro _ _ hj
  rw [(settled_rest b q).2.1]
  exact hsp hj

end Live

end Ch

namespace Ch

namespace Live

theorem first0 {n : Int} {b : Book} {p : Plant} (h : Core n b p) : firstJob b 0 = b.jobs.head? := by
 unfold firstJob
 cases hf : b.jobs.find? (fun j => !j.fetch && (b.stay j.ticket).car.id == 0) with
 | none => rfl
 | some j =>
  have h1 := List.find?_some hf
  have hm := List.mem_of_find?_eq_some hf
  have hs := (stay_of h.book hm).1
  have := h.id_pos hs
  simp at h1
  omega

theorem spareB_iff {n : Int} {b : Book} {p : Plant} : spareB b n p = true ↔ ∃ y ∈ firstJob b p.bay, ∃ x ∈ b.of (p.slots (spare n)), blocks b p x y = true := by
 unfold spareB blockB
 cases b.of (p.slots (spare n)) with
 | none => simp
 | some x =>
  cases firstJob b p.bay with
  | none => simp
  | some j => simp

theorem turn_empty {n : Int} {b : Book} {p : Plant} (hl : p.lift = 0) (hsp : p.slots (spare n) = 0 ∨ spareB b n p = true) :
  turnOf b n p = (match firstJob b p.bay with | some j => jobOf b p j | none => if p.door then ([], none) else (welcome, none)) := by
 unfold turnOf
 rw [if_neg (by simp [hl])]
 dsimp only
 have hno : ¬ (p.slots (spare n) ≠ 0 ∧ ¬ (∃ y ∈ firstJob b p.bay, ∃ x ∈ b.of (p.slots (spare n)), blocks b p x y = true)) := by
  rintro ⟨h1, h2⟩
  rcases hsp with h | h
  ·exact h1 h
  ·exact h2 (spareB_iff.1 h)
 rw [if_neg hno]
 cases firstJob b p.bay <;> rfl

structure Wants (n : Int) (b : Book) (p : Plant) (j : Job) : Prop where
 core : Core n b p
 folk : p.people = 0
 still : p.stall = 0
 lift : p.lift = 0
 first : firstJob b p.bay = some j
 fetch : j.fetch = true
 over : over b p j = false
 spare : p.slots (Ch.spare n) = 0 ∨ spareB b n p = true

theorem Wants.stay {n : Int} {b : Book} {p : Plant} {j : Job} (h : Wants n b p j) : b.stay j.ticket ∈ b.stays ∧ (b.stay j.ticket).ticket = j.ticket := stay_of h.core.book (first_mem h.first).1

theorem Wants.has {n : Int} {b : Book} {p : Plant} {j : Job} (h : Wants n b p j) : p.bay ≠ (b.stay j.ticket).car.id ∧ p.has (b.stay j.ticket).car.id = true := by
 have := h.over
 unfold Live.over at this
 simpa using this

theorem Wants.in_slot {n : Int} {b : Book} {p : Plant} {j : Job} (h : Wants n b p j) : ∃ y, p.slots y = (b.stay j.ticket).car.id := by
 have hid := first_id h.core h.first
 rcases (has_iff' h.core.safe.wf hid).1 h.has.2 with k | k | k
 ·exact k
 ·rw [h.lift] at k; exact absurd k.symm hid
 ·exact absurd k h.has.1

theorem Wants.pot {n : Int} {b : Book} {p : Plant} {j : Job} (h : Wants n b p j) : pot b n p =
  if p.slots (Ch.spare n) ≠ 0 then 4 + (if p.bay ≠ 0 then 2 else if p.door then 1 else 0) else if p.bay ≠ 0 then 8 else if p.door then 7 else if frontFull p (b.stay j.ticket).car.id then 6 else 2 := by
 unfold Live.pot
 rw [if_neg (by simp [h.lift])]
 by_cases hsp : p.slots (Ch.spare n) ≠ 0
 ·rw [if_pos hsp, if_pos hsp]
  rcases h.spare with k | k
  ·exact absurd k hsp
  ·rw [if_pos k]
 ·rw [if_neg hsp, if_neg hsp, h.first]
  dsimp only
  rw [if_pos h.fetch, h.over]
  simp

theorem Wants.welcome {n : Int} {b : Book} {p : Plant} {j : Job} (h : Wants n b p j) (hb : p.bay ≠ 0) : Ends n b p Ch.welcome := by
 have hs := go_welcome (pre := settled b) h.core h.folk h.still
 have hid := first_id h.core h.first
 generalize hq : ({ Plant.calmly p with height := 0, door := true } : Plant) = q at hs
 have q1 : q.lift = 0 := by rw [← hq]; exact h.lift
 have q2 : q.bay = p.bay := by rw [← hq]; rfl
 have q3 : q.door = true := by rw [← hq]
 have q4 : q.slots = p.slots := by rw [← hq]; rfl
 have q5 : q.people = 0 := by rw [← hq]; exact h.folk
 obtain ⟨t1, t2, t3, t4⟩ := settled_rest b q
 have t5 : (settled b q).bay = 0 := settled_out q3 fun _ => by rw [q2]; exact first_wait h.first h.fetch
 have hw : (settled b q).WF := by
  obtain ⟨k, _, s⟩ := hs
  exact steps_wf (fun _ => settled_wf) s h.core.safe.wf
 have hf : firstJob b (settled b q).bay = some j := by rw [t5, first0 h.core]; exact fetch_head h.first h.fetch
 have hov : Live.over b (settled b q) j = false := by
  unfold Live.over
  obtain ⟨y, hy⟩ := h.in_slot
  have : (settled b q).has (b.stay j.ticket).car.id = true := (has_iff' hw hid).2 (Or.inl ⟨y, by rw [t2, q4]; exact hy⟩)
  rw [this, t5]
  simpa using fun e => hid e.symm
 refine ends_open hs q5 q3 ?_ (fun e => by have := (first_mem h.first).1; rw [e] at this; cases this)
 have hsb : (settled b q).slots (Ch.spare n) = 0 ∨ spareB b n (settled b q) = true := by
  rw [t2, q4]
  refine h.spare.imp id fun k => ?_
  unfold spareB blockB at k ⊢
  rw [t2, q4, hf]
  rw [h.first] at k
  cases ho : b.of (p.slots (Ch.spare n)) with
  | none => rw [ho] at k; exact k
  | some x =>
   rw [ho] at k
   dsimp only at k ⊢
   unfold blocks at k ⊢
   rw [t2, q4]
   exact k
 have hsl : (settled b q).slots (Ch.spare n) = p.slots (Ch.spare n) := by rw [t2, q4]
 rw [h.pot]
 by_cases hsp : p.slots (Ch.spare n) = 0
 ·have e1 : Live.pot b n (settled b q) = 7 := by
   unfold Live.pot
   rw [if_neg (by simp [t1, q1]), if_neg (by rw [hsl]; simp [hsp]), hf, t5, t3, q3]
   dsimp only
   rw [hov, h.fetch]
   simp
  rw [e1, if_neg (by simp [hsp]), if_pos hb]
  omega
 ·have e1 : Live.pot b n (settled b q) = 5 := by
   unfold Live.pot
   rw [if_neg (by simp [t1, q1]), if_pos (by rw [hsl]; exact hsp), if_pos (hsb.resolve_left (by rw [hsl]; exact hsp)), t5, t3, q3]
   simp
  rw [e1, if_pos hsp, if_pos hb]
  omega

theorem Wants.shut {n : Int} {b : Book} {p : Plant} {j : Job} (h : Wants n b p j) (hb : p.bay = 0) (hd : p.door = true) : Ends n b p [⟨5, 0⟩] := by
 refine ends_shut (go_shut h.core h.folk h.still hd) rfl h.folk ?_
 rw [h.pot]
 by_cases hsp : p.slots (Ch.spare n) = 0
 ·rw [if_neg (by simp [hsp]), if_neg (by simp [hb]), if_pos hd]
  have := (pot_low h.core (q := { p with door := false }) h.lift hsp).2.2 hb rfl
  omega
 ·rw [if_pos hsp, if_neg (by simp [hb]), if_pos hd]
  have hk := h.spare.resolve_left hsp
  have : Live.pot b n { p with door := false } = 4 + 0 := by
   unfold Live.pot
   rw [if_neg (by simp [h.lift]), if_pos (by exact hsp), if_pos (show spareB b n { p with door := false } = true from hk)]
   simp [hb]
  omega

theorem Wants.place {n : Int} {b : Book} {p : Plant} {j : Job} (h : Wants n b p j) {z : Place} (hz : p.where_ (b.stay j.ticket).car.id = some z) :
  placeFault z n = 0 ∧ p.slots z = (b.stay j.ticket).car.id ∧ z = (b.stay j.ticket).home := by
 obtain ⟨w1, w2, w3⟩ := where_some hz
 rw [h.core.ln] at w3
 refine ⟨w3, w2, ?_⟩
 have hid := first_id h.core h.first
 rcases h.spare with k | k
 ·obtain ⟨s, hs, e, hh⟩ := h.core.slots z (by rw [w2]; exact w1)
  have : s = b.stay j.ticket := id_inj h.core.book.stays hs h.stay.1 (by rw [e, w2])
  subst this
  rcases hh with hh | hh
  ·exact hh
  ·rw [hh, k] at w2; exact absurd w2.symm w1
 ·obtain ⟨y, hy, x, hx, hb⟩ := spareB_iff.1 k
  rw [h.first] at hy
  cases hy
  unfold blocks at hb
  simp only [Bool.and_eq_true, beq_iff_eq] at hb
  exact slots_inj h.core.safe.wf h.core.nodup (by rw [w2]; exact w1) (by rw [w2, hb.2])

structure Rested (n : Int) (b : Book) (p : Plant) : Prop where
 lift : p.lift = 0
 spare : p.slots (spare n) = 0
 jobs : b.jobs = []
 door : p.door = true

end Live

end Ch

namespace Ch

namespace Live

/-! ### goals that may be: their numbers are such as there are -/

def GV (n : Int) (g : Goal) : Prop := (g.kind = 1 → 0 ≤ g.n ∧ g.n ≤ n * 3) ∧ (g.kind = 2 → -2 ≤ g.n ∧ g.n ≤ 2)

theorem gv_ahead {n h : Int} (h1 : 0 ≤ h) (h2 : h ≤ n * 3) : ∀ g ∈ ahead h, GV n g := by
 intro g hg
 unfold ahead at hg
 simp only [List.mem_cons, List.not_mem_nil, or_false] at hg
 unfold GV
 rcases hg with rfl | rfl | rfl <;> simp <;> omega

theorem gv_there {n : Int} {x : Place} (hx : placeFault x n = 0) {k : Int} (hk : k = 3 ∨ k = 4) : ∀ g ∈ there x k, GV n g := by
 have hx' := placeFault_iff.1 hx
 intro g hg
 unfold there at hg
 rcases List.mem_append.1 hg with hg | hg
 ·exact gv_ahead (by omega) (by omega) g hg
 ·simp only [List.mem_cons, List.not_mem_nil, or_false] at hg
  have he : -2 ≤ extOf x ∧ extOf x ≤ 2 := by unfold extOf; split <;> omega
  unfold GV
  rcases hg with rfl | rfl | rfl
  ·simp; omega
  ·rcases hk with rfl | rfl <;> simp
  ·simp

theorem gv_down {n : Int} (hn : 1 ≤ n) {l : List Goal} (hl : ∀ g ∈ l, g.kind ≠ 1 ∧ g.kind ≠ 2) : ∀ g ∈ ahead 0 ++ l, GV n g := by
 intro g hg
 rcases List.mem_append.1 hg with hg | hg
 ·exact gv_ahead (by omega) (by omega) g hg
 ·exact ⟨fun h => absurd h (hl g hg).1, fun h => absurd h (hl g hg).2⟩

theorem gv_takeIn {n : Int} (hn : 1 ≤ n) : ∀ g ∈ takeIn, GV n g := gv_down hn (by simp)

theorem gv_giveOut {n : Int} (hn : 1 ≤ n) : ∀ g ∈ giveOut, GV n g := gv_down hn (by simp)

theorem gv_welcome {n : Int} (hn : 1 ≤ n) : ∀ g ∈ welcome, GV n g := gv_down hn (by simp)

theorem gv_nil {n : Int} : ∀ g ∈ ([] : List Goal), GV n g := fun _ h => by cases h

theorem gv_shut {n : Int} : ∀ g ∈ ([⟨5, 0⟩] : List Goal), GV n g := fun g h => by simp at h; subst h; simp [GV]

theorem turn_valid {n : Int} {b : Book} {p : Plant} (h : Core n b p) : ∀ g ∈ (turnOf b n p).1, GV n g := by
 have hn1 : 1 ≤ n := by have := h.safe.wf.lv1; rw [h.ln] at this; exact this
 unfold turnOf
 split
 ·unfold loaded
  split
  ·exact gv_giveOut hn1
  ·rename_i x ho
   have hx := (of_some ho).1
   split
   ·split
    ·exact gv_giveOut hn1
    ·split
     ·exact gv_there (spare_ok hn1) (Or.inr rfl)
     ·exact gv_there (h.place hx).1 (Or.inr rfl)
   ·split
    ·exact gv_there (spare_ok hn1) (Or.inr rfl)
    ·exact gv_there (h.place hx).1 (Or.inr rfl)
 ·dsimp only
  split
  ·exact gv_there (spare_ok hn1) (Or.inl rfl)
  ·split
   ·unfold jobOf
    split
    ·split
     ·exact gv_nil
     ·unfold fetchOf
      split
      ·exact gv_nil
      ·split
       ·exact gv_nil
       ·split
        ·exact gv_welcome hn1
        ·split
         ·exact gv_shut
         ·split
          ·rename_i y hy
           have hy3 := (where_some hy).2.2
           rw [h.ln] at hy3
           split
           ·exact gv_there (front_ok hy3) (Or.inl rfl)
           ·exact gv_there hy3 (Or.inl rfl)
          ·exact gv_nil
    ·split
     ·exact gv_nil
     ·unfold storeOf
      split
      ·exact gv_nil
      ·split
       ·exact gv_takeIn hn1
       ·split <;> exact gv_nil
   ·split
    ·exact gv_nil
    ·exact gv_welcome hn1

theorem drive_suffix (p : Plant) : ∀ l : List Goal, ∀ g ∈ (drive p l).2, g ∈ l
 | [], _, h => h
 | a :: r, g, h => by
  unfold drive at h
  split at h
  ·exact List.mem_cons_of_mem _ (drive_suffix p r g h)
  ·split at h
   ·exact h
   ·cases h

structure House.Inv2 (h : House) : Prop where
 inv : h.Inv'
 gv : ∀ g ∈ h.goals, GV h.n g

theorem House.Inv2.new {sizes : List Size} (h : levelsFault sizes = 0) : House.Inv2 (House.new sizes) := ⟨Ch.House.Inv'.new h, fun _ h => by cases h⟩

theorem tick_goals {h : House} (hi : h.Inv') (hv : ∀ g ∈ h.goals, GV h.n g) : ∀ g ∈ h.tick.goals, GV h.n g := by
 unfold House.tick
 split
 ·have ht := turn_valid hi.core
  split
  ·exact hv
  ·rename_i l e
   rw [e] at ht
   intro g hg
   exact ht g (drive_suffix _ _ g hg)
 ·intro g hg
  exact hv g (drive_suffix _ _ g hg)

theorem tick_n (h : House) : h.tick.n = h.n := by
 unfold House.tick
 split
 ·split <;> rfl
 ·rfl

theorem House.Inv2.tick {h : House} (hi : House.Inv2 h) : House.Inv2 h.tick :=
 ⟨hi.inv.tick, fun g hg => by rw [tick_n]; exact tick_goals hi.inv hi.gv g hg⟩

theorem House.Inv2.ticks {h : House} (hi : House.Inv2 h) (n : Nat) : House.Inv2 (House.ticks n h) := by
 induction n generalizing h with
 | zero => exact hi
 | succ n ih => exact ih hi.tick

theorem park_same (h : House) (c : Car) : (h.park c).1.n = h.n ∧ (h.park c).1.goals = h.goals := by
 unfold House.park
 split
 ·exact ⟨rfl, rfl⟩
 ·split <;> exact ⟨rfl, rfl⟩

theorem want_same (h : House) (t : Int) : (h.want t).1.n = h.n ∧ (h.want t).1.goals = h.goals := by
 unfold House.want
 split <;> exact ⟨rfl, rfl⟩

theorem House.Inv2.park {h : House} (hi : House.Inv2 h) (c : Car) : House.Inv2 (h.park c).1 :=
 ⟨hi.inv.park c, by rw [(park_same h c).1, (park_same h c).2]; exact hi.gv⟩

theorem House.Inv2.want {h : House} (hi : House.Inv2 h) (t : Int) : House.Inv2 (h.want t).1 :=
 ⟨hi.inv.want t, by rw [(want_same h t).1, (want_same h t).2]; exact hi.gv⟩

theorem House.Inv2.play {h : House} (hi : House.Inv2 h) (a : Act) : House.Inv2 (h.play a) := by
 refine ⟨hi.inv.play a, ?_⟩
 unfold House.play
 split
 ·exact (hi.park _).gv
 ·split
  ·exact (hi.want _).gv
  ·split
   ·exact gv_nil
   ·split
    ·exact hi.gv
    ·exact (hi.ticks _).gv

/-! ### a house that is left alone -/

def House.pre (h : House) : House :=
 { h with p := if h.p.door = true ∧ h.p.bay ≠ 0 ∧ waitsB h.b h.p.bay = false then (if h.p.door = true then (h.p.walk (-9)).1 else h.p).leave.1 else (if h.p.door = true then (h.p.walk (-9)).1 else h.p) }

def House.quits (h : House) (i : Nat) : Bool := h.p.door && h.p.bay == 0 && h.p.lift == 0 && h.b.jobs.isEmpty && h.goals.isEmpty && decide (100 < i)

def settleN : Nat → Nat → House → House
 | 0, _, h => h
 | n + 1, i, h => if House.quits h i then House.pre h else settleN n (i + 1) (House.pre h).tick

def House.settle (h : House) : House := settleN 2500 0 h

theorem pre_p {h : House} (hw : h.p.WF) : (House.pre h).p = settled h.b h.p := by
 unfold House.pre settled
 dsimp only
 cases hd : h.p.door with
 | false => simp
 | true =>
  have h1 := hw.pe1
  have h2 := hw.pe2
  have hwk : (h.p.walk (-9)).1 = { h.p with people := 0 } := by
   unfold Plant.walk
   rw [if_neg (by omega), if_neg (by simp [hd])]
   dsimp only
   congr 1
   unfold clamp
   omega
  rw [hwk]
  simp only [if_true, true_and]
  by_cases hb : h.p.bay ≠ 0 ∧ waitsB h.b h.p.bay = false
  ·rw [if_pos hb, if_neg (by simp), if_pos hb]
   unfold Plant.leave
   dsimp only
   rw [if_neg (by simp [hd, hb.1])]
   simp [hd]
  ·rw [if_neg hb, if_neg (by simp), if_neg hb]
   simp [hd]

theorem Inv'.pre {h : House} (hi : h.Inv') : (House.pre h).Inv' := by
 have hk : ∀ q : Plant, Core h.n h.b q → GoalsOK h.n h.b q h.goals → Core h.n h.b q.leave.1 ∧ GoalsOK h.n h.b q.leave.1 h.goals := fun q hc hg => by
  have := outside_ok hc hg ⟨kLeave, 0, 0, default, ⟨#[]⟩, 0, ⟨0, [], []⟩⟩ (show kLeave ≠ kStep by decide)
  have e : q.outside ⟨kLeave, 0, 0, default, ⟨#[]⟩, 0, ⟨0, [], []⟩⟩ = q.leave.1 := rfl
  rw [e] at this
  exact this
 have hw : Core h.n h.b (if h.p.door = true then (h.p.walk (-9)).1 else h.p) ∧ GoalsOK h.n h.b (if h.p.door = true then (h.p.walk (-9)).1 else h.p) h.goals := by
  split
  ·exact ⟨hi.core.walk _, hi.goals.walk _⟩
  ·exact ⟨hi.core, hi.goals⟩
 have : Core h.n h.b (House.pre h).p ∧ GoalsOK h.n h.b (House.pre h).p h.goals := by
  unfold House.pre
  dsimp only
  split
  ·exact hk _ hw.1 hw.2
  ·exact hw
 exact ⟨hi.lv, this.1, hi.fit, this.2⟩

theorem Inv2.pre {h : House} (hi : House.Inv2 h) : House.Inv2 (House.pre h) := ⟨Inv'.pre hi.inv, hi.gv⟩

structure House.Rest (h : House) : Prop where
 inv : House.Inv2 h
 goals : h.goals = []
 lift : h.p.lift = 0
 spare : h.p.slots (spare h.n) = 0
 jobs : h.b.jobs = []
 door : h.p.door = true
 bay : h.p.bay = 0
 folk : h.p.people = 0

theorem turn_rest {n : Int} {b : Book} {p : Plant} (h1 : p.lift = 0) (h2 : p.slots (spare n) = 0) (h3 : b.jobs = []) (h4 : p.door = true) : turnOf b n p = ([], none) := by
 rw [turn_empty h1 (Or.inl h2)]
 have : firstJob b p.bay = none := by unfold firstJob; rw [h3]; rfl
 rw [this, h4]
 rfl

theorem rest_tick {h : House} (h0 : h.goals = []) (h1 : h.p.lift = 0) (h2 : h.p.slots (spare h.n) = 0) (h3 : h.b.jobs = []) (h4 : h.p.door = true) : h.tick = h := by
 unfold House.tick
 rw [if_pos h0, turn_rest h1 h2 h3 h4]
 dsimp only
 unfold House.go drive
 rw [← h0]

theorem House.Rest.tick {h : House} (hr : House.Rest h) : h.tick = h := rest_tick hr.goals hr.lift hr.spare hr.jobs hr.door

theorem House.Rest.pre {h : House} (hr : House.Rest h) : House.pre h = h := by
 have e : (House.pre h).p = h.p := by
  rw [pre_p hr.inv.inv.core.safe.wf]
  exact (settled_ok h.b).quiet _ hr.folk fun _ => Or.inl hr.bay
 have : House.pre h = { h with p := (House.pre h).p } := rfl
 rw [this, e]

def Good (h : House) : Prop := h.p.door = true → h.p.lift = 0 → h.b.jobs = [] → h.p.slots (spare h.n) = 0

/-! ### goals that are left: they come to their end, or are dropped -/

def gcost (g : Goal) : Nat := if g.kind = 1 then 12 else if g.kind = 2 then 4 else 1

def cur (p : Plant) (g : Goal) : Nat := if g.kind = 1 then (p.height - g.n).natAbs else if g.kind = 2 then (p.ext - g.n).natAbs else if (nextOf g p.sense).2 then 0 else 1

def total (l : List Goal) : Nat := (l.map gcost).sum

theorem total_le {n : Int} {b : Book} {p : Plant} {l : List Goal} (h : GoalsOK n b p l) : total l ≤ 26 := by
  have hs : ∀ {a c : List Goal}, a <:+ c → total a ≤ total c := fun {a c} ⟨t, e⟩ => by
    subst e
    unfold total
    rw [List.map_append, List.sum_append]
    omega
  cases h with
  | nil => decide
  | back => decide
  | shut => decide
  | welcome _ h1 _ => have := hs h1; have e : total Ch.welcome = 18 := by decide
                      omega
  | takeIn _ h1 _ => have := hs h1; have e : total Ch.takeIn = 18 := by decide
                     omega
  | giveOut l' _ h1 _ =>
    have := hs h1
    have e : total (ahead 0 ++ [⟨8, 0⟩]) = 18 := by decide
    have e2 : total (l' ++ [⟨6, 0⟩]) = total l' + 1 := by unfold total; rw [List.map_append, List.sum_append]; rfl
    omega
  | fetch _ y h1 _ _ =>
    have := hs h1
    have e : total (Ch.fetch y) = 26 := rfl
    omega
  | bring _ y h1 _ _ =>
    have := hs h1
    have e : total (Ch.bring y) = 26 := rfl
    omega

end Live

end Ch
