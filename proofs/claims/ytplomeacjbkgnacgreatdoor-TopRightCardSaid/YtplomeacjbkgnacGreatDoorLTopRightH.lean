import Derived.Test.YtplomeacjbkgnacGreatDoorBase45
import Derived.HandedShaped
import Derived.Stop.LaidErr
import Derived.MakeChecks
import Derived.LaidMore
import Derived.Test.YtplomeacjbkgnacGreatDoorRows
import Derived.Test.YtplomeacjbkgnacGreatDoorTie
import Derived.Test.YtplomeacjbkgnacGreatDoorCards
import Derived.SevenTiedAt
import Derived.Shelf.Lay
import Derived.Lay
import Derived.LaidOnce
import Derived.Stop.Joined
set_option linter.all false
set_option maxRecDepth 100000
set_option maxHeartbeats 16000000

namespace Go.Proofs.YtplomeacjbkgnacGreatDoor
open Go.ChangeShapes Go.WideShapes Go.ChangeAt Go.RowKit
theorem trodAll_below {H : Type} {enc : TypeId × Value → H} {P : Program} (hl : laidOutB P = true) {W W' : World} (hb : Below W.heap.size W W') :
  ∀ {ts : List TypeId} {vs : List Value} {ds : List (DataW H)} {ps : List MemPlace}, (∀ t ∈ ts, P.readableRec t = true ∧ t < P.types.size) →
  DataW.TrodAll enc P W 0 (fun _ => true) true ts vs ds ps → (∀ x ∈ ps, x.block < W.heap.size) →
  DataW.TrodAll enc P W' 0 (fun b => decide (b < W.heap.size)) true ts vs ds ps
 | [], vs, ds, ps, _, h, _ => by
  obtain ⟨rfl, rfl, rfl⟩ := trodAll_nil h
  exact trodAll_mk0
 | t :: ts, vs, ds, ps, hr, h, hlt => by
  obtain ⟨v, vs, d, ds, p, p', rfl, rfl, rfl, h0, r0⟩ := trodAll_cons h
  exact trodAll_cons_mk (Below.trod hl (hr t (by simp)).1 (hr t (by simp)).2 h0 hb (fun x hx => hlt x (by simp [hx])))
   (trodAll_below hl hb (fun t ht => hr t (by simp [ht])) r0 (fun x hx => hlt x (by simp [hx])))
theorem law_contract {H : Type} {enc : TypeId × Value → H} {P : Program} {f : FuncId} {fn : Func} {s : ChangeSpec} {tb : TypeId} (hl : laidOutB P = true) (hb : P.underlying tb = some .bool)
  (hres : fn.resultTypes = #[tb]) (hvars : s.vars = [])
  (hfn : ∀ ds : List (DataW H), ds.length = fn.params.size → s.fn H (ds ++ []) = { results := [.lit (.bool true)], args := ds })
  (hread : (fn.params.toList.all fun t => P.readableRec t && decide (t < P.types.size)) = true)
  {W : World} {args : Array Value} {ds gs : List (DataW H)} {before : List MemPlace}
  (hW : DataW.Whole enc P fn.params.toList s.vars false W args.toList ds gs before)
  (walk : Calls P f args W fun e W' => e = .returned (.bool true) ∧ Ext W W') :
  Calls P f args W fun e W' => ∃ v, e = .returned v ∧ s.post enc P fn false true false false W args v W' := by
 refine walk.mono fun e W' ⟨he, hx⟩ => ?_
 subst he
 have hg := hx.below
 have hW' := hW
 obtain ⟨p, q, hA, hV, rfl, hfz, hnd⟩ := hW
 rw [hvars] at hV
 obtain ⟨rfl, rfl⟩ := trodVars_none hV
 have hlen : ds.length = fn.params.size := by
  have := hA
  clear hW' hfz hnd walk hV hg hx
  have key : ∀ (ts : List TypeId) (vs : List Value) (ds : List (DataW H)) (ps : List MemPlace), DataW.TrodAll enc P W 0 (fun _ => true) true ts vs ds ps → ds.length = ts.length := by
   intro ts
   induction ts with
   | nil => intro vs ds ps h; obtain ⟨rfl, rfl, rfl⟩ := trodAll_nil h; rfl
   | cons t ts ih => intro vs ds ps h; obtain ⟨v, vs, d, ds, p, p', rfl, rfl, rfl, h0, r0⟩ := trodAll_cons h; simp [ih _ _ _ r0]
  simpa using key _ _ _ _ this
 simp only [List.append_nil] at hW'
 refine ⟨_, rfl, ds, [], p, [], p, [], hW', ?_, ?_, ?_, hg.frame _, fun h => by cases h⟩
 ·rw [hfn ds hlen, hres]
  exact trodAll_cons_mk (shut_bool hb _) trodAll_mk0
 ·rw [hfn ds hlen]
  exact trodAll_below hl hg (fun t ht => by simpa using List.all_eq_true.1 hread t ht) hA (fun x hx => by simpa using hW'.lt x hx)
 ·rw [hvars, hfn ds hlen]; rfl
theorem laidOut : laidOutB Tryz.prog = true := by kernel_rfl
end Go.Proofs.YtplomeacjbkgnacGreatDoor
namespace Ch.Live
theorem where_of {p : Plant} (hp : p.WF) {id : Int} (h : id ≠ 0) {y : Place} (hy : p.slots y = id) : ∃ z, p.where_ id = some z := by
 unfold Plant.where_
 rw [if_neg h]
 cases hf : (allPlaces p.levels).find? (fun x => p.slots x == id) with
 | some z => exact ⟨z, rfl⟩
 | none =>
  exfalso
  rw [List.find?_eq_none] at hf
  exact hf y (mem_allPlaces.2 (hp.sl y (by rw [hy]; exact h))) (by simpa using hy)
theorem of_id {n : Int} {b : Book} {p : Plant} (h : Core n b p) {x : Stay} (hx : x ∈ b.stays) : b.of x.car.id = some x := by
 cases ho : b.of x.car.id with
 | none => exact absurd rfl (of_none ho x hx)
 | some y =>
  obtain ⟨h1, h2⟩ := of_some ho
  rw [id_inj h.book.stays h1 hx h2]
end Ch.Live
namespace Go.Proofs.YtplomeacjbkgnacGreatDoor
open Go.ChangeShapes Go.WideShapes Go.ChangeAt Go.RowKit
theorem rd_of_trod {H : Type} {enc : TypeId × Value → H} {P : Program} {w : World} {t : TypeId} {v : Value} {d : DataW H} {p : List MemPlace} (h : DataW.Trod enc P w 0 (fun _ => true) true t v d p) : Rd enc P w t v.cells.toList := by
 obtain ⟨fuel, hf⟩ := h
 exact ⟨fuel, _, hf⟩
open Go.RowKit
theorem hl_len {α : Type} {w : World} {c : Nat} {enc : α → List Value} {l : List α} {a : Option Addr} {n cap : Nat} (h : Sl w c enc l a n cap) : l.length = n := h.len
end Go.Proofs.YtplomeacjbkgnacGreatDoor
namespace Ch.Live
def Fine (b : Book) (p : Plant) (l : List Goal) : Prop :=
 (∀ g ∈ l, g.kind ≠ 7) ∨ ((∀ g ∈ l, g.kind ≠ 8) ∧ (p.bay = 0 ∨ ∃ y ∈ b.stays, y.car.id = p.bay))
structure Away (c : Int) (p : Plant) : Prop where
 slots : ∀ y, p.slots y ≠ c
 lift : p.lift ≠ c
theorem setSlot_ne {f : Place → Int} {x : Place} {v c : Int} (h : ∀ y, f y ≠ c) (hv : v ≠ c) : ∀ y, setSlot f x v y ≠ c := by
 intro y
 unfold setSlot
 split
 ·exact hv
 ·exact h y
theorem away_act {p : Plant} {c : Int} (k : Int) (hc : c ≠ 0) (h : Away c p) (hb : k = 110 → p.bay ≠ c) : Away c (p.act k) := by
 have h1 := h.slots
 have h2 := h.lift
 have hs : Away c (p.stretch 1) ∧ Away c (p.stretch (-1)) := by
  constructor <;> (unfold Plant.stretch; split <;> exact ⟨h1, h2⟩)
 unfold Plant.act
 split
 ·exact ⟨h1, h2⟩
 split
 ·exact ⟨h1, h2⟩
 split
 ·exact hs.2
 split
 ·exact hs.1
 split
 ·unfold Plant.grab
  split
  ·exact h
  ·split
   ·exact ⟨setSlot_ne h1 (Ne.symm hc), h1 _⟩
   ·exact h
 split
 ·unfold Plant.put
  split
  ·exact h
  ·split
   ·exact ⟨setSlot_ne h1 h2, Ne.symm hc⟩
   ·exact h
 split
 ·exact ⟨h1, h2⟩
 split
 ·exact ⟨h1, h2⟩
 split
 ·rename_i hk
  have := hb hk
  unfold Plant.pass
  dsimp only
  split
  ·exact ⟨h1, h2⟩
  ·rw [if_pos rfl]
   split
   ·exact ⟨h1, this⟩
   ·exact ⟨h1, h2⟩
 split
 ·unfold Plant.pass
  dsimp only
  split
  ·exact ⟨h1, h2⟩
  ·rw [if_neg (by decide)]
   split
   ·exact ⟨h1, Ne.symm hc⟩
   ·exact ⟨h1, h2⟩
 ·exact h
theorem bay_act (p : Plant) (k : Int) (h : k ≠ 120) : (p.act k).bay = p.bay ∨ (p.act k).bay = 0 := by
  have hs : (p.stretch 1).bay = p.bay ∧ (p.stretch (-1)).bay = p.bay := by
    constructor <;> (unfold Plant.stretch; split <;> rfl)
  unfold Plant.act
  split
  · exact Or.inl rfl
  split
  · exact Or.inl rfl
  split
  · exact Or.inl hs.2
  split
  · exact Or.inl hs.1
  split
  · unfold Plant.grab
    split
    · exact Or.inl rfl
    · split <;> exact Or.inl rfl
  split
  · unfold Plant.put
    split
    · exact Or.inl rfl
    · split <;> exact Or.inl rfl
  split
  · exact Or.inl rfl
  split
  · exact Or.inl rfl
  split
  · unfold Plant.pass
    dsimp only
    split
    · exact Or.inl rfl
    · rw [if_pos rfl]
      split
      · exact Or.inr rfl
      · exact Or.inl rfl
  first
  | exact Or.inl rfl
  | (split
     · rename_i hk
       exact absurd hk h
     · exact Or.inl rfl)
theorem code_kind (g : Goal) (s : Sensed) : ((nextOf g s).1 = 110 → g.kind = 7) ∧ ((nextOf g s).1 = 120 → g.kind = 8) := by
 unfold nextOf toward once
 constructor <;> (intro h; (repeat' split at h) <;> simp_all)
theorem drive_fine {b : Book} : ∀ (l : List Goal) (p : Plant), Fine b p l → Fine b (drive p l).1 (drive p l).2 ∧ ∀ c : Int, c ≠ 0 → (∀ y ∈ b.stays, y.car.id ≠ c) → Away c p → Away c (drive p l).1
 | [], p, h => ⟨h, fun _ _ _ ha => ha⟩
 | g :: r, p, h => by
  unfold drive
  split
  ·refine drive_fine r p ?_
   rcases h with h | ⟨h, hb⟩
   ·exact Or.inl fun x hx => h x (by simp [hx])
   ·exact Or.inr ⟨fun x hx => h x (by simp [hx]), hb⟩
  ·split
   ·obtain ⟨k7, k8⟩ := code_kind g p.sense
    generalize (nextOf g p.sense).1 = k at *
    dsimp only
    unfold Plant.step
    split
    ·exact ⟨h, fun _ _ _ ha => ⟨ha.slots, ha.lift⟩⟩
    ·refine ⟨?_, fun c hc hn ha => away_act k hc ha fun hk => ?_⟩
     ·rcases h with h | ⟨h, hb⟩
      ·exact Or.inl h
      ·refine Or.inr ⟨h, ?_⟩
       rcases bay_act p k (fun hk => h g (by simp) (k8 hk)) with e | e
       ·rw [e]; exact hb
       ·exact Or.inl e
     ·rcases h with h | ⟨h, hb⟩
      ·exact absurd (k7 hk) (h g (by simp))
      ·rcases hb with e | ⟨y, hy, e⟩
       ·rw [e]; exact Ne.symm hc
       ·rw [← e]; exact hn y hy
   ·exact ⟨Or.inl (fun x hx => absurd hx (by simp)), fun _ _ _ ha => ha⟩
theorem no7 {l : List Goal} (h : l = giveOut ∨ l = welcome ∨ l = [] ∨ l = [⟨5, 0⟩] ∨ (∃ x, l = bring x) ∨ (∃ x, l = fetch x)) : ∀ g ∈ l, g.kind ≠ 7 := by
 rcases h with rfl | rfl | rfl | rfl | ⟨x, rfl⟩ | ⟨x, rfl⟩
 ·decide
 ·decide
 ·intro g hg; exact absurd hg (by simp)
 ·decide
 ·intro g hg
  simp only [bring, there, ahead, List.cons_append, List.nil_append, List.mem_cons, List.not_mem_nil, or_false] at hg
  rcases hg with rfl | rfl | rfl | rfl | rfl | rfl <;> simp
 ·intro g hg
  simp only [fetch, there, ahead, List.cons_append, List.nil_append, List.mem_cons, List.not_mem_nil, or_false] at hg
  rcases hg with rfl | rfl | rfl | rfl | rfl | rfl <;> simp
theorem turn_fine {n : Int} {b : Book} {p : Plant} (h : Core n b p) {l : List Goal} (ht : turnOf b n p = (l, none)) : Fine b p l := by
 unfold turnOf at ht
 split at ht
 ·cases ht
  refine Or.inl (no7 ?_)
  unfold loaded
  split
  ·exact Or.inl rfl
  ·split
   ·split
    ·exact Or.inl rfl
    ·split
     ·exact Or.inr (Or.inr (Or.inr (Or.inr (Or.inl ⟨_, rfl⟩))))
     ·exact Or.inr (Or.inr (Or.inr (Or.inr (Or.inl ⟨_, rfl⟩))))
   ·split
    ·exact Or.inr (Or.inr (Or.inr (Or.inr (Or.inl ⟨_, rfl⟩))))
    ·exact Or.inr (Or.inr (Or.inr (Or.inr (Or.inl ⟨_, rfl⟩))))
 ·dsimp only at ht
  split at ht
  ·cases ht
   exact Or.inl (no7 (Or.inr (Or.inr (Or.inr (Or.inr (Or.inr ⟨_, rfl⟩))))))
  ·split at ht
   ·rename_i j hj
    have hjm := (first_mem hj).1
    have hst := (stay_of h.book hjm).1
    unfold jobOf at ht
    split at ht
    ·split at ht
     ·cases ht
     ·cases ht
      refine Or.inl (no7 ?_)
      unfold fetchOf
      (repeat' split) <;> first
       | exact Or.inr (Or.inl rfl)
       | exact Or.inr (Or.inr (Or.inl rfl))
       | exact Or.inr (Or.inr (Or.inr (Or.inl rfl)))
       | exact Or.inr (Or.inr (Or.inr (Or.inr (Or.inr ⟨_, rfl⟩))))
    ·split at ht
     ·cases ht
     ·cases ht
      unfold storeOf
      split
      ·exact Or.inl (no7 (by simp))
      ·split
       ·rename_i hb
        refine Or.inr ⟨by decide, Or.inr ⟨_, hst, hb.symm⟩⟩
       ·split <;> exact Or.inl (no7 (by simp))
   ·split at ht
    ·cases ht
     exact Or.inl (no7 (by simp))
    ·cases ht
     exact Or.inl (no7 (by simp))
theorem done_sub (b : Book) (j : Job) (g : Bool) : ∀ y ∈ (doneWith b j g).stays, y ∈ b.stays := by
 intro y hy
 unfold doneWith at hy
 dsimp only at hy
 split at hy
 ·exact (List.mem_filter.1 hy).1
 ·exact hy
theorem turn_sub {n : Int} {b b' : Book} {p : Plant} {l : List Goal} (ht : turnOf b n p = (l, some b')) : ∀ y ∈ b'.stays, y ∈ b.stays := by
 unfold turnOf at ht
 split at ht
 ·cases ht
 ·dsimp only at ht
  split at ht
  ·cases ht
  ·split at ht
   ·unfold jobOf at ht
    split at ht
    ·split at ht
     ·cases ht
      exact done_sub _ _ _
     ·cases ht
    ·split at ht
     ·cases ht
      exact done_sub _ _ _
     ·cases ht
   ·split at ht <;> cases ht
structure Since (b0 : Book) (h : House) : Prop where
 inv : h.Inv'
 sub : ∀ y ∈ h.b.stays, y ∈ b0.stays
 all : (∀ x ∈ b0.stays, x ∈ h.b.stays) ∨ (Fine h.b h.p h.goals ∧ ∀ x ∈ b0.stays, x ∈ h.b.stays ∨ (h.b.find x.ticket = none ∧ Away x.car.id h.p ∧ ∀ y ∈ h.b.stays, y.car.id ≠ x.car.id))
theorem find_none_sub {b b' : Book} {t : Int} (h : b.find t = none) (hs : ∀ y ∈ b'.stays, y ∈ b.stays) : b'.find t = none := by
 unfold Book.find at h ⊢
 rw [List.find?_eq_none] at h ⊢
 exact fun y hy => h y (hs y hy)
theorem Since.tick {b0 : Book} {h : House} (h0 : ∀ x ∈ b0.stays, x.car.id ≠ 0) (s : Since b0 h) : Since b0 h.tick := by
 have hr := tick_right s.inv
 have hi2 := s.inv.tick
 have hcore := s.inv.core
 by_cases hg : h.goals = []
 ·cases ht : turnOf h.b h.n h.p with
  | mk l o =>
   cases o with
   | some b' =>
    have e : h.tick = { h with b := b' } := by unfold House.tick; rw [if_pos hg, ht]
    rw [e] at hr hi2 ⊢
    dsimp only at hr
    have hsb := turn_sub ht
    refine ⟨hi2, fun y hy => s.sub y (hsb y hy), Or.inr ⟨Or.inl (by rw [hg]; intro g hg'; cases hg'), fun x hx => ?_⟩⟩
    have key : x ∈ h.b.stays → x ∈ b'.stays ∨ (b'.find x.ticket = none ∧ Away x.car.id h.p ∧ ∀ y ∈ b'.stays, y.car.id ≠ x.car.id) := fun hxb => by
     rcases hr x hxb with ⟨y, h1, rfl⟩ | ⟨h1, h2, h3⟩
     ·exact Or.inl (List.mem_of_find?_eq_some h1)
     ·refine Or.inr ⟨h1, ⟨fun y hy => ?_, h3⟩, fun y hy hid => ?_⟩
      ·obtain ⟨z, hz⟩ := where_of hcore.safe.wf (h0 x hx) hy
       rw [h2] at hz
       cases hz
      ·have e1 := of_id hcore hxb
       have e2 := of_id hcore (hsb y hy)
       rw [hid, e1] at e2
       cases e2
       unfold Book.find at h1
       rw [List.find?_eq_none] at h1
       exact h1 x hy (by simp)
    rcases s.all with ha | ⟨_, ha⟩
    ·exact key (ha x hx)
    ·rcases ha x hx with hxb | ⟨h1, h2, h3⟩
     ·exact key hxb
     ·exact Or.inr ⟨find_none_sub h1 hsb, h2, fun y hy => h3 y (hsb y hy)⟩
   | none =>
    have e : h.tick = h.go l := by unfold House.tick; rw [if_pos hg, ht]
    rw [e] at hi2 ⊢
    refine ⟨hi2, s.sub, ?_⟩
    rcases s.all with ha | ⟨_, ha⟩
    ·exact Or.inl ha
    ·obtain ⟨d1, d2⟩ := drive_fine l h.p (turn_fine hcore ht)
     exact Or.inr ⟨d1, fun x hx => (ha x hx).imp id fun ⟨h1, h2, h3⟩ => ⟨h1, d2 _ (h0 x hx) h3 h2, h3⟩⟩
 ·have e : h.tick = h.go h.goals := by unfold House.tick; rw [if_neg hg]
  rw [e] at hi2 ⊢
  refine ⟨hi2, s.sub, ?_⟩
  rcases s.all with ha | ⟨hf, ha⟩
  ·exact Or.inl ha
  ·obtain ⟨d1, d2⟩ := drive_fine h.goals h.p hf
   exact Or.inr ⟨d1, fun x hx => (ha x hx).imp id fun ⟨h1, h2, h3⟩ => ⟨h1, d2 _ (h0 x hx) h3 h2, h3⟩⟩
theorem Since.ticks {b0 : Book} (h0 : ∀ x ∈ b0.stays, x.car.id ≠ 0) : ∀ (n : Nat) (h : House), Since b0 h → Since b0 (House.ticks n h)
 | 0, _, s => s
 | n + 1, h, s => Since.ticks h0 n h.tick (s.tick h0)
theorem Since.right {b0 : Book} {h : House} (s : Since b0 h) : Right b0 h.b h.p := fun x hx => by
 have key : x ∈ h.b.stays → ∃ y, h.b.find x.ticket = some y ∧ y = x := fun hm => ⟨x, find_in s.inv.core.book hm, rfl⟩
 rcases s.all with ha | ⟨_, ha⟩
 ·exact Or.inl (key (ha x hx))
 ·rcases ha x hx with hm | ⟨h1, h2, h3⟩
  ·exact Or.inl (key hm)
  ·refine Or.inr ⟨h1, ?_, h2.lift⟩
   cases hw : h.p.where_ x.car.id with
   | none => rfl
   | some y => exact absurd (where_some hw).2.1 (h2.slots y)
theorem ticks_right {h : House} (hi : h.Inv') (n : Nat) : Right h.b (House.ticks n h).b (House.ticks n h).p :=
 (Since.ticks (fun x hx => by have := hi.core.id_pos hx; omega) n h ⟨hi, fun _ hy => hy, Or.inl fun _ hx => hx⟩).right
theorem play_right_all {h : House} (hi : h.Inv') (a : Act) : Right h.b (h.play a).b (h.play a).p := by
 by_cases hk : a.kind = kPark ∨ a.kind = kWant ∨ a.kind = kOpen ∨ a.kind = kWalk ∨ a.kind = kArrive ∨ a.kind = kLeave ∨ a.kind = kStall
 ·exact play_right hi a hk
 ·have e : h.play a = House.ticks (min a.a 60).toNat h := by
   unfold House.play
   rw [if_neg (fun e => hk (Or.inl e)), if_neg (fun e => hk (Or.inr (Or.inl e))), if_neg (fun e => hk (Or.inr (Or.inr (Or.inl e)))), if_neg (fun e => hk (Or.inr (Or.inr (Or.inr e))))]
  rw [e]
  exact ticks_right hi _
end Ch.Live
namespace Go.Proofs.YtplomeacjbkgnacGreatDoor
open Go.RowKit
def kTickR : ByteArray := ⟨#[116, 105, 99, 107]⟩
theorem index_none0 {l : List Ch.Stay} {t : Int} (h : l.find? (fun s => s.ticket == t) = none) : Ch.indexOf (fun s : Ch.Stay => s.ticket == t) l = -1 := by
 have : l.findIdx? (fun s : Ch.Stay => s.ticket == t) = none := by
  rw [List.findIdx?_eq_none_iff]
  rw [List.find?_eq_none] at h
  intro x hx
  have := h x hx
  simpa using this
 unfold Ch.indexOf
 rw [this]
theorem where_none0 {pb mb : Nat} {p : Ch.Plant} {w : World} (h : PlantAt w pb mb p) (hp : p.WF) (id : Int) (hv : Hid (p.where_ id = none)) :
  Calls Tryz.prog 23 #[.pointer (some ⟨pb, 0, none⟩), vi id] w fun e w' => e = .returned (.tuple #[.agg #[vi 0, vi 0, vi 0], .bool false]) ∧ Ext w w' := by
 have := where_any h hp id
 rw [hv.out] at this
 exact this
theorem topRight_walk {la : Option Addr} {ln lc : Nat} {sizes : List Ch.Size} {a : Option Addr} {n cap : Nat} {l : List RAct} {w : World} (hl : Sl w 3 sizeCells sizes la ln lc) (h : Sl w 12 ractCells l a n cap) (hg : ∀ x ∈ l, x.Good) (L : Libs w) :
  Calls Tryz.prog 6 #[.slice la ln lc, .slice a n cap] w fun e w' => e = .returned (.bool true) ∧ Ext w w' := by
 have lbd := hl.bound
 have abd := h.bound
 have HF := Lib.hid hl
 have HA := Lib.hid h
 have HG := Lib.hid hg
 have HL := Lib.hid L
 clear hl h hg L
 go_enter Tryz.func6, Tryz.ntmps6
 go_wp2_with (go_at_call 10; (with_reducible refine (works_any _ (HL.out.ext (by simp))).mono ?_); rintro e w1 ⟨rfl, o1, n1, rfl⟩)
 go_at_call 11
 refine (ready_now (Sl.below HF.out (Ext.below (by simp))) (Sl.below HA.out (Ext.below (by simp))) HG.out (HL.out.ext (by simp))).mono ?_
 rintro e wB (⟨rfl, hx⟩ | ⟨pb, mb, db, lb0, hb0, rfl, hlf, h60, wA, hxA, hs⟩)
 ·go_wp2_with fail
  go_ret
  exact ⟨rfl, Ext.trans (by simp) (hx.trans (by simp))⟩
 have HXA : Hid (Ext w wA) := Ext.trans (by simp) hxA
 have HXB : Hid (Ext wA wB) := hs.x
 have HS0 := Lib.hid hs
 have HLA := Lib.hid (HL.out.ext HXA.out)
 have HFA := Lib.hid (Sl.below HF.out HXA.out.below)
 have HAA := Lib.hid (Sl.below HA.out HXA.out.below)
 have hlen := hl_len HF.out
 clear hxA hs HF HA HL
 go_upto_region 8 with fail
 go_loopw [8, 9] (fun s1 s2 wr => ∃ (j lb hb : Nat) (h' : Ch.House), j ≤ n ∧ s1 = .pointer (some ⟨hb, 0, none⟩) ∧ s2 = .int .i64 (j : Int) ∧ Hid (h'.sizes = sizes) ∧ Hid (St wA NoN pb mb db lb hb h' (2 + 60 * j) wr)) (fun _ i2 _ => n - (intOf i2).toNat)
 case atStart => exact ⟨0, lb0, hb0, Ch.House.new sizes, Nat.zero_le _, rfl, rfl, rfl, HS0.out.ext (by simp)⟩
 case round =>
  obtain ⟨j, lb, hb, h', hj, rfl, rfl, HSZ, HSR⟩ := hrel
  by_cases hlt : j < n
  ·obtain ⟨bA, qA, x, rfl, hx, dx⟩ := HAA.out.get hlt
   have dx := at12 dx
   have gx := HG.out x (List.mem_of_getElem? hx)
   have HXJ := Lib.hid hx
   obtain ⟨dx0, dx1, dx2, dx3, dx4, dx5, dx6, dx7, dx8, dx9, dx10, dx11⟩ := dx
   have hqA := cell_lt dx0
   have hj0 : (0 : Int) ≤ (j : Int) := by omega
   have hj1 : (j : Int) < (n : Int) := by omega
   have hj2 : (j : Int) ≤ (cap : Int) := by omega
   clear hx
   have ex0 := xcell HSR.out.x dx0
   have ex1 := xcell HSR.out.x dx1
   have ex2 := xcell HSR.out.x dx2
   have ex3 := xcell HSR.out.x dx3
   have ex4 := xcell HSR.out.x dx4
   have ex5 := xcell HSR.out.x dx5
   have ex6 := xcell HSR.out.x dx6
   have ex7 := xcell HSR.out.x dx7
   have ex8 := xcell HSR.out.x dx8
   have ex9 := xcell HSR.out.x dx9
   have ex10 := xcell HSR.out.x dx10
   have ex11 := xcell HSR.out.x dx11
   have exl := cell_lt ex0
   by_cases hk : x.kind = kTickR
   ·rw [hk] at ex0 dx0
    unfold kTickR at ex0 dx0
    obtain ⟨M, HM⟩ : ∃ M : Nat, Hid (min (max x.a 0) 60 = (M : Int)) := ⟨(min (max x.a 0) 60).toNat, by unfold Hid; omega⟩
    have hM60 : M ≤ 60 := by have := HM.out; omega
    go_upto_region 13 with fail
    rw [HM.out]
    go_upto_region 14 with fail
    go_loopw [8, 11] (fun s8 s11 wq => ∃ (m lb1 hb1 : Nat) (h2 : Ch.House), m ≤ M ∧ s8 = .pointer (some ⟨hb1, 0, none⟩) ∧ s11 = .int .i64 (m : Int) ∧ Hid (h2.sizes = sizes) ∧ Hid (St wA NoN pb mb db lb1 hb1 h2 (2 + 60 * j + 1 * m) wq)) (fun _ s11 _ => M - (intOf s11).toNat)
    case atStart => exact ⟨0, lb, hb, h', Nat.zero_le _, rfl, rfl, HSZ.out, HSR.out.ext (by simp)⟩
    case round =>
     obtain ⟨m, lb1, hb1, h2, hm, rfl, rfl, HSZ2, HSQ⟩ := hrel
     by_cases hmM : m < M
     ·have hmM2 : (m : Int) < (M : Int) := by omega
      have hq0 := xcell HSQ.out.x dx0
      have hq1 := xcell HSQ.out.x dx1
      have hq2 := xcell HSQ.out.x dx2
      have hq3 := xcell HSQ.out.x dx3
      have hq4 := xcell HSQ.out.x dx4
      have hq5 := xcell HSQ.out.x dx5
      have hq6 := xcell HSQ.out.x dx6
      have hq7 := xcell HSQ.out.x dx7
      have hq8 := xcell HSQ.out.x dx8
      have hq9 := xcell HSQ.out.x dx9
      have hq10 := xcell HSQ.out.x dx10
      have hq11 := xcell HSQ.out.x dx11
      have hql := cell_lt hq0
      clear ex0 ex1 ex2 ex3 ex4 ex5 ex6 ex7 ex8 ex9 ex10 ex11 exl
      obtain ⟨last, bs, js, HBK⟩ : ∃ (a : Int) (b : List Ch.Stay) (c : List Ch.Job), Hid (h2.b = ⟨a, b, c⟩) := ⟨_, _, _, rfl⟩
      go_upto_region 17 with (go_at_call 21; refine (st_book (HSQ.out.ext (by simp))).mono ?_; rw [HBK.out]; rintro r w3 ⟨y1, d1, y2, d2, rfl, t1, t2, hx3, nw1, -⟩; dsimp only at t1 t2 ⊢; have V1 : Hid (∀ g o, y1 = some ⟨g, o, none⟩ → wr.heap.size ≤ g) := fun g o e => Nat.le_trans (Ext.below (by simp) : Below wr.heap.size wr _).size (nw1 g o e); have HX3 : Hid (Ext wr w3) := Ext.trans (by simp) hx3; have T1 := Lib.hid t1; have T2 := Lib.hid t2; clear t1 t2 hx3 nw1)
      generalize hW : World.alloc _ _ = w4
      generalize hB : w3.heap.size = B
      have hx34 : Ext w3 w4 := by rw [← hW]; exact (by simp)
      have b0 : w4.cell? ⟨B, 0, none⟩ = some (vi last) := by rw [← hW, ← hB]; simp [go_sem]
      have b1 : w4.cell? ⟨B, 1, none⟩ = some (.slice y1 bs.length d1) := by rw [← hW, ← hB]; simp [go_sem]
      have b2 : w4.cell? ⟨B, 2, none⟩ = some (.slice y2 js.length d2) := by rw [← hW, ← hB]; simp [go_sem]
      have U1 := Lib.hid (Sl.below T1.out hx34.below)
      have U2 := Lib.hid (Sl.below T2.out hx34.below)
      have ub1 := U1.out.bound
      have ub2 := U2.out.bound
      have HX4 := Lib.hid (HX3.out.trans hx34)
      have hBl := cell_lt b0
      have hBge : wr.heap.size ≤ B := by rw [← hB]; exact HX3.out.below.size
      clear hW hB hx34 T1 T2 HX3
      obtain ⟨N, hNB, hs4⟩ : ∃ N : Nat → Prop, (∀ i, wr.heap.size ≤ i → i < w4.heap.size → N i) ∧ St wA N pb mb db lb1 hb1 h2 (2 + 60 * j + 1 * m) w4 := ⟨_, fun i h1 h2 => Or.inr ⟨h1, h2⟩, HSQ.out.own HX4.out⟩
      have HS4 := Lib.hid hs4
      have HNB : Hid (¬ Own0 wA N B) := fun hh => hh.2 (hNB B hBge hBl)
      have HN1 : Hid (0 < bs.length → ∀ b o, y1 = some ⟨b, o, none⟩ → ¬ Own0 wA N b) := fun h0 b o e hh => hh.2 (hNB b (V1.out b o e) (by subst e; exact Sl.block_ltC U1.out h0 (by intro s; simp [stayCells])))
      have HRG : Hid (Ch.Live.Right h2.b (h2.tick).b (h2.tick).p) := Ch.Live.tick_right HSQ.out.inv.inv
      have HSZ3 : Hid ((h2.tick).sizes = sizes) := (by unfold Hid; rw [tick_sizes]; exact HSZ2.out)
      have hwf3 : (h2.tick).p.WF := HSQ.out.inv.tick.inv.core.safe.wf
      replace hq0 := xcell HS4.out.x dx0
      replace hq1 := xcell HS4.out.x dx1
      replace hq2 := xcell HS4.out.x dx2
      replace hq3 := xcell HS4.out.x dx3
      replace hq4 := xcell HS4.out.x dx4
      replace hq5 := xcell HS4.out.x dx5
      replace hq6 := xcell HS4.out.x dx6
      replace hq7 := xcell HS4.out.x dx7
      replace hq8 := xcell HS4.out.x dx8
      replace hq9 := xcell HS4.out.x dx9
      replace hq10 := xcell HS4.out.x dx10
      replace hq11 := xcell HS4.out.x dx11
      replace hql := cell_lt hq0
      clear hs4 b2 U2
      go_upto_region 20 with (go_at_call 17; refine (st_tick (HS4.out.ext (by simp)) (by omega) HLA.out.tab).mono ?_; rintro r w6 ⟨rfl, hk6, hs6⟩; have HS6 := Lib.hid hs6; have HK6 : Hid (Kept (Own0 wA N) w4 w6) := (Kept.of_ext (by simp) : Kept (Own0 wA N) w4 _).trans hk6; clear hs6 hk6)
      generalize hH3 : h2.tick = H3 at HS6 HRG HSZ3 hwf3
      clear hH3
      replace b0 := cell_kept HK6.out b0 HNB.out
      replace b1 := cell_kept HK6.out b1 HNB.out
      have W1 := Lib.hid (U1.out.keptS HK6.out HN1.out)
      obtain ⟨last3, bs3, js3, HBK3⟩ : ∃ (a : Int) (b : List Ch.Stay) (c : List Ch.Job), Hid (H3.b = ⟨a, b, c⟩) := ⟨_, _, _, rfl⟩
      go_upto_region 21 with (go_at_call 21; refine (st_book (HS6.out.ext (by simp))).mono ?_; rw [HBK3.out]; rintro r w7 ⟨y3, d3, y4, d4, rfl, t1, t2, hx7, -, -⟩; dsimp only at t1 t2 ⊢; have HX7 : Hid (Ext w6 w7) := Ext.trans (by simp) hx7; have T1 := Lib.hid t1; clear t1 t2 hx7)
      generalize hW : World.alloc _ _ = wx
      generalize hC : w7.heap.size = C
      have hx78 : Ext w7 wx := by rw [← hW]; exact (by simp)
      have c0 : wx.cell? ⟨C, 0, none⟩ = some (vi last3) := by rw [← hW, ← hC]; simp [go_sem]
      have c1 : wx.cell? ⟨C, 1, none⟩ = some (.slice y3 bs3.length d3) := by rw [← hW, ← hC]; simp [go_sem]
      have c2 : wx.cell? ⟨C, 2, none⟩ = some (.slice y4 js3.length d4) := by rw [← hW, ← hC]; simp [go_sem]
      have hx68 := HX7.out.trans hx78
      replace b0 := xcell hx68 b0
      replace b1 := xcell hx68 b1
      have W2 := Lib.hid (Sl.below W1.out hx68.below)
      have V3 := Lib.hid (Sl.below T1.out hx78.below)
      have HX8 := Lib.hid hx68
      have wb2 := W2.out.bound
      have vb3 := V3.out.bound
      have lb8 := cell_lt b0
      have lc8 := cell_lt c0
      obtain ⟨li, hli⟩ : ∃ y, Hid (H3.p.lift = y) := ⟨_, rfl⟩
      obtain ⟨ya, yb, yd, yp, yf, yg, yh, yi, HSN⟩ : ∃ (a b : Int) (c : Bool) (d f : Int) (g h i : Bool), Hid (senseA H3.p = .agg #[vi a, vi b, .bool c, vi d, vi li, vi f, .bool g, .bool h, .bool i]) := ⟨H3.p.height, H3.p.ext, H3.p.door, H3.p.people, H3.p.bay, H3.p.full H3.p.ext, H3.p.full (H3.p.ext - 1), H3.p.full (H3.p.ext + 1), by
       unfold Hid senseA
       rw [hli.out]⟩
      rw [HBK.out, HBK3.out] at HRG
      replace HRG : Hid (∀ x ∈ bs, (∃ y, (⟨last3, bs3, js3⟩ : Ch.Book).find x.ticket = some y ∧ y = x) ∨ ((⟨last3, bs3, js3⟩ : Ch.Book).find x.ticket = none ∧ H3.p.where_ x.car.id = none ∧ li ≠ x.car.id)) := by rw [← hli.out]; exact HRG.out
      clear hW hC hx78 hx68 T1 HX7 W1 U1 HX4 hBl hBge HNB HN1 hq0 hq1 hq2 hq3 hq4 hq5 hq6 hq7 hq8 hq9 hq10 hq11 hql
      go_upto_region 22 with fail
      go_loopw [14] (fun s14 wl => ∃ v : Nat, v ≤ bs.length ∧ s14 = .int .i64 (v : Int) ∧ Ext wx wl) (fun s14 _ => bs.length - (intOf s14).toNat)
      case atStart => exact ⟨0, Nat.zero_le _, rfl, (by simp)⟩
      case round =>
       obtain ⟨v, hv, rfl, o, no, rfl⟩ := hrel
       by_cases hvl : v < bs.length
       ·obtain ⟨bb, q, s, rfl, hs', ds⟩ := W2.out.get hvl
        have hmem := List.mem_of_getElem? hs'
        have hrg := HRG.out s hmem
        obtain ⟨st, ⟨sid, ⟨sl1, sl2, sl3⟩⟩, ⟨sp1, sp2, sp3⟩⟩ := s
        have ds := at8 ds
        dsimp only at ds hrg
        have hq2 := cell_lt ds.1
        have hv0 : (0 : Int) ≤ (v : Int) := by omega
        have hv1 : (v : Int) < (bs.length : Int) := by omega
        have hv2 : (v : Int) ≤ (d1 : Int) := by omega
        obtain ⟨e0, e1, e2, e3, e4, e5, e6, e7⟩ := ds
        clear hs' hmem
        go_upto_region 25 with fail
        generalize hW : World.alloc _ _ = wz
        generalize hX : wx.heap.size + o.size = X
        have hxz : Ext wx wz := by rw [← hW]; exact (by simp)
        have x0 : wz.cell? ⟨X, 0, none⟩ = some (vi st) := by rw [← hW, ← hX]; simp [go_sem]
        have x1 : wz.cell? ⟨X, 1, none⟩ = some (vi sid) := by rw [← hW, ← hX]; simp [go_sem]
        have x2 : wz.cell? ⟨X, 2, none⟩ = some (vi sl1) := by rw [← hW, ← hX]; simp [go_sem]
        have x3 : wz.cell? ⟨X, 3, none⟩ = some (vi sl2) := by rw [← hW, ← hX]; simp [go_sem]
        have x4 : wz.cell? ⟨X, 4, none⟩ = some (vi sl3) := by rw [← hW, ← hX]; simp [go_sem]
        have x5 : wz.cell? ⟨X, 5, none⟩ = some (vi sp1) := by rw [← hW, ← hX]; simp [go_sem]
        have x6 : wz.cell? ⟨X, 6, none⟩ = some (vi sp2) := by rw [← hW, ← hX]; simp [go_sem]
        have x7 : wz.cell? ⟨X, 7, none⟩ = some (vi sp3) := by rw [← hW, ← hX]; simp [go_sem]
        replace c0 := xcell hxz c0
        replace c1 := xcell hxz c1
        replace c2 := xcell hxz c2
        have V4 := Lib.hid (Sl.below V3.out hxz.below)
        have HXZ := Lib.hid (HX8.out.trans hxz)
        have HXY := Lib.hid hxz
        have lx := cell_lt x0
        have lc9 := cell_lt c0
        clear hW hX hxz e0 e1 e2 e3 e4 e5 e6 e7 hq2
        rcases hrg with ⟨y, hf, rfl⟩ | ⟨hf, hwn, hln⟩
        ·unfold Ch.Book.find at hf
         dsimp only at hf
         have hy1 := List.mem_of_find?_eq_some hf
         obtain ⟨si, s2, hsi, hsl, hst, htt⟩ := stay_at (last := last3) (js := js3) ⟨_, hy1, rfl⟩
         dsimp only at hsi htt
         have hs2 : s2 = ⟨st, ⟨sid, ⟨sl1, sl2, sl3⟩⟩, ⟨sp1, sp2, sp3⟩⟩ := by
          rw [← hst]
          unfold Ch.Book.stay Ch.Book.find
          dsimp only
          rw [hf]
          rfl
         subst hs2
         have HI : Hid (Ch.indexOf (fun s : Ch.Stay => s.ticket == st) bs3 = (si : Int)) := hsi
         have hsm : si < bs3.length := (List.getElem?_eq_some_iff.1 hsl).1
         obtain ⟨b9, q9, s9, rfl, hs9, d9⟩ := V4.out.get hsm
         rw [hsl] at hs9
         cases hs9
         have d9 := at8 d9
         dsimp only at d9
         have hq9 := cell_lt d9.1
         obtain ⟨g0, g1, g2, g3, g4, g5, g6, g7⟩ := d9
         have hs0 : (0 : Int) ≤ (si : Int) := by omega
         have hs1 : (si : Int) < (bs3.length : Int) := by omega
         have hs2' : (si : Int) ≤ (d3 : Int) := by omega
         have hq : ∀ w, (Go.binOp .neq 61 (.agg #[vi st, vi sid, vi sl1, vi sl2, vi sl3, vi sp1, vi sp2, vi sp3]) (.agg #[vi st, vi sid, vi sl1, vi sl2, vi sl3, vi sp1, vi sp2, vi sp3])).run Tryz.prog w = .ok (.bool false) w := fun w => by rw [neqStruct w (eqStay w 9996 ⟨st, ⟨sid, ⟨sl1, sl2, sl3⟩⟩, ⟨sp1, sp2, sp3⟩⟩ ⟨st, ⟨sid, ⟨sl1, sl2, sl3⟩⟩, ⟨sp1, sp2, sp3⟩⟩)]; simp
         clear hf hy1 hsi hsl hst htt
         go_upto_region 27 with (go_at_call 22; (with_reducible refine (find_stay (si : Int) _ _ _ _ _ _ _ _ bs3 _ (Sl.below V4.out (Ext.below (by simp))) HI).mono ?_); rintro e w1 ⟨rfl, o1, n1, rfl⟩)
         (refine wp_region_ext (by kernel_rfl) (by kernel_rfl) ?_; (repeat (first | go_big_quiet_step (fail) | quiet_step (fail))); refine wpQuiet_nil ?_; intro _ hw'; obtain ⟨oq, nq, hw''⟩ := hw'; subst hw'')
         go_wp2
         go_roundw
         case rel => exact ⟨v + 1, by omega, by go_num, HXY.out.trans (by simp)⟩
         case measure => simp [intOf]; omega
        ·have HI : Hid (Ch.indexOf (fun s : Ch.Stay => s.ticket == st) bs3 = -1) := index_none0 (by unfold Ch.Book.find at hf; exact hf)
         have HWN := Lib.hid hwn
         have hln2 : ¬ li = sid := hln
         clear hf hwn hln
         go_wp2_with (first
          | (go_at_call 22; (with_reducible refine (find_stay (-1) _ _ _ _ _ _ _ _ bs3 _ (Sl.below V4.out (Ext.below (by simp))) HI).mono ?_); rintro e w1 ⟨rfl, o1, n1, rfl⟩)
          | (go_at_call 23; (with_reducible refine (where_none0 ((HS6.out.ext HXZ.out).plantAt.ext (by simp)) hwf3 _ HWN).mono ?_); rintro e w1 ⟨rfl, o1, n1, rfl⟩)
          | (go_at_call 18; (with_reducible refine (sense_val _ ((HS6.out.ext HXZ.out).plantAt.ext (by simp)) hwf3 HSN).mono ?_); rintro e w1 ⟨rfl, o1, n1, rfl⟩))
         go_roundw
         case rel => exact ⟨v + 1, by omega, by go_num, HXY.out.trans (by simp (maxDischargeDepth := 60))⟩
         case measure => simp [intOf]; omega
       ·have hvn : ¬ (v : Int) < (bs.length : Int) := by omega
        go_wp2
        go_roundw
        case rel => exact ⟨m + 1, lb1, hb1, H3, by omega, rfl, by go_num, HSZ3.out, ((HS6.out.ext (HX8.out.trans (by simp))).drop (fun i h => h.elim)).more (by omega)⟩
        case measure => simp [intOf]; omega
     ·have hmM2 : ¬ (m : Int) < (M : Int) := by omega
      go_wp2
      go_roundw
      case rel => exact ⟨j + 1, lb1, hb1, h2, by omega, rfl, by go_num, HSZ2.out, (HSQ.out.ext (by simp)).more (by omega)⟩
      case measure => simp [intOf]; omega
   ·have hks : (x.kind.toList == [116, 105, 99, 107]) = false := str_ne hk
    obtain ⟨M, HM⟩ : ∃ M : Nat, M = 1 := ⟨_, rfl⟩
    go_upto_region 13 with fail
    rw [show (Value.int IntKind.i64 1) = Value.int IntKind.i64 (M : Int) by rw [HM]; rfl]
    have hM60 : M ≤ 1 := by omega
    clear HM
    go_upto_region 14 with fail
    go_loopw [8, 11] (fun s8 s11 wq => ∃ (m lb1 hb1 : Nat) (h2 : Ch.House), m ≤ M ∧ s8 = .pointer (some ⟨hb1, 0, none⟩) ∧ s11 = .int .i64 (m : Int) ∧ Hid (h2.sizes = sizes) ∧ Hid (St wA NoN pb mb db lb1 hb1 h2 (2 + 60 * j + 60 * m) wq)) (fun _ s11 _ => M - (intOf s11).toNat)
    case atStart => exact ⟨0, lb, hb, h', Nat.zero_le _, rfl, rfl, HSZ.out, HSR.out.ext (by simp)⟩
    case round =>
     obtain ⟨m, lb1, hb1, h2, hm, rfl, rfl, HSZ2, HSQ⟩ := hrel
     by_cases hmM : m < M
     ·have hmM2 : (m : Int) < (M : Int) := by omega
      have hq0 := xcell HSQ.out.x dx0
      have hq1 := xcell HSQ.out.x dx1
      have hq2 := xcell HSQ.out.x dx2
      have hq3 := xcell HSQ.out.x dx3
      have hq4 := xcell HSQ.out.x dx4
      have hq5 := xcell HSQ.out.x dx5
      have hq6 := xcell HSQ.out.x dx6
      have hq7 := xcell HSQ.out.x dx7
      have hq8 := xcell HSQ.out.x dx8
      have hq9 := xcell HSQ.out.x dx9
      have hq10 := xcell HSQ.out.x dx10
      have hq11 := xcell HSQ.out.x dx11
      have hql := cell_lt hq0
      clear ex0 ex1 ex2 ex3 ex4 ex5 ex6 ex7 ex8 ex9 ex10 ex11 exl
      obtain ⟨last, bs, js, HBK⟩ : ∃ (a : Int) (b : List Ch.Stay) (c : List Ch.Job), Hid (h2.b = ⟨a, b, c⟩) := ⟨_, _, _, rfl⟩
      go_upto_region 17 with (go_at_call 21; refine (st_book (HSQ.out.ext (by simp))).mono ?_; rw [HBK.out]; rintro r w3 ⟨y1, d1, y2, d2, rfl, t1, t2, hx3, nw1, -⟩; dsimp only at t1 t2 ⊢; have V1 : Hid (∀ g o, y1 = some ⟨g, o, none⟩ → wr.heap.size ≤ g) := fun g o e => Nat.le_trans (Ext.below (by simp) : Below wr.heap.size wr _).size (nw1 g o e); have HX3 : Hid (Ext wr w3) := Ext.trans (by simp) hx3; have T1 := Lib.hid t1; have T2 := Lib.hid t2; clear t1 t2 hx3 nw1)
      generalize hW : World.alloc _ _ = w4
      generalize hB : w3.heap.size = B
      have hx34 : Ext w3 w4 := by rw [← hW]; exact (by simp)
      have b0 : w4.cell? ⟨B, 0, none⟩ = some (vi last) := by rw [← hW, ← hB]; simp [go_sem]
      have b1 : w4.cell? ⟨B, 1, none⟩ = some (.slice y1 bs.length d1) := by rw [← hW, ← hB]; simp [go_sem]
      have b2 : w4.cell? ⟨B, 2, none⟩ = some (.slice y2 js.length d2) := by rw [← hW, ← hB]; simp [go_sem]
      have U1 := Lib.hid (Sl.below T1.out hx34.below)
      have U2 := Lib.hid (Sl.below T2.out hx34.below)
      have ub1 := U1.out.bound
      have ub2 := U2.out.bound
      have HX4 := Lib.hid (HX3.out.trans hx34)
      have hBl := cell_lt b0
      have hBge : wr.heap.size ≤ B := by rw [← hB]; exact HX3.out.below.size
      clear hW hB hx34 T1 T2 HX3
      obtain ⟨N, hNB, hs4⟩ : ∃ N : Nat → Prop, (∀ i, wr.heap.size ≤ i → i < w4.heap.size → N i) ∧ St wA N pb mb db lb1 hb1 h2 (2 + 60 * j + 60 * m) w4 := ⟨_, fun i h1 h2 => Or.inr ⟨h1, h2⟩, HSQ.out.own HX4.out⟩
      have HS4 := Lib.hid hs4
      have HNB : Hid (¬ Own0 wA N B) := fun hh => hh.2 (hNB B hBge hBl)
      have HN1 : Hid (0 < bs.length → ∀ b o, y1 = some ⟨b, o, none⟩ → ¬ Own0 wA N b) := fun h0 b o e hh => hh.2 (hNB b (V1.out b o e) (by subst e; exact Sl.block_ltC U1.out h0 (by intro s; simp [stayCells])))
      have HRG : Hid (Ch.Live.Right h2.b (h2.play x.act).b (h2.play x.act).p) := Ch.Live.play_right_all HSQ.out.inv.inv x.act
      have HSZ3 : Hid ((h2.play x.act).sizes = sizes) := (by unfold Hid; rw [play_sizes]; exact HSZ2.out)
      have hwf3 : (h2.play x.act).p.WF := (HSQ.out.inv.play x.act).inv.core.safe.wf
      replace hq0 := xcell HS4.out.x dx0
      replace hq1 := xcell HS4.out.x dx1
      replace hq2 := xcell HS4.out.x dx2
      replace hq3 := xcell HS4.out.x dx3
      replace hq4 := xcell HS4.out.x dx4
      replace hq5 := xcell HS4.out.x dx5
      replace hq6 := xcell HS4.out.x dx6
      replace hq7 := xcell HS4.out.x dx7
      replace hq8 := xcell HS4.out.x dx8
      replace hq9 := xcell HS4.out.x dx9
      replace hq10 := xcell HS4.out.x dx10
      replace hq11 := xcell HS4.out.x dx11
      replace hql := cell_lt hq0
      clear hs4 b2 U2
      go_upto_region 20 with (go_at_call 14; refine (play_now (HS4.out.ext (by simp)) (by omega) HLA.out x gx (by rw [HSZ2.out]; exact HFA.out)).mono ?_; rintro r w6 ⟨lb2, hb2, rfl, hk6, hs6⟩; have HS6 := Lib.hid hs6; have HK6 : Hid (Kept (Own0 wA N) w4 w6) := (Kept.of_ext (by simp) : Kept (Own0 wA N) w4 _).trans hk6; clear hs6 hk6)
      generalize hH3 : h2.play x.act = H3 at HS6 HRG HSZ3 hwf3
      clear hH3
      replace b0 := cell_kept HK6.out b0 HNB.out
      replace b1 := cell_kept HK6.out b1 HNB.out
      have W1 := Lib.hid (U1.out.keptS HK6.out HN1.out)
      obtain ⟨last3, bs3, js3, HBK3⟩ : ∃ (a : Int) (b : List Ch.Stay) (c : List Ch.Job), Hid (H3.b = ⟨a, b, c⟩) := ⟨_, _, _, rfl⟩
      go_upto_region 21 with (go_at_call 21; refine (st_book (HS6.out.ext (by simp))).mono ?_; rw [HBK3.out]; rintro r w7 ⟨y3, d3, y4, d4, rfl, t1, t2, hx7, -, -⟩; dsimp only at t1 t2 ⊢; have HX7 : Hid (Ext w6 w7) := Ext.trans (by simp) hx7; have T1 := Lib.hid t1; clear t1 t2 hx7)
      generalize hW : World.alloc _ _ = wx
      generalize hC : w7.heap.size = C
      have hx78 : Ext w7 wx := by rw [← hW]; exact (by simp)
      have c0 : wx.cell? ⟨C, 0, none⟩ = some (vi last3) := by rw [← hW, ← hC]; simp [go_sem]
      have c1 : wx.cell? ⟨C, 1, none⟩ = some (.slice y3 bs3.length d3) := by rw [← hW, ← hC]; simp [go_sem]
      have c2 : wx.cell? ⟨C, 2, none⟩ = some (.slice y4 js3.length d4) := by rw [← hW, ← hC]; simp [go_sem]
      have hx68 := HX7.out.trans hx78
      replace b0 := xcell hx68 b0
      replace b1 := xcell hx68 b1
      have W2 := Lib.hid (Sl.below W1.out hx68.below)
      have V3 := Lib.hid (Sl.below T1.out hx78.below)
      have HX8 := Lib.hid hx68
      have wb2 := W2.out.bound
      have vb3 := V3.out.bound
      have lb8 := cell_lt b0
      have lc8 := cell_lt c0
      obtain ⟨li, hli⟩ : ∃ y, Hid (H3.p.lift = y) := ⟨_, rfl⟩
      obtain ⟨ya, yb, yd, yp, yf, yg, yh, yi, HSN⟩ : ∃ (a b : Int) (c : Bool) (d f : Int) (g h i : Bool), Hid (senseA H3.p = .agg #[vi a, vi b, .bool c, vi d, vi li, vi f, .bool g, .bool h, .bool i]) := ⟨H3.p.height, H3.p.ext, H3.p.door, H3.p.people, H3.p.bay, H3.p.full H3.p.ext, H3.p.full (H3.p.ext - 1), H3.p.full (H3.p.ext + 1), by
       unfold Hid senseA
       rw [hli.out]⟩
      rw [HBK.out, HBK3.out] at HRG
      replace HRG : Hid (∀ x ∈ bs, (∃ y, (⟨last3, bs3, js3⟩ : Ch.Book).find x.ticket = some y ∧ y = x) ∨ ((⟨last3, bs3, js3⟩ : Ch.Book).find x.ticket = none ∧ H3.p.where_ x.car.id = none ∧ li ≠ x.car.id)) := by rw [← hli.out]; exact HRG.out
      clear hW hC hx78 hx68 T1 HX7 W1 U1 HX4 hBl hBge HNB HN1 hq0 hq1 hq2 hq3 hq4 hq5 hq6 hq7 hq8 hq9 hq10 hq11 hql
      go_upto_region 22 with fail
      go_loopw [14] (fun s14 wl => ∃ v : Nat, v ≤ bs.length ∧ s14 = .int .i64 (v : Int) ∧ Ext wx wl) (fun s14 _ => bs.length - (intOf s14).toNat)
      case atStart => exact ⟨0, Nat.zero_le _, rfl, (by simp)⟩
      case round =>
       obtain ⟨v, hv, rfl, o, no, rfl⟩ := hrel
       by_cases hvl : v < bs.length
       ·obtain ⟨bb, q, s, rfl, hs', ds⟩ := W2.out.get hvl
        have hmem := List.mem_of_getElem? hs'
        have hrg := HRG.out s hmem
        obtain ⟨st, ⟨sid, ⟨sl1, sl2, sl3⟩⟩, ⟨sp1, sp2, sp3⟩⟩ := s
        have ds := at8 ds
        dsimp only at ds hrg
        have hq2 := cell_lt ds.1
        have hv0 : (0 : Int) ≤ (v : Int) := by omega
        have hv1 : (v : Int) < (bs.length : Int) := by omega
        have hv2 : (v : Int) ≤ (d1 : Int) := by omega
        obtain ⟨e0, e1, e2, e3, e4, e5, e6, e7⟩ := ds
        clear hs' hmem
        go_upto_region 25 with fail
        generalize hW : World.alloc _ _ = wz
        generalize hX : wx.heap.size + o.size = X
        have hxz : Ext wx wz := by rw [← hW]; exact (by simp)
        have x0 : wz.cell? ⟨X, 0, none⟩ = some (vi st) := by rw [← hW, ← hX]; simp [go_sem]
        have x1 : wz.cell? ⟨X, 1, none⟩ = some (vi sid) := by rw [← hW, ← hX]; simp [go_sem]
        have x2 : wz.cell? ⟨X, 2, none⟩ = some (vi sl1) := by rw [← hW, ← hX]; simp [go_sem]
        have x3 : wz.cell? ⟨X, 3, none⟩ = some (vi sl2) := by rw [← hW, ← hX]; simp [go_sem]
        have x4 : wz.cell? ⟨X, 4, none⟩ = some (vi sl3) := by rw [← hW, ← hX]; simp [go_sem]
        have x5 : wz.cell? ⟨X, 5, none⟩ = some (vi sp1) := by rw [← hW, ← hX]; simp [go_sem]
        have x6 : wz.cell? ⟨X, 6, none⟩ = some (vi sp2) := by rw [← hW, ← hX]; simp [go_sem]
        have x7 : wz.cell? ⟨X, 7, none⟩ = some (vi sp3) := by rw [← hW, ← hX]; simp [go_sem]
        replace c0 := xcell hxz c0
        replace c1 := xcell hxz c1
        replace c2 := xcell hxz c2
        have V4 := Lib.hid (Sl.below V3.out hxz.below)
        have HXZ := Lib.hid (HX8.out.trans hxz)
        have HXY := Lib.hid hxz
        have lx := cell_lt x0
        have lc9 := cell_lt c0
        clear hW hX hxz e0 e1 e2 e3 e4 e5 e6 e7 hq2
        rcases hrg with ⟨y, hf, rfl⟩ | ⟨hf, hwn, hln⟩
        ·unfold Ch.Book.find at hf
         dsimp only at hf
         have hy1 := List.mem_of_find?_eq_some hf
         obtain ⟨si, s2, hsi, hsl, hst, htt⟩ := stay_at (last := last3) (js := js3) ⟨_, hy1, rfl⟩
         dsimp only at hsi htt
         have hs2 : s2 = ⟨st, ⟨sid, ⟨sl1, sl2, sl3⟩⟩, ⟨sp1, sp2, sp3⟩⟩ := by
          rw [← hst]
          unfold Ch.Book.stay Ch.Book.find
          dsimp only
          rw [hf]
          rfl
         subst hs2
         have HI : Hid (Ch.indexOf (fun s : Ch.Stay => s.ticket == st) bs3 = (si : Int)) := hsi
         have hsm : si < bs3.length := (List.getElem?_eq_some_iff.1 hsl).1
         obtain ⟨b9, q9, s9, rfl, hs9, d9⟩ := V4.out.get hsm
         rw [hsl] at hs9
         cases hs9
         have d9 := at8 d9
         dsimp only at d9
         have hq9 := cell_lt d9.1
         obtain ⟨g0, g1, g2, g3, g4, g5, g6, g7⟩ := d9
         have hs0 : (0 : Int) ≤ (si : Int) := by omega
         have hs1 : (si : Int) < (bs3.length : Int) := by omega
         have hs2' : (si : Int) ≤ (d3 : Int) := by omega
         have hq : ∀ w, (Go.binOp .neq 61 (.agg #[vi st, vi sid, vi sl1, vi sl2, vi sl3, vi sp1, vi sp2, vi sp3]) (.agg #[vi st, vi sid, vi sl1, vi sl2, vi sl3, vi sp1, vi sp2, vi sp3])).run Tryz.prog w = .ok (.bool false) w := fun w => by rw [neqStruct w (eqStay w 9996 ⟨st, ⟨sid, ⟨sl1, sl2, sl3⟩⟩, ⟨sp1, sp2, sp3⟩⟩ ⟨st, ⟨sid, ⟨sl1, sl2, sl3⟩⟩, ⟨sp1, sp2, sp3⟩⟩)]; simp
         clear hf hy1 hsi hsl hst htt
         go_upto_region 27 with (go_at_call 22; (with_reducible refine (find_stay (si : Int) _ _ _ _ _ _ _ _ bs3 _ (Sl.below V4.out (Ext.below (by simp))) HI).mono ?_); rintro e w1 ⟨rfl, o1, n1, rfl⟩)
         (refine wp_region_ext (by kernel_rfl) (by kernel_rfl) ?_; (repeat (first | go_big_quiet_step (fail) | quiet_step (fail))); refine wpQuiet_nil ?_; intro _ hw'; obtain ⟨oq, nq, hw''⟩ := hw'; subst hw'')
         go_wp2
         go_roundw
         case rel => exact ⟨v + 1, by omega, by go_num, HXY.out.trans (by simp)⟩
         case measure => simp [intOf]; omega
        ·have HI : Hid (Ch.indexOf (fun s : Ch.Stay => s.ticket == st) bs3 = -1) := index_none0 (by unfold Ch.Book.find at hf; exact hf)
         have HWN := Lib.hid hwn
         have hln2 : ¬ li = sid := hln
         clear hf hwn hln
         go_wp2_with (first
          | (go_at_call 22; (with_reducible refine (find_stay (-1) _ _ _ _ _ _ _ _ bs3 _ (Sl.below V4.out (Ext.below (by simp))) HI).mono ?_); rintro e w1 ⟨rfl, o1, n1, rfl⟩)
          | (go_at_call 23; (with_reducible refine (where_none0 ((HS6.out.ext HXZ.out).plantAt.ext (by simp)) hwf3 _ HWN).mono ?_); rintro e w1 ⟨rfl, o1, n1, rfl⟩)
          | (go_at_call 18; (with_reducible refine (sense_val _ ((HS6.out.ext HXZ.out).plantAt.ext (by simp)) hwf3 HSN).mono ?_); rintro e w1 ⟨rfl, o1, n1, rfl⟩))
         go_roundw
         case rel => exact ⟨v + 1, by omega, by go_num, HXY.out.trans (by simp (maxDischargeDepth := 60))⟩
         case measure => simp [intOf]; omega
       ·have hvn : ¬ (v : Int) < (bs.length : Int) := by omega
        go_wp2
        go_roundw
        case rel => exact ⟨m + 1, lb2, hb2, H3, by omega, rfl, by go_num, HSZ3.out, ((HS6.out.ext (HX8.out.trans (by simp))).drop (fun i h => h.elim)).more (by omega)⟩
        case measure => simp [intOf]; omega
     ·have hmM2 : ¬ (m : Int) < (M : Int) := by omega
      go_wp2
      go_roundw
      case rel => exact ⟨j + 1, lb1, hb1, h2, by omega, rfl, by go_num, HSZ2.out, (HSQ.out.ext (by simp)).more (by omega)⟩
      case measure => simp [intOf]; omega
  ·go_wp2
   go_ret
   exact ⟨rfl, HXA.out.trans (HSR.out.x.trans (by simp))⟩
variable {H : Type} {enc : TypeId × Value → H} {w : World}
theorem rd_book {cs : List Value} (h : Rd enc Tryz.prog w 39 cs) : ∃ last a1 n1 c1 a2 n2 c2 l js, cs = [vi last, .slice a1 n1 c1, .slice a2 n2 c2] ∧ Sl w 8 stayCells l a1 n1 c1 ∧ Sl w 2 jobCells js a2 n2 c2 ∧ I64 last ∧ (∀ s ∈ l, I64Y s) ∧ ∀ j ∈ js, I64J j := by
 obtain ⟨hl, hf⟩ := rd_struct [(3, 0, 1), (36, 1, 1), (37, 2, 1)] 3 (by kernel_rfl) (by kernel_rfl) (by kernel_rfl) h
 obtain ⟨last, h0, g0⟩ := rd_int Tryz.underlying3 (hf (3, 0, 1) (by simp))
 obtain ⟨l, a1, n1, c1, h1, s1, g1⟩ := rd_list (c := 8) stayCells I64Y (by decide) (fun _ => rfl) Tryz.underlying36 (by kernel_rfl) (fun ecs h => rd_stay h) (hf (36, 1, 1) (by simp))
 obtain ⟨js, a2, n2, c2, h2, s2, g2⟩ := rd_list (c := 2) jobCells I64J (by decide) (fun _ => rfl) Tryz.underlying37 (by kernel_rfl) (fun ecs h => rd_job h) (hf (37, 2, 1) (by simp))
 refine ⟨last, a1, n1, c1, a2, n2, c2, l, js, ?_, s1, s2, g0, g1, g2⟩
 match cs, hl with
 | [x0, x1, x2], _ => simp at h0 h1 h2; simp [h0, h1, h2]
open Go.ChangeShapes Go.WideShapes Go.ChangeAt Go.RowKit
variable {H : Type} {enc : TypeId × Value → H} {w : World}
def RAct.Whole (w : World) (x : RAct) : Prop := x.Good ∧ ∃ ls js, Sl w 8 stayCells ls x.a1 x.n1 x.c1 ∧ Sl w 2 jobCells js x.a2 x.n2 x.c2
theorem rd_actB {cs : List Value} (h : Rd enc Tryz.prog w 41 cs) : ∃ x : RAct, cs = ractCells x ∧ x.Whole w := by
 obtain ⟨hl, hf⟩ := rd_struct [(9, 0, 1), (3, 1, 1), (3, 2, 1), (34, 3, 4), (9, 7, 1), (35, 8, 1), (39, 9, 3)] 12 (by kernel_rfl) (by kernel_rfl) (by kernel_rfl) h
 obtain ⟨kd, h0, g0⟩ := rd_string (by kernel_rfl) (hf (9, 0, 1) (by simp))
 obtain ⟨a, h1, g1⟩ := rd_int Tryz.underlying3 (hf (3, 1, 1) (by simp))
 obtain ⟨b, h2, g2⟩ := rd_int Tryz.underlying3 (hf (3, 2, 1) (by simp))
 obtain ⟨c, h3, g3⟩ := rd_car (hf (34, 3, 4) (by simp))
 obtain ⟨s, h4, g4⟩ := rd_string (by kernel_rfl) (hf (9, 7, 1) (by simp))
 obtain ⟨k, h5, g5, g5'⟩ := rd_u64 (by kernel_rfl) (hf (35, 8, 1) (by simp))
 obtain ⟨last, a1, n1, c1, a2, n2, c2, l, js, h6, s1, s2, g6, _, _⟩ := rd_book (hf (39, 9, 3) (by simp))
 refine ⟨⟨kd, a, b, c, s, k, last, a1, n1, c1, a2, n2, c2⟩, ?_, ⟨g0, g4, g1, g2, g3, g6, g5, g5', s1.bound, s2.bound⟩, l, js, s1, s2⟩
 match cs, hl with
 | [x0, x1, x2, x3, x4, x5, x6, x7, x8, x9, x10, x11], _ => simp [carCells] at h0 h1 h2 h3 h4 h5 h6; simp [ractCells, h0, h1, h2, h3, h4, h5, h6]
theorem wholes_good {l : List RAct} (h : ∀ x ∈ l, RAct.Whole w x) : ∀ x ∈ l, x.Good := fun x hx => (h x hx).1
theorem handed_laid_shaped {H : Type} {enc : TypeId × Value → H} {a : Assume} {C : Checked} {os : Os} {f : FuncId} {fn : Func} {s : ChangeSpec} {conds : List PathCond} {apart fresh handsOn again : Bool} {X : World → Array Value → Prop}
  (hX : ∀ (w w' : World) (args : Array Value), w.heap = w'.heap → X w args → X w' args)
  (own : ownKnob C.prog.godebug = none) (started : os.Started) (noInit : C.prog.inits.idxOf? f = none) (hfn : C.prog.funcs[f]? = some fn)
  (witness : ∃ (w : World) (tape : Tape) (i : Input), w.os = os ∧ (w.forCall tape i).Shaped C.prog ∧ i.vars = [] ∧ Input.okWide C.prog (w.forCall tape i) .any w.heap.size f i ∧
   ((s.pre enc C.prog fn conds apart (w.forCall tape i).memory i.args ∧ X (w.forCall tape i).memory i.args) ∧ sizedMet enc C.prog fn (OpenSpec.ofChange s) apart (w.forCall tape i).memory i.args) ∧ a.holds C.prog (lone (Frame.enter C.prog f i.args .normal) [] (w.forCall tape i)))
  (contract : ∀ (W : World) (base : Nat) (args : Array Value) (ds gs : List (DataW H)) (before : List MemPlace),
   (∀ (j : Nat) t v, fn.params[j]? = some t → args[j]? = some v → Value.okWide C.prog W .any base t v) →
   DataW.Whole enc C.prog fn.params.toList s.vars apart W args.toList ds gs before →
   (DataW.weightsEach C.prog (fn.params.toList ++ s.plain.varTypes C.prog) (ds ++ gs)).all (· ≤ reachBytes) = true → X W args → W.ShapedOpen C.prog →
   Calls C.prog f args W fun e W' => ∃ v, e = .returned v ∧ s.post enc C.prog fn apart fresh handsOn again W args v W') :
  ReturnsInHanded a C os f .any (fun w args => (s.pre enc C.prog fn conds apart w args ∧ X w args) ∧ sizedMet enc C.prog fn (OpenSpec.ofChange s) apart w args) (s.post enc C.prog fn apart fresh handsOn again) := by
 refine returnsInHanded_of_calls own started noInit witness fun w tape i _ hshape _ hok hpre _ => ?_
 obtain ⟨_, _, _, g, hg, _, _, _, _, hval⟩ := hok
 obtain rfl : g = fn := Option.some.inj (hg.symm.trans hfn)
 obtain ⟨⟨⟨ds, gs, before, hw, _⟩, hx⟩, hz⟩ := hpre
 refine (contract (w.forCall tape i) w.heap.size i.args ds gs before hval (DataW.Whole.of_heap (by rfl) hw) (hz.weights hw) (hX _ _ _ (by rfl) hx) hshape).mono ?_
 rintro e W' ⟨v, rfl, hp⟩
 exact ChangeSpec.post_blind hp
def starN : String := String.ofList (Char.ofNat 42 :: String.toList "errors.errorString")
theorem star_rows : ∀ t, t = starN → ((List.range Tryz.prog.types.size).all fun u => Tryz.prog.typeName? 3 u != some t || u == 226) = true := by
 intro t ht; subst ht; kernel_rfl
theorem rowErr (s : String) (hs : s = starN) (u : TypeId) (h : Tryz.prog.typeName? 3 u = some s) : u = 226 :=
 typeName_ptr_named (nm := "errors.errorString") (star_rows _ (by decide)) (by kernel_rfl) (by decide) u (by rw [h, hs]; exact congrArg some (by decide))
theorem tab_of {w : World} {name : String} (hg : Tryz.prog.globalNamed name = some 2) (h : Lib.TabIs Tryz.prog w name .u64 Lib.pow10Tab) : Tab w := by
 unfold Lib.TabIs World.var? at h
 rw [hg] at h
 simp only [Option.bind_some] at h
 split at h
 ·rename_i cs t fr hb
  cases h
  exact ⟨t, fr, hb⟩
 ·cases h
theorem cell_of_var {w : World} {name : String} {g : Nat} {tp : TypeId} {p : Value} (hg : Tryz.prog.globalNamed name = some g) (h : w.var? Tryz.prog name = some #[.iface tp p]) : w.cell? ⟨g, 0, none⟩ = some (.iface tp p) := by
 have h0 := World.var?_cell hg h 0
 simpa using h0
theorem libs_of {w : World} {n0 n1 n2 n3 n4 n5 : String} {d0 d1 d2 d3 d4 d5 : DataW Unit} {s4 s5 : String} {x4 x5 : List UInt8} {r : List (String × DataW Unit)}
  (h : laidMet Tryz.prog ((n0, d0) :: (n1, d1) :: (n2, d2) :: (n3, d3) :: (n4, d4) :: (n5, d5) :: r) w) (hs : w.ShapedOpen Tryz.prog)
  (e2 : d2 = Lib.tabData .u64 Lib.pow10Tab) (e4 : d4 = .iface s4 (.ptr (.agg [.lit (.string x4)]))) (q4 : s4 = starN) (e5 : d5 = .iface s5 (.ptr (.agg [.lit (.string x5)]))) (q5 : s5 = starN)
  (g2 : Tryz.prog.globalNamed n2 = some 2) (g4 : Tryz.prog.globalNamed n4 = some 1) (g5 : Tryz.prog.globalNamed n5 = some 0) : Libs w := by
 subst e2 e4 e5
 have h2 := h.tail.tail
 obtain ⟨_, _, hv4, -, -, -⟩ := laid_sentinel h2.tail.tail g4 (by kernel_rfl) (Tryz.underlying43) (rowErr _ q4) Tryz.underlying226 Tryz.underlying228 rfl rfl Tryz.underlying9 (by kernel_rfl) (by kernel_rfl)
 obtain ⟨_, _, hv5, -, -, -⟩ := laid_sentinel h2.tail.tail.tail g5 (by kernel_rfl) (Tryz.underlying43) (rowErr _ q5) Tryz.underlying226 Tryz.underlying228 rfl rfl Tryz.underlying9 (by kernel_rfl) (by kernel_rfl)
 exact ⟨tab_of g2 (Lib.tabIs_of_head g2 (t := 220) (e := 35) (n := 20) (by kernel_rfl) (by kernel_rfl) (by kernel_rfl) (by kernel_rfl) (by kernel_rfl) h2), Tryz.laysM146.s1_3 w hs, ⟨_, _, cell_of_var g5 hv5⟩, ⟨_, _, cell_of_var g4 hv4⟩⟩
theorem topRight_libs {W : World} (hL : laidMetH Tryz.prog Rows.topRightRow.laid W) (hs : W.ShapedOpen Tryz.prog) : Libs W := by
 rw [Go.MakeChecks.laidMetH_plain _ _ _ (by kernel_rfl)] at hL
 exact libs_of hL hs rfl rfl (by decide) rfl (by decide) (by kernel_rfl) (by kernel_rfl) (by kernel_rfl)
theorem topRight_lifted (os : Os) (started : os.Started) (H : Type) (enc : TypeId × Value → H) :
  ReturnsInHanded {} Tryz.checked os 6 .any (fun w args => (Rows.topRightSpec.pre enc Tryz.prog Tryz.f6 [] false w args ∧ laidMetH Tryz.prog Rows.topRightRow.laid w) ∧ sizedMet enc Tryz.prog Tryz.f6 (OpenSpec.ofChange Rows.topRightSpec) false w args)
   (Rows.topRightSpec.post enc Tryz.prog Tryz.f6 false true false false) := by
 refine handed_laid_shaped (C := Tryz.checked) (X := fun w _ => laidMetH Tryz.prog Rows.topRightRow.laid w) (fun _ _ _ hh h => h.of_heap hh) own started (by kernel_rfl) Tryz.func6
  (ChangeSpec.witness_shaped (enc := enc) (C := Tryz.checked) (os := os) (X := fun w _ => laidMetH Tryz.prog Rows.topRightRow.laid w) false (World.laidAll Tryz.prog os Rows.topRightRow.laid) #[.slice none 0 0, .slice none 0 0] 8 (World.laidAll_os _ _ _)
   (World.shaped_of_ZipB (by kernel_rfl) (by kernel_rfl)) (by kernel_rfl) (by kernel_rfl) (by kernel_rfl)
   (by rw [Go.MakeChecks.laidMetH_plain _ _ _ (by kernel_rfl)]; exact laidMet_laidAll _ (by kernel_rfl) (by kernel_rfl))) ?_
 intro W base args ds gs before hval0 hW _ hL hsh
 have hval : ∀ (j : Nat) t v, Tryz.f6.params[j]? = some t → args[j]? = some v → Value.okWide Tryz.prog W .any base t v := hval0
 refine law_contract (tb := 4) laidOut Tryz.underlying4 (by kernel_rfl) rfl (fun ds hd => ?_) (by kernel_rfl) hW ?_
 ·match ds, hd with
  | [_, _], _ => rfl
 obtain ⟨p, q, hA0, hV, rfl, hfz, hnd⟩ := hW
 have hA : DataW.TrodAll enc Tryz.prog W 0 (fun _ => true) true Tryz.f6.params.toList args.toList ds p := hA0
 rw [Tryz.params6] at hA hval
 obtain ⟨v0, vs0, d0, ds0, p0, q0, hargs, rfl, rfl, h0, r0⟩ := trodAll_cons hA
 obtain ⟨v1, vs1, d1, ds1, p1, q1, rfl, rfl, rfl, h1, r1⟩ := trodAll_cons r0
 obtain ⟨rfl, rfl, rfl⟩ := trodAll_nil r1
 obtain rfl : args = #[v0, v1] := by cases args; simp_all
 obtain ⟨a0, n0, c0, rfl⟩ := okWide_slice Tryz.underlying22 (hval 0 _ v0 rfl rfl)
 obtain ⟨x0, _, _, _, e0, s0, g0⟩ := rd_list (c := 3) sizeCells I64S (by decide) (fun _ => rfl) Tryz.underlying22 (by kernel_rfl) (fun ecs h => rd_size h) (rd_of_trod h0)
 simp only [Value.cells, List.cons.injEq, Value.slice.injEq, and_true] at e0
 obtain ⟨rfl, rfl, rfl⟩ := e0
 obtain ⟨a1, n1, c1, rfl⟩ := okWide_slice Tryz.underlying23 (hval 1 _ v1 rfl rfl)
 obtain ⟨x1, _, _, _, e1, s1, g1⟩ := rd_list (c := 12) ractCells (RAct.Whole W) (by decide) (fun _ => rfl) Tryz.underlying23 (by kernel_rfl) (fun ecs h => rd_actB h) (rd_of_trod h1)
 simp only [Value.cells, List.cons.injEq, Value.slice.injEq, and_true] at e1
 obtain ⟨rfl, rfl, rfl⟩ := e1
 exact topRight_walk s0 s1 (wholes_good g1) (topRight_libs hL hsh)
theorem topRight_holds : Rows.TopRightSaid :=
 OpenClaim.holds_of_wide 6 Tryz.f6 rfl rfl rfl rfl rfl rfl rfl ⟨rfl, rfl, rfl, rfl, rfl⟩ rfl rfl rfl rfl rfl (by kernel_rfl) Tryz.func6 (by kernel_rfl)
  (of_decide_eq_true (by kernel_rfl)) (by unfold Func.isWrapper; first | (rw [if_pos (by decide +kernel)]; kernel_rfl) | (rw [if_neg (by decide +kernel)]; exact ⟨rfl, rfl⟩))
  (fun os started H enc _ => topRight_lifted os started H enc)
theorem topRight_proved : Rows.TopRightCardSaid :=
 Claim7.holds_tied_plain_at .later [] [.data, .data, .data, .data, .sentinel, .sentinel, .pinned] true Rows.topRightCard.stood.harness true
  topRight_holds (fun _ h => by cases h) (by kernel_rfl) (fun _ h => by cases h) topRight_row_tie rfl ⟨rfl, rfl⟩ (by kernel_rfl) rfl
  (fun f fn hf hfn => by
   obtain rfl : f = 6 := Option.some.inj ((show Tryz.prog.funcNamed Tryz.f6.name = some 6 by kernel_rfl).symm.trans hf) |>.symm
   obtain rfl : fn = Tryz.f6 := (Option.some.inj (Tryz.func6.symm.trans hfn)).symm
   have hall : (Tryz.f6.params.toList.all fun u => !Tryz.prog.wantsStandIn u) = true := by kernel_rfl
   exact ⟨by kernel_rfl, fun j t ht => by
    have hm : t ∈ Tryz.f6.params.toList := Array.mem_toList_iff.2 (Array.mem_of_getElem? ht)
    exact (show Tryz.prog.wantsStandIn t = false by simpa using List.all_eq_true.1 hall t hm)⟩)
  (by kernel_rfl)
#print axioms topRight_proved
end Go.Proofs.YtplomeacjbkgnacGreatDoor
