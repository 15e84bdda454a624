/-
  The walks of what the statements on machines share: what comes from outside, and a machine that moves.
-/
import Derived.Test.YtplomeacjbkgnabAct
import Derived.Test.YtplomeacjbkgnabStr
namespace Go.Proofs.Ytplomeacjbkgnab
open Go.RowKit

/-- an act, as an argument -/
abbrev ractA (x : RAct) : Value := .agg #[.string x.kind, vi x.a, vi x.b, vi x.car.id, vi x.car.size.long, vi x.car.size.high, vi x.car.size.heavy, .string x.s, .int .u64 x.k, vi x.last, .slice x.a1 x.n1 x.c1, .slice x.a2 x.n2 x.c2]

set_option maxRecDepth 100000 in
set_option maxHeartbeats 2000000 in
theorem outside_nostep (pb mb : Nat) (p : Ch.Plant) (w : World) (h : PlantAt w pb mb p) (a b i l g e k t : Int) (s : ByteArray) (a1 a2 : Option Addr) (n1 c1 n2 c2 : Nat) (hs : s.size ≤ maxLen) (hn : decide (0 < s.size) = false) :
    Calls Try.prog 32 #[.pointer (some ⟨pb, 0, none⟩), .agg #[.string Ch.kStep, vi a, vi b, vi i, vi l, vi g, vi e, .string s, .int .u64 k, vi t, .slice a1 n1 c1, .slice a2 n2 c2]] w (Did pb mb w p (.tuple #[])) := by
  have HP := Lib.hid h
  unfold maxLen at hs
  unfold Ch.kStep
  clear h
  go_enter Try.func32, Try.ntmps32
  go_wp2
  go_end0
  exact ⟨rfl, HP.out.ext (by simp (maxDischargeDepth := 60)), Kept.of_ext (by simp (maxDischargeDepth := 60))⟩

theorem byte0 {s : ByteArray} {c : Int} (h : s.data.toList.head?.map (fun c : UInt8 => (c.toNat : Int)) = some c) : 0 < s.size ∧ ∃ h0 : 0 < s.size, (s[0].toNat : Int) = c := by
  have hz : 0 < s.size := by
    by_cases hz : 0 < s.size
    · exact hz
    · have : s.data.toList = [] := List.eq_nil_of_length_eq_zero (by simpa using hz)
      rw [this] at h; cases h
  refine ⟨hz, hz, ?_⟩
  have : s.data.toList.head? = some s[0] := by
    rw [List.head?_eq_getElem?, List.getElem?_eq_getElem (by simpa using hz)]; rfl
  rw [this] at h
  simpa using h

set_option maxRecDepth 100000 in
set_option maxHeartbeats 2000000 in
theorem outside_step (pb mb : Nat) (p : Ch.Plant) (w : World) (h : PlantAt w pb mb p) (hp : p.WF) (a b i l g e k t : Int) (s : ByteArray) (a1 a2 : Option Addr) (n1 c1 n2 c2 : Nat) (hs : s.size ≤ maxLen) (hn : 0 < s.size) :
    Calls Try.prog 32 #[.pointer (some ⟨pb, 0, none⟩), .agg #[.string Ch.kStep, vi a, vi b, vi i, vi l, vi g, vi e, .string s, .int .u64 k, vi t, .slice a1 n1 c1, .slice a2 n2 c2]] w (Did pb mb w (p.step (s[0].toNat : Int)) (.tuple #[])) := by
  have HP := Lib.hid h
  unfold maxLen at hs
  unfold Ch.kStep
  clear h
  go_enter Try.func32, Try.ntmps32
  go_wp2_with (go_at_call 43; (with_reducible refine (step_any (HP.out.ext (by simp (maxDischargeDepth := 60))) hp _).mono ?_); rintro e w1 ⟨rfl, hq, hk⟩)
  go_end0
  exact ⟨rfl, hq, (Kept.of_ext (by simp (maxDischargeDepth := 60))).trans hk⟩

set_option maxRecDepth 100000 in
set_option maxHeartbeats 2000000 in
theorem outside_walk (pb mb : Nat) (p : Ch.Plant) (w : World) (h : PlantAt w pb mb p) (hp : p.WF) (a b i l g e k t : Int) (s : ByteArray) (a1 a2 : Option Addr) (n1 c1 n2 c2 : Nat) :
    Calls Try.prog 32 #[.pointer (some ⟨pb, 0, none⟩), .agg #[.string Ch.kWalk, vi a, vi b, vi i, vi l, vi g, vi e, .string s, .int .u64 k, vi t, .slice a1 n1 c1, .slice a2 n2 c2]] w (Did pb mb w ((p.walk a).1) (.tuple #[])) := by
  have HP := Lib.hid h
  unfold Ch.kWalk
  clear h
  go_enter Try.func32, Try.ntmps32
  go_wp2_with (go_at_call 54; (with_reducible refine (walk_any (HP.out.ext (by simp (maxDischargeDepth := 60))) hp _).mono ?_); rintro e w1 ⟨rfl, hq, hk⟩)
  go_end0
  exact ⟨rfl, hq, (Kept.of_ext (by simp (maxDischargeDepth := 60))).trans hk⟩

set_option maxRecDepth 100000 in
set_option maxHeartbeats 2000000 in
theorem outside_arrive (pb mb : Nat) (p : Ch.Plant) (w : World) (h : PlantAt w pb mb p) (hp : p.WF) (a b i l g e k t : Int) (s : ByteArray) (a1 a2 : Option Addr) (n1 c1 n2 c2 : Nat) :
    Calls Try.prog 32 #[.pointer (some ⟨pb, 0, none⟩), .agg #[.string Ch.kArrive, vi a, vi b, vi i, vi l, vi g, vi e, .string s, .int .u64 k, vi t, .slice a1 n1 c1, .slice a2 n2 c2]] w (Did pb mb w ((p.arrive a).1) (.tuple #[])) := by
  have HP := Lib.hid h
  unfold Ch.kArrive
  clear h
  go_enter Try.func32, Try.ntmps32
  go_wp2_with (go_at_call 29; (with_reducible refine (arrive_any (HP.out.ext (by simp (maxDischargeDepth := 60))) hp _).mono ?_); rintro e w1 ⟨rfl, hq, hk⟩)
  go_end0
  exact ⟨rfl, hq, (Kept.of_ext (by simp (maxDischargeDepth := 60))).trans hk⟩

set_option maxRecDepth 100000 in
set_option maxHeartbeats 2000000 in
theorem outside_leave (pb mb : Nat) (p : Ch.Plant) (w : World) (h : PlantAt w pb mb p) (hp : p.WF) (a b i l g e k t : Int) (s : ByteArray) (a1 a2 : Option Addr) (n1 c1 n2 c2 : Nat) :
    Calls Try.prog 32 #[.pointer (some ⟨pb, 0, none⟩), .agg #[.string Ch.kLeave, vi a, vi b, vi i, vi l, vi g, vi e, .string s, .int .u64 k, vi t, .slice a1 n1 c1, .slice a2 n2 c2]] w (Did pb mb w (p.leave.1) (.tuple #[])) := by
  have HP := Lib.hid h
  unfold Ch.kLeave
  clear h
  go_enter Try.func32, Try.ntmps32
  go_wp2_with (go_at_call 30; (with_reducible refine (leave_any (HP.out.ext (by simp (maxDischargeDepth := 60)))).mono ?_); rintro e w1 ⟨rfl, hq, hk⟩)
  go_end0
  exact ⟨rfl, hq, (Kept.of_ext (by simp (maxDischargeDepth := 60))).trans hk⟩

set_option maxRecDepth 100000 in
set_option maxHeartbeats 2000000 in
theorem outside_stall (pb mb : Nat) (p : Ch.Plant) (w : World) (h : PlantAt w pb mb p) (hp : p.WF) (a b i l g e k t : Int) (s : ByteArray) (a1 a2 : Option Addr) (n1 c1 n2 c2 : Nat) :
    Calls Try.prog 32 #[.pointer (some ⟨pb, 0, none⟩), .agg #[.string Ch.kStall, vi a, vi b, vi i, vi l, vi g, vi e, .string s, .int .u64 k, vi t, .slice a1 n1 c1, .slice a2 n2 c2]] w (Did pb mb w ((p.setStall a).1) (.tuple #[])) := by
  have HP := Lib.hid h
  unfold Ch.kStall
  clear h
  go_enter Try.func32, Try.ntmps32
  go_wp2_with (go_at_call 55; (with_reducible refine (stall_any (HP.out.ext (by simp (maxDischargeDepth := 60))) _).mono ?_); rintro e w1 ⟨rfl, hq, hk⟩)
  go_end0
  exact ⟨rfl, hq, (Kept.of_ext (by simp (maxDischargeDepth := 60))).trans hk⟩

set_option maxRecDepth 100000 in
set_option maxHeartbeats 2000000 in
theorem outside_other (pb mb : Nat) (p : Ch.Plant) (w : World) (h : PlantAt w pb mb p) (kd : ByteArray) (a b i l g e k t : Int) (s : ByteArray) (a1 a2 : Option Addr) (n1 c1 n2 c2 : Nat) (k1 : kd ≠ Ch.kStep) (k2 : kd ≠ Ch.kWalk) (k3 : kd ≠ Ch.kArrive) (k4 : kd ≠ Ch.kLeave) (k5 : kd ≠ Ch.kStall) :
    Calls Try.prog 32 #[.pointer (some ⟨pb, 0, none⟩), .agg #[.string kd, vi a, vi b, vi i, vi l, vi g, vi e, .string s, .int .u64 k, vi t, .slice a1 n1 c1, .slice a2 n2 c2]] w (Did pb mb w p (.tuple #[])) := by
  have HP := Lib.hid h
  have q1 : (kd.toList == [115, 116, 101, 112]) = false := str_ne k1
  have q2 : (kd.toList == [119, 97, 108, 107]) = false := str_ne k2
  have q3 : (kd.toList == [97, 114, 114, 105, 118, 101]) = false := str_ne k3
  have q4 : (kd.toList == [108, 101, 97, 118, 101]) = false := str_ne k4
  have q5 : (kd.toList == [115, 116, 97, 108, 108]) = false := str_ne k5
  clear h k1 k2 k3 k4 k5
  go_enter Try.func32, Try.ntmps32
  go_wp2_with fail
  go_end0
  exact ⟨rfl, HP.out.ext (by simp (maxDischargeDepth := 60)), Kept.of_ext (by simp (maxDischargeDepth := 60))⟩

theorem first_some (x : RAct) {c : Int} (h : x.act.first = some c) : ∃ hn : 0 < x.s.size, (x.s[0].toNat : Int) = c := (byte0 h).2

theorem first_none (x : RAct) (h : x.act.first = none) : decide (0 < x.s.size) = false := by
  simp only [Ch.Act.first, Option.map_eq_none_iff, List.head?_eq_none_iff] at h
  have : x.act.s = x.s := rfl
  rw [this] at h
  have hz : x.s.size = 0 := by
    have : x.s.data.toList.length = 0 := by rw [h]; rfl
    simpa using this
  simp [hz]

/-- what comes from outside, or is done -/
theorem outside_any {pb mb : Nat} {p : Ch.Plant} {w : World} (h : PlantAt w pb mb p) (hp : p.WF) (x : RAct) (hg : x.Good) :
    Calls Try.prog 32 #[.pointer (some ⟨pb, 0, none⟩), ractA x] w (Did pb mb w (p.outside x.act) (.tuple #[])) := by
  unfold Ch.Plant.outside
  by_cases k1 : x.kind = Ch.kStep
  · rw [if_pos (show x.act.kind = Ch.kStep from k1)]
    cases hf : x.act.first with
    | none =>
      unfold ractA
      rw [k1]
      exact outside_nostep pb mb p w h _ _ _ _ _ _ _ _ _ _ _ _ _ _ _ hg.s (first_none x hf)
    | some c =>
      obtain ⟨hn, hc⟩ := first_some x hf
      unfold ractA
      rw [k1, ← hc]
      exact outside_step pb mb p w h hp _ _ _ _ _ _ _ _ _ _ _ _ _ _ _ hg.s hn
  rw [if_neg (show ¬ x.act.kind = Ch.kStep from k1)]
  by_cases k2 : x.kind = Ch.kWalk
  · rw [if_pos (show x.act.kind = Ch.kWalk from k2)]
    unfold ractA
    rw [k2]
    exact outside_walk pb mb p w h hp _ _ _ _ _ _ _ _ _ _ _ _ _ _ _
  rw [if_neg (show ¬ x.act.kind = Ch.kWalk from k2)]
  by_cases k3 : x.kind = Ch.kArrive
  · rw [if_pos (show x.act.kind = Ch.kArrive from k3)]
    unfold ractA
    rw [k3]
    exact outside_arrive pb mb p w h hp _ _ _ _ _ _ _ _ _ _ _ _ _ _ _
  rw [if_neg (show ¬ x.act.kind = Ch.kArrive from k3)]
  by_cases k4 : x.kind = Ch.kLeave
  · rw [if_pos (show x.act.kind = Ch.kLeave from k4)]
    unfold ractA
    rw [k4]
    exact outside_leave pb mb p w h hp _ _ _ _ _ _ _ _ _ _ _ _ _ _ _
  rw [if_neg (show ¬ x.act.kind = Ch.kLeave from k4)]
  by_cases k5 : x.kind = Ch.kStall
  · rw [if_pos (show x.act.kind = Ch.kStall from k5)]
    unfold ractA
    rw [k5]
    exact outside_stall pb mb p w h hp _ _ _ _ _ _ _ _ _ _ _ _ _ _ _
  rw [if_neg (show ¬ x.act.kind = Ch.kStall from k5)]
  exact outside_other pb mb p w h _ _ _ _ _ _ _ _ _ _ _ _ _ _ _ _ k1 k2 k3 k4 k5

/-! ### a closed fact: a machine that moves -/

def movedP1 : Ch.Plant := { Ch.Plant.new 1 with bay := 3 }

def movedP2 : Ch.Plant := movedP1.step 99

def movedP3 : Ch.Plant := movedP2.step 110

theorem moved_arrive : (Ch.Plant.new 1).arrive 3 = (movedP1, 0) := rfl

theorem movedW1 : movedP1.WF := by have := (Ch.Plant.WF.new (n := 1) (by decide) (by decide)).arrive 3; rw [moved_arrive] at this; exact this

theorem movedW2 : movedP2.WF := movedW1.step 99

theorem movedW3 : movedP3.WF := movedW2.step 110

set_option maxRecDepth 100000 in
set_option maxHeartbeats 4000000 in
theorem moved_any (w : World) : Calls Try.prog 26 #[] w fun e w' => e = .returned (.bool true) ∧ Ext w w' := by
  have e0 : errV ((Ch.Plant.new 1).arrive 3).2 = .nilIface := rfl
  have z1 : movedP3.lift = 3 := rfl
  have z2 : movedP3.bay = 0 := rfl
  have z3 : movedP3.hurt = false := rfl
  have M := Lib.hid moved_arrive
  go_enter Try.func26, Try.ntmps26
  go_wp2_with (go_at_call 27; (with_reducible refine (new_any 1 _ (by decide) (by decide)).mono ?_); rintro e w1 ⟨pb, mb, rfl, hq, hx, hb1, hb2⟩)
  go_at_call 29
  refine (arrive_any hq (Ch.Plant.WF.new (by decide) (by decide)) 3).mono ?_
  rintro e w2 ⟨rfl, hq2, hk2⟩
  rw [M.out] at hq2
  have H0 := Lib.hid hx
  have K2 := Lib.hid hk2
  clear hq hx hk2
  go_wp2_with fail
  go_at_call 43
  refine (step_any hq2 movedW1 99).mono ?_
  rintro e w3 ⟨rfl, hq3, hk3⟩
  have K3 := Lib.hid hk3
  clear hq2 hk3
  go_wp2_with fail
  go_at_call 43
  refine (step_any hq3 movedW2 110).mono ?_
  rintro e w4 ⟨rfl, hq4, hk4⟩
  have K4 := Lib.hid hk4
  have hlt := hq4.lt.1
  have hq4 : PlantAt w4 pb mb movedP3 := hq4
  have hc := hq4.cells
  have HQ := Lib.hid hq4
  clear hq3 hk4 hq4 hc
  go_wp2_with (first | (go_at_call 42; (with_reducible refine (sense_any HQ.out movedW3).mono ?_); rintro e w1 ⟨rfl, o1, n1, rfl⟩) | (go_at_call 44; (with_reducible refine (hurt_any (HQ.out.ext (by simp (maxDischargeDepth := 60)))).mono ?_); rintro e w1 ⟨rfl, o1, n1, rfl⟩))
  go_ret
  go_light
  refine ⟨by simp [z1, z2, z3], ?_⟩
  have hz : w.heap.size ≤ w1.heap.size := H0.out.below.size
  have own : ∀ i, Own pb mb i → w.heap.size ≤ i := fun i hi => by rcases hi with rfl | rfl <;> omega
  have b1 := below_kept (below_kept (below_kept H0.out.below (Nat.le_refl _) K2.out own) (Nat.le_refl _) K3.out own) (Nat.le_refl _) K4.out own
  exact (Ext.of_below b1).trans (by simp (maxDischargeDepth := 60))

end Go.Proofs.Ytplomeacjbkgnab
