/-
  The walk of the statements' own function calm.
-/
import Derived.Test.YtplomeacjbkgnacRun
namespace Go.Proofs.Ytplomeacjbkgnac
open Go.RowKit

def foldK (L : Int) (l : List RAct) (k : Nat) : Ch.Plant := ((l.take k).map RAct.act).foldl Ch.Plant.safely (Ch.Plant.new L)

theorem foldK_step (L : Int) {l : List RAct} {k : Nat} {x : RAct} (h : l[k]? = some x) : foldK L l (k + 1) = (foldK L l k).safely x.act := by
  unfold foldK
  rw [List.take_add_one, h]
  simp [List.foldl_append]

theorem foldK_safe {L : Int} (L1 : 1 ≤ L) (L2 : L ≤ 4) (l : List RAct) (k : Nat) : (foldK L l k).Safe := Ch.safe_fold (Ch.Plant.Safe.new L1 L2) _

theorem safely_levels (p : Ch.Plant) (a : Ch.Act) : (p.safely a).levels = p.levels := by
  have h1 : ∀ (p : Ch.Plant) (c : Int), (p.step c).levels = p.levels := by
    intro p c
    unfold Ch.Plant.step
    split
    · rfl
    · unfold Ch.Plant.act
      have h1 : ∀ n, (p.stretch n).levels = p.levels := fun n => by unfold Ch.Plant.stretch; split <;> rfl
      have h2 : p.grab.levels = p.levels := by
        unfold Ch.Plant.grab; split
        · rfl
        · split <;> rfl
      have h3 : p.put.levels = p.levels := by
        unfold Ch.Plant.put; split
        · rfl
        · split <;> rfl
      have h4 : ∀ i, (p.pass i).levels = p.levels := fun i => by
        unfold Ch.Plant.pass; dsimp only; split
        · rfl
        · split
          · split <;> rfl
          · split <;> rfl
      repeat' split
      all_goals first | rfl | exact h1 _ | exact h2 | exact h3 | exact h4 _
  unfold Ch.Plant.safely
  split
  · split
    · rfl
    · split
      · exact h1 _ _
      · rfl
  · rename_i hk
    unfold Ch.Plant.outside
    rw [if_neg hk]
    split
    · unfold Ch.Plant.walk; split
      · rfl
      · split <;> rfl
    · split
      · unfold Ch.Plant.arrive; split
        · rfl
        · split
          · rfl
          · split <;> rfl
      · split
        · unfold Ch.Plant.leave; split <;> rfl
        · split
          · unfold Ch.Plant.setStall; split <;> rfl
          · rfl

theorem foldK_levels (L : Int) (l : List RAct) (k : Nat) : (foldK L l k).levels = L := by
  unfold foldK
  have : ∀ (m : List Ch.Act) (p : Ch.Plant), (m.foldl Ch.Plant.safely p).levels = p.levels := by
    intro m
    induction m with
    | nil => intro p; rfl
    | cons a m ih => intro p; rw [List.foldl_cons, ih, safely_levels]
  rw [this]; rfl

/-- the calm machine behind acts -/
def calmP (L : Int) (l : List RAct) : Ch.Plant := (Ch.runGoals 20 (foldK L l l.length).calmed [⟨2, 0⟩, ⟨5, 0⟩]).1

theorem calmP_is {L : Int} (L1 : 1 ≤ L) (L2 : L ≤ 4) (l : List RAct) : Ch.runGoals 20 (foldK L l l.length).calmed [⟨2, 0⟩, ⟨5, 0⟩] = (calmP L l, true) ∧ (calmP L l).Calm ∧ (calmP L l).levels = L := by
  obtain ⟨q, h1, h2, h3⟩ := Ch.calmed_runs (foldK_safe L1 L2 l l.length)
  unfold calmP
  rw [h1]
  exact ⟨rfl, h2, h3.trans (foldK_levels _ _ _)⟩

structure FoldAt (w wr : World) (pb mb : Nat) (p : Ch.Plant) : Prop where
  at_ : PlantAt wr pb mb p
  safe : p.Safe
  below : Below w.heap.size w wr

theorem FoldAt.next {w wr w' : World} {pb mb : Nat} {p q : Ch.Plant} (h : FoldAt w wr pb mb p) (h1 : PlantAt w' pb mb q) (h2 : q.Safe) (k : Kept (Own pb mb) wr w') (hb1 : w.heap.size ≤ pb) (hb2 : w.heap.size ≤ mb) : FoldAt w w' pb mb q :=
  ⟨h1, h2, below_kept h.below (Nat.le_refl _) k (fun i hi => by rcases hi with rfl | rfl <;> omega)⟩

theorem kind_is {s t : ByteArray} (h : s = t) : (s.toList == t.data.toList) = true := by rw [h, toList_data]; simp

theorem first_at (x : RAct) (hz : 0 < x.s.size) : x.act.first = some (x.s[0].toNat : Int) := by
  unfold Ch.Act.first
  have : x.act.s = x.s := rfl
  rw [this]
  have : x.s.data.toList.head? = some x.s[0] := by
    rw [List.head?_eq_getElem?, List.getElem?_eq_getElem (by simpa using hz)]; rfl
  rw [this]; rfl

theorem first_no (x : RAct) (hz : ¬ 0 < x.s.size) : x.act.first = none := by
  unfold Ch.Act.first
  have : x.act.s = x.s := rfl
  rw [this]
  have : x.s.data.toList = [] := List.eq_nil_of_length_eq_zero (by simp only [Array.length_toList]; show x.s.size = 0; omega)
  rw [this]; rfl

theorem sl_two (w : World) (a b c d : Int) : Sl (w.alloc (.cells #[vi a, vi b, vi c, vi d] 63)) 2 goalCells [⟨a, b⟩, ⟨c, d⟩] (some ⟨w.heap.size, 0, none⟩) 2 2 := by
  have h := owns_new w 63 2 2 #[vi a, vi b, vi c, vi d] rfl (by unfold maxLen; omega)
  obtain ⟨a', c', e, hs⟩ := Sl.of_owns (l := [(⟨a, b⟩ : Ch.Goal), ⟨c, d⟩]) (enc := goalCells) h (by decide) (fun _ => rfl)
  cases e
  exact hs

/-- a calm machine is had, or none is -/
def Calmed (w : World) (L : Int) (l : List RAct) (e : Ending) (w' : World) : Prop :=
  (e = .returned (.tuple #[.pointer none, .bool false]) ∧ Ext w w') ∨
  (∃ pb mb, e = .returned (.tuple #[.pointer (some ⟨pb, 0, none⟩), .bool true]) ∧ PlantAt w' pb mb (calmP L l) ∧ Ext w w' ∧ w.heap.size ≤ pb ∧ w.heap.size ≤ mb)

set_option maxRecDepth 100000 in
set_option maxHeartbeats 4000000 in
theorem calm_ok (L : Int) (a : Option Addr) (n cap : Nat) (l : List RAct) (w : World) (h : Sl w 12 ractCells l a n cap) (hg : ∀ x ∈ l, x.Good) (L1 : 1 ≤ L) (L2 : L ≤ 4) :
    Calls Try.prog 7 #[vi L, .slice a n cap] w (Calmed w L l) := by
  have HS := Lib.hid h
  have HG := Lib.hid hg
  have hb := h.bound
  have HLN := Lib.hid h.len
  clear h hg
  go_enter Try.func7, Try.ntmps7
  go_wp2_with (first
    | (go_at_call 22; (with_reducible refine (lightActs_any _ _ _ _ l _ (Sl.below HS.out (Ext.below (by simp (maxDischargeDepth := 60)))) HG.out).mono ?_); rintro e w2 ⟨lb, rfl, o2, n2, rfl⟩; cases lb)
    | (go_at_call 19; (with_reducible refine (new_any L _ L1 L2).mono ?_); rintro e w3 ⟨pb, mb, rfl, hq, hx, hb1, hb2⟩))
  · go_ret2
    exact Or.inl ⟨rfl, (by simp (maxDischargeDepth := 60))⟩
  have b1 : w.heap.size ≤ pb := by simp at hb1; omega
  have b2 : w.heap.size ≤ mb := by simp at hb2; omega
  have hx0 : Ext w w3 := Ext.trans (by simp (maxDischargeDepth := 60)) hx
  have S0 : FoldAt w w3 pb mb (foldK L l 0) := ⟨hq, foldK_safe L1 L2 l 0, hx0.below⟩
  have HS0 := Lib.hid S0
  clear hq hx hx0 hb1 hb2 S0
  go_loopw [8] (fun i wr => ∃ (k : Nat), k ≤ n ∧ i = .int .i64 k ∧ FoldAt w wr pb mb (foldK L l k)) (fun i _ => n - (intOf i).toNat)
  case atStart => exact ⟨0, by omega, rfl, HS0.out⟩
  case round =>
    obtain ⟨k, hk, rfl, hp⟩ := hrel
    by_cases hlt : k < n
    · obtain ⟨b, q, x, rfl, hx, dx⟩ := (Sl.below HS.out hp.below).get hlt
      have HK := Lib.hid (foldK_step L hx)
      have HSN : Hid (((foldK L l k).safely x.act).Safe) := by unfold Hid; exact (foldK_safe L1 L2 l k).safely _
      generalize foldK L l k = p at hp HK HSN
      have hwf := hp.safe.wf
      have HP := Lib.hid hp
      have dx := at12 dx
      have hbl := cell_lt dx.1
      have gx := HG.out x (List.mem_of_getElem? hx)
      have l1 := gx.s
      unfold maxLen at l1
      have GX := Lib.hid gx
      clear hp gx hx
      by_cases hk1 : x.kind = Ch.kStep
      · have e1 : (x.kind.toList == [115, 116, 101, 112]) = true := kind_is hk1
        by_cases hz : 0 < x.s.size
        · have z1 : decide (0 < x.s.size) = true := by simpa using hz
          cases hm : Ch.may (x.s[0].toNat : Int) p.sense
          · have hm' : Ch.may (x.s[0].toNat : Int) ⟨p.height, p.ext, p.door, p.people, p.lift, p.bay, p.full p.ext, p.full (p.ext - 1), p.full (p.ext + 1)⟩ = false := hm
            have HE : Hid (p.safely x.act = p) := by
              unfold Hid Ch.Plant.safely
              rw [if_pos (show x.act.kind = Ch.kStep from hk1), first_at x hz]
              dsimp only
              rw [if_neg (by rw [hm]; simp)]
            clear hm hk1
            go_wp2
            (refine wp_region_ext (by kernel_rfl) (by kernel_rfl) ?_; (repeat (first | go_big_quiet_step ((first | (intro _; go_at_call 8; exact ext_callG (sense_any (HP.out.at_.ext (by simp (maxDischargeDepth := 60))) hwf) (by rintro w' ⟨o', n', rfl⟩; exact ⟨_, n', by first | (simp only [plus_plus]; rfl) | (simp only [plus_plus, Array.append_assoc]; rfl) | rfl⟩)) | (intro _; go_at_call 23; exact ext_callG (may_f _ _ _ _ _ _ _ _ _ _ _) (by rintro w' ⟨o', n', rfl⟩; exact ⟨_, n', by first | (simp only [plus_plus]; rfl) | (simp only [plus_plus, Array.append_assoc]; rfl) | rfl⟩)))) | quiet_step ((first | (intro _; go_at_call 8; exact ext_callG (sense_any (HP.out.at_.ext (by simp (maxDischargeDepth := 60))) hwf) (by rintro w' ⟨o', n', rfl⟩; exact ⟨_, n', by first | (simp only [plus_plus]; rfl) | (simp only [plus_plus, Array.append_assoc]; rfl) | rfl⟩)) | (intro _; go_at_call 23; exact ext_callG (may_f _ _ _ _ _ _ _ _ _ _ _) (by rintro w' ⟨o', n', rfl⟩; exact ⟨_, n', by first | (simp only [plus_plus]; rfl) | (simp only [plus_plus, Array.append_assoc]; rfl) | rfl⟩)))))); refine wpQuiet_nil ?_; intro _ hw'; obtain ⟨oq, nq, hw''⟩ := hw'; subst hw'')
            go_wp2
            go_roundw
            case rel => exact ⟨k + 1, by omega, by go_num, by rw [HK.out, HE.out]; exact HP.out.next (HP.out.at_.ext (by simp (maxDischargeDepth := 60))) HP.out.safe (Kept.of_ext (by simp (maxDischargeDepth := 60))) b1 b2⟩
            case measure => simp [intOf]; omega
          · have hm' : Ch.may (x.s[0].toNat : Int) ⟨p.height, p.ext, p.door, p.people, p.lift, p.bay, p.full p.ext, p.full (p.ext - 1), p.full (p.ext + 1)⟩ = true := hm
            have HE : Hid (p.safely x.act = p.step (x.s[0].toNat : Int)) := by
              unfold Hid Ch.Plant.safely
              rw [if_pos (show x.act.kind = Ch.kStep from hk1), first_at x hz]
              dsimp only
              rw [if_pos hm]
            have HSE : Hid ((p.step (x.s[0].toNat : Int)).Safe) := by unfold Hid; rw [← HE.out]; exact HSN.out
            clear hm hk1
            go_wp2
            (refine wp_region_ext (by kernel_rfl) (by kernel_rfl) ?_; (repeat (first | go_big_quiet_step ((first | (intro _; go_at_call 8; exact ext_callG (sense_any (HP.out.at_.ext (by simp (maxDischargeDepth := 60))) hwf) (by rintro w' ⟨o', n', rfl⟩; exact ⟨_, n', by first | (simp only [plus_plus]; rfl) | (simp only [plus_plus, Array.append_assoc]; rfl) | rfl⟩)) | (intro _; go_at_call 23; exact ext_callG (may_f _ _ _ _ _ _ _ _ _ _ _) (by rintro w' ⟨o', n', rfl⟩; exact ⟨_, n', by first | (simp only [plus_plus]; rfl) | (simp only [plus_plus, Array.append_assoc]; rfl) | rfl⟩)))) | quiet_step ((first | (intro _; go_at_call 8; exact ext_callG (sense_any (HP.out.at_.ext (by simp (maxDischargeDepth := 60))) hwf) (by rintro w' ⟨o', n', rfl⟩; exact ⟨_, n', by first | (simp only [plus_plus]; rfl) | (simp only [plus_plus, Array.append_assoc]; rfl) | rfl⟩)) | (intro _; go_at_call 23; exact ext_callG (may_f _ _ _ _ _ _ _ _ _ _ _) (by rintro w' ⟨o', n', rfl⟩; exact ⟨_, n', by first | (simp only [plus_plus]; rfl) | (simp only [plus_plus, Array.append_assoc]; rfl) | rfl⟩)))))); refine wpQuiet_nil ?_; intro _ hw'; obtain ⟨oq, nq, hw''⟩ := hw'; subst hw'')
            go_wp2_with (go_at_call 21; (with_reducible refine (step_any (HP.out.at_.ext (by simp (maxDischargeDepth := 60))) hwf _).mono ?_); rintro e w4 ⟨rfl, hq4, hk4⟩)
            have HN := Lib.hid (HP.out.next hq4 HSE.out ((Kept.of_ext (by simp (maxDischargeDepth := 60))).trans hk4) b1 b2)
            clear hq4 hk4
            go_roundw
            case rel => exact ⟨k + 1, by omega, by go_num, by rw [HK.out, HE.out]; exact HN.out⟩
            case measure => simp [intOf]; omega
        · have z1 : decide (0 < x.s.size) = false := by simpa using hz
          have HE : Hid (p.safely x.act = p) := by
            unfold Hid Ch.Plant.safely
            rw [if_pos (show x.act.kind = Ch.kStep from hk1), first_no x hz]
          clear hk1
          go_wp2
          (refine wp_region_ext (by kernel_rfl) (by kernel_rfl) ?_; (repeat (first | go_big_quiet_step ((first | (intro _; go_at_call 8; exact ext_callG (sense_any (HP.out.at_.ext (by simp (maxDischargeDepth := 60))) hwf) (by rintro w' ⟨o', n', rfl⟩; exact ⟨_, n', by first | (simp only [plus_plus]; rfl) | (simp only [plus_plus, Array.append_assoc]; rfl) | rfl⟩)) | (intro _; go_at_call 23; exact ext_callG (may_f _ _ _ _ _ _ _ _ _ _ _) (by rintro w' ⟨o', n', rfl⟩; exact ⟨_, n', by first | (simp only [plus_plus]; rfl) | (simp only [plus_plus, Array.append_assoc]; rfl) | rfl⟩)))) | quiet_step ((first | (intro _; go_at_call 8; exact ext_callG (sense_any (HP.out.at_.ext (by simp (maxDischargeDepth := 60))) hwf) (by rintro w' ⟨o', n', rfl⟩; exact ⟨_, n', by first | (simp only [plus_plus]; rfl) | (simp only [plus_plus, Array.append_assoc]; rfl) | rfl⟩)) | (intro _; go_at_call 23; exact ext_callG (may_f _ _ _ _ _ _ _ _ _ _ _) (by rintro w' ⟨o', n', rfl⟩; exact ⟨_, n', by first | (simp only [plus_plus]; rfl) | (simp only [plus_plus, Array.append_assoc]; rfl) | rfl⟩)))))); refine wpQuiet_nil ?_; intro _ hw'; obtain ⟨oq, nq, hw''⟩ := hw'; subst hw'')
          go_wp2
          go_roundw
          case rel => exact ⟨k + 1, by omega, by go_num, by rw [HK.out, HE.out]; exact HP.out.next (HP.out.at_.ext (by simp (maxDischargeDepth := 60))) HP.out.safe (Kept.of_ext (by simp (maxDischargeDepth := 60))) b1 b2⟩
          case measure => simp [intOf]; omega
      · have e1 : (x.kind.toList == [115, 116, 101, 112]) = false := str_ne hk1
        have HE : Hid (p.safely x.act = p.outside x.act) := by
          unfold Hid Ch.Plant.safely
          rw [if_neg (show ¬ x.act.kind = Ch.kStep from hk1)]
        have HSE : Hid ((p.outside x.act).Safe) := by unfold Hid; rw [← HE.out]; exact HSN.out
        clear hk1
        go_wp2_with (go_at_call 24; (with_reducible refine (outside_any HP.out.at_ hwf x GX.out).mono ?_); rintro e w4 ⟨rfl, hq4, hk4⟩)
        have HN := Lib.hid (HP.out.next hq4 HSE.out hk4 b1 b2)
        clear hq4 hk4
        go_roundw
        case rel => exact ⟨k + 1, by omega, by go_num, by rw [HK.out, HE.out]; exact HN.out⟩
        case measure => simp [intOf]; omega
    · have hkn : k = l.length := by have := HLN.out; omega
      subst hkn
      have hcalm := calmP_is L1 L2 l
      obtain ⟨qc, hqc, hst, _, _, _, _⟩ := Ch.calmed_ready hp.safe
      have hwc : ((foldK L l l.length).calmed).WF := by rw [hqc]; exact hst.wf
      have HC := Lib.hid hcalm
      have HWC := Lib.hid hwc
      clear hcalm hqc hst hwc
      generalize foldK L l l.length = p at hp HC HWC
      have hwf := hp.safe.wf
      have HP := Lib.hid hp
      clear hp
      go_wp2_with fail
      go_at_call 25
      refine (stall_any HP.out.at_ 0).mono ?_
      rintro e w4 ⟨rfl, hq4, hk4⟩
      have K4 := Lib.hid hk4
      have Q4 := Lib.hid hq4
      clear hq4 hk4
      go_wp2_with fail
      go_at_call 26
      refine (walk_any Q4.out (hwf.setStall 0) (-9)).mono ?_
      rintro e w5 ⟨rfl, hq5, hk5⟩
      have K5 := Lib.hid (K4.out.trans hk5)
      have HWD := Lib.hid ((hwf.setStall 0).walk (-9))
      have HCD : Hid (p.calmed = if ((p.setStall 0).1.walk (-9)).1.ext ≠ 0 ∧ ((p.setStall 0).1.walk (-9)).1.lift ≠ 0 then ((p.setStall 0).1.walk (-9)).1.step 112 else ((p.setStall 0).1.walk (-9)).1) := rfl
      generalize ((p.setStall 0).1.walk (-9)).1 = d at hq5 HWD HCD
      have HQ5 := Lib.hid hq5
      clear hq5 hk5 K4 Q4
      by_cases hcd : d.ext ≠ 0 ∧ d.lift ≠ 0
      · have g1 : (d.ext != 0) = true := by simpa using hcd.1
        have g2 : (d.lift != 0) = true := by simpa using hcd.2
        have hcd' := HCD.out
        rw [if_pos hcd] at hcd'
        have HD := Lib.hid hcd'
        clear hcd hcd'
        go_upto_region 17 with (go_at_call 8; (with_reducible refine (sense_any HQ5.out HWD.out).mono ?_); rintro e w1 ⟨rfl, o1, n1, rfl⟩)
        go_wp2_with fail
        go_at_call 21
        refine (step_any (HQ5.out.ext (by simp (maxDischargeDepth := 60))) HWD.out 112).mono ?_
        rintro e wX ⟨rfl, hqx, hkx⟩
        rw [← HD.out] at hqx
        have HQX := Lib.hid hqx
        have HKX := Lib.hid (K5.out.trans ((Kept.of_ext (by simp (maxDischargeDepth := 60))).trans hkx))
        clear hqx hkx
        go_wp2_with fail
        go_at_call 11
        refine (run_any (HQX.out.ext (Ext.alloc (Ext.refl _) _)) HWC.out [⟨2, 0⟩, ⟨5, 0⟩] _ 2 2 (sl_two wX 2 0 5 0) (fun b o e => by cases e; have := HQX.out.lt; constructor <;> omega) 20 (by decide)).mono ?_
        rintro e w7 ⟨he, hq7, hk7⟩
        rw [HC.out.1] at he hq7
        subst he
        have HQ7 : Hid (PlantAt w7 pb mb (calmP L l)) := hq7
        have K7 := Lib.hid (HKX.out.trans ((Kept.of_ext (Ext.alloc (Ext.refl wX) _)).trans hk7))
        clear hq7 hk7
        go_wp2_with (go_at_call 13; (with_reducible refine (hurt_any HQ7.out).mono ?_); rintro e w8 ⟨he, o8, n8, rfl⟩; rw [HC.out.2.1.hh] at he; subst he)
        go_ret2
        have own : ∀ i, Own pb mb i → w.heap.size ≤ i := fun i hi => by rcases hi with rfl | rfl <;> omega
        exact Or.inr ⟨pb, mb, rfl, HQ7.out.ext (by simp (maxDischargeDepth := 60)), (Ext.of_below (below_kept HP.out.below (Nat.le_refl _) K7.out own)).trans (by simp (maxDischargeDepth := 60)), b1, b2⟩
      · have hcd' := HCD.out
        rw [if_neg hcd] at hcd'
        have HD := Lib.hid hcd'
        by_cases g0 : d.ext = 0
        · have g1 : (d.ext != 0) = false := by simp [g0]
          clear hcd hcd' g0
          go_upto_region 18 with (go_at_call 8; (with_reducible refine (sense_any HQ5.out HWD.out).mono ?_); rintro e w1 ⟨rfl, o1, n1, rfl⟩)
          generalize hW : World.alloc _ _ = wX
          have HQX : Hid (PlantAt wX pb mb p.calmed) := by unfold Hid; rw [← hW, HD.out]; exact HQ5.out.ext (by simp (maxDischargeDepth := 60))
          have HKX : Hid (Kept (Own pb mb) wr wX) := by unfold Hid; rw [← hW]; exact K5.out.ext (by simp (maxDischargeDepth := 60))
          clear hW
          go_wp2_with fail
          go_at_call 11
          refine (run_any (HQX.out.ext (Ext.alloc (Ext.refl _) _)) HWC.out [⟨2, 0⟩, ⟨5, 0⟩] _ 2 2 (sl_two wX 2 0 5 0) (fun b o e => by cases e; have := HQX.out.lt; constructor <;> omega) 20 (by decide)).mono ?_
          rintro e w7 ⟨he, hq7, hk7⟩
          rw [HC.out.1] at he hq7
          subst he
          have HQ7 : Hid (PlantAt w7 pb mb (calmP L l)) := hq7
          have K7 := Lib.hid (HKX.out.trans ((Kept.of_ext (Ext.alloc (Ext.refl wX) _)).trans hk7))
          clear hq7 hk7
          go_wp2_with (go_at_call 13; (with_reducible refine (hurt_any HQ7.out).mono ?_); rintro e w8 ⟨he, o8, n8, rfl⟩; rw [HC.out.2.1.hh] at he; subst he)
          go_ret2
          have own : ∀ i, Own pb mb i → w.heap.size ≤ i := fun i hi => by rcases hi with rfl | rfl <;> omega
          exact Or.inr ⟨pb, mb, rfl, HQ7.out.ext (by simp (maxDischargeDepth := 60)), (Ext.of_below (below_kept HP.out.below (Nat.le_refl _) K7.out own)).trans (by simp (maxDischargeDepth := 60)), b1, b2⟩
        · have g1 : (d.ext != 0) = true := by simpa using g0
          have g2 : (d.lift != 0) = false := by
            cases g2 : (d.lift != 0)
            · rfl
            · exact absurd ⟨g0, by simpa using g2⟩ hcd
          clear hcd hcd' g0
          go_upto_region 18 with (go_at_call 8; (with_reducible refine (sense_any HQ5.out HWD.out).mono ?_); rintro e w1 ⟨rfl, o1, n1, rfl⟩)
          generalize hW : World.alloc _ _ = wX
          have HQX : Hid (PlantAt wX pb mb p.calmed) := by unfold Hid; rw [← hW, HD.out]; exact HQ5.out.ext (by simp (maxDischargeDepth := 60))
          have HKX : Hid (Kept (Own pb mb) wr wX) := by unfold Hid; rw [← hW]; exact K5.out.ext (by simp (maxDischargeDepth := 60))
          clear hW
          go_wp2_with fail
          go_at_call 11
          refine (run_any (HQX.out.ext (Ext.alloc (Ext.refl _) _)) HWC.out [⟨2, 0⟩, ⟨5, 0⟩] _ 2 2 (sl_two wX 2 0 5 0) (fun b o e => by cases e; have := HQX.out.lt; constructor <;> omega) 20 (by decide)).mono ?_
          rintro e w7 ⟨he, hq7, hk7⟩
          rw [HC.out.1] at he hq7
          subst he
          have HQ7 : Hid (PlantAt w7 pb mb (calmP L l)) := hq7
          have K7 := Lib.hid (HKX.out.trans ((Kept.of_ext (Ext.alloc (Ext.refl wX) _)).trans hk7))
          clear hq7 hk7
          go_wp2_with (go_at_call 13; (with_reducible refine (hurt_any HQ7.out).mono ?_); rintro e w8 ⟨he, o8, n8, rfl⟩; rw [HC.out.2.1.hh] at he; subst he)
          go_ret2
          have own : ∀ i, Own pb mb i → w.heap.size ≤ i := fun i hi => by rcases hi with rfl | rfl <;> omega
          exact Or.inr ⟨pb, mb, rfl, HQ7.out.ext (by simp (maxDischargeDepth := 60)), (Ext.of_below (below_kept HP.out.below (Nat.le_refl _) K7.out own)).trans (by simp (maxDischargeDepth := 60)), b1, b2⟩

set_option maxRecDepth 100000 in
set_option maxHeartbeats 4000000 in
theorem calm_bad (L : Int) (a : Option Addr) (n cap : Nat) (l : List RAct) (w : World) (h : Sl w 12 ractCells l a n cap) (hg : ∀ x ∈ l, x.Good) (hL : L < 1 ∨ 4 < L) :
    Calls Try.prog 7 #[vi L, .slice a n cap] w fun e w' => e = .returned (.tuple #[.pointer none, .bool false]) ∧ Ext w w' := by
  have HS := Lib.hid h
  have HG := Lib.hid hg
  have HL := Lib.hid hL
  have e1 : errV 1 = .iface 71 (vi 1) := rfl
  clear h hg hL
  go_enter Try.func7, Try.ntmps7
  go_wp2_with (first
    | (go_at_call 22; (with_reducible refine (lightActs_any _ _ _ _ l _ (Sl.below HS.out (Ext.below (by simp (maxDischargeDepth := 60)))) HG.out).mono ?_); rintro e w2 ⟨lb, rfl, o2, n2, rfl⟩; cases lb)
    | (go_at_call 19; (with_reducible refine (new_bad L _ HL.out).mono ?_); rintro e w1 ⟨rfl, o1, n1, rfl⟩))
  all_goals
    go_ret2
    exact ⟨rfl, (by simp (maxDischargeDepth := 60))⟩
end Go.Proofs.Ytplomeacjbkgnac
