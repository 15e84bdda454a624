/-
  The walk of TopSafe.
-/
import Derived.Test.YtplomeacjbkgnabTopOut
import Derived.Test.YtplomeacjbkgnabGuard
namespace Go.Proofs.Ytplomeacjbkgnab
open Go.RowKit

theorem sense_eq (p : Ch.Plant) : (⟨p.height, p.ext, p.door, p.people, p.lift, p.bay, p.full p.ext, p.full (p.ext - 1), p.full (p.ext + 1)⟩ : Ch.Sensed) = p.sense := rfl

/-- how it stands with the machine at a round's head -/
structure SafeAt (w wr : World) (pb mb : Nat) (p : Ch.Plant) : Prop where
  at_ : PlantAt wr pb mb p
  wf : p.WF
  hh : p.hurt = false
  below : Below w.heap.size w wr

theorem SafeAt.next {w wr w' : World} {pb mb : Nat} {p q : Ch.Plant} (h : SafeAt w wr pb mb p) (h1 : PlantAt w' pb mb q) (h2 : q.WF) (h3 : q.hurt = false) (k : Kept (Own pb mb) wr w') (hb1 : w.heap.size ≤ pb) (hb2 : w.heap.size ≤ mb) : SafeAt w w' pb mb q :=
  ⟨h1, h2, h3, below_kept h.below (Nat.le_refl _) k (fun i hi => by rcases hi with rfl | rfl <;> omega)⟩

theorem kind_yes {s t : ByteArray} (h : s = t) : (s.toList == t.data.toList) = true := by rw [h, toList_data]; simp

set_option maxRecDepth 100000 in
set_option maxHeartbeats 4000000 in
theorem topSafe_ok (L : Int) (a : Option Addr) (n cap : Nat) (l : List RAct) (w : World) (h : Sl w 12 ractCells l a n cap) (hg : ∀ x ∈ l, x.Good) (L1 : 1 ≤ L) (L2 : L ≤ 4) :
    Calls Try.prog 9 #[vi L, .slice a n cap] w fun e w' => e = .returned (.bool true) ∧ Ext w w' := by
  have HS := Lib.hid h
  have HG := Lib.hid hg
  have hb := h.bound
  clear h hg
  go_enter Try.func9, Try.ntmps9
  go_wp2_with (first
    | (go_at_call 26; (with_reducible refine (moved_any _).mono ?_); rintro e w1 ⟨rfl, o1, n1, rfl⟩)
    | (go_at_call 22; (with_reducible refine (lightActs_any _ _ _ _ l _ (Sl.below HS.out (Ext.below (by simp (maxDischargeDepth := 60)))) HG.out).mono ?_); rintro e w2 ⟨lb, rfl, o2, n2, rfl⟩; cases lb)
    | (go_at_call 27; (with_reducible refine (new_any L _ L1 L2).mono ?_); rintro e w3 ⟨pb, mb, rfl, hq, hx, hb1, hb2⟩))
  · go_ret
    exact ⟨rfl, (by simp (maxDischargeDepth := 60))⟩
  have b1 : w.heap.size ≤ pb := by simp at hb1; omega
  have b2 : w.heap.size ≤ mb := by simp at hb2; omega
  have hx0 : Ext w w3 := Ext.trans (by simp (maxDischargeDepth := 60)) hx
  have S0 : SafeAt w w3 pb mb (Ch.Plant.new L) := ⟨hq, Ch.Plant.WF.new L1 L2, rfl, hx0.below⟩
  have HS0 := Lib.hid S0
  clear hq hx hx0 hb1 hb2 S0
  go_loopw [8] (fun i wr => ∃ (k : Nat) (p : Ch.Plant), k ≤ n ∧ i = .int .i64 k ∧ SafeAt w wr pb mb p) (fun i _ => n - (intOf i).toNat)
  case atStart => exact ⟨0, _, by omega, rfl, HS0.out⟩
  case round =>
    obtain ⟨k, p, hk, rfl, hp⟩ := hrel
    have hwf := hp.wf
    have HH := Lib.hid hp.hh
    have HP := Lib.hid hp
    by_cases hlt : k < n
    · obtain ⟨b, q, x, rfl, hx, dx⟩ := (Sl.below HS.out hp.below).get hlt
      have dx := at12 dx
      have hbl := cell_lt dx.1
      have gx := HG.out x (List.mem_of_getElem? hx)
      have l1 := gx.s
      unfold maxLen at l1
      have GX := Lib.hid gx
      clear hp gx hx
      by_cases hk1 : x.kind = Ch.kStep
      · have e1 : (x.kind.toList == [115, 116, 101, 112]) = true := kind_yes hk1
        clear hk1
        by_cases hz : 0 < x.s.size
        · have z1 : decide (0 < x.s.size) = true := by simpa using hz
          cases hm : Ch.may (x.s[0].toNat : Int) p.sense
          · have hm' : Ch.may (x.s[0].toNat : Int) ⟨p.height, p.ext, p.door, p.people, p.lift, p.bay, p.full p.ext, p.full (p.ext - 1), p.full (p.ext + 1)⟩ = false := hm
            clear hm
            go_wp2
            (refine wp_region_ext (by kernel_rfl) (by kernel_rfl) ?_; (repeat (first | go_big_quiet_step ((first | (intro _; go_at_call 42; exact ext_callG (sense_any (HP.out.at_.ext (by simp (maxDischargeDepth := 60))) hwf) (by rintro w' ⟨o', n', rfl⟩; exact ⟨_, n', by first | (simp only [plus_plus]; rfl) | (simp only [plus_plus, Array.append_assoc]; rfl) | rfl⟩)) | (intro _; go_at_call 41; exact ext_callG (may_f _ _ _ _ _ _ _ _ _ _ _) (by rintro w' ⟨o', n', rfl⟩; exact ⟨_, n', by first | (simp only [plus_plus]; rfl) | (simp only [plus_plus, Array.append_assoc]; rfl) | rfl⟩)))) | quiet_step ((first | (intro _; go_at_call 42; exact ext_callG (sense_any (HP.out.at_.ext (by simp (maxDischargeDepth := 60))) hwf) (by rintro w' ⟨o', n', rfl⟩; exact ⟨_, n', by first | (simp only [plus_plus]; rfl) | (simp only [plus_plus, Array.append_assoc]; rfl) | rfl⟩)) | (intro _; go_at_call 41; exact ext_callG (may_f _ _ _ _ _ _ _ _ _ _ _) (by rintro w' ⟨o', n', rfl⟩; exact ⟨_, n', by first | (simp only [plus_plus]; rfl) | (simp only [plus_plus, Array.append_assoc]; rfl) | rfl⟩)))))); refine wpQuiet_nil ?_; intro _ hw'; obtain ⟨oq, nq, hw''⟩ := hw'; subst hw'')
            go_wp2_with (go_at_call 44; (with_reducible refine (hurt_any (HP.out.at_.ext (by simp (maxDischargeDepth := 60)))).mono ?_); rintro e w4 ⟨he, o4, n4, rfl⟩; rw [HH.out] at he; subst he)
            have HN := Lib.hid (HP.out.next (q := p) (w' := wr.plus (oq ++ o4) n4) (HP.out.at_.ext (by simp (maxDischargeDepth := 60))) hwf HH.out (Kept.of_ext (by simp (maxDischargeDepth := 60))) b1 b2)
            go_roundw
            case rel => exact ⟨k + 1, _, by omega, by go_num, HN.out⟩
            case measure => simp [intOf]; omega
          · have hm' : Ch.may (x.s[0].toNat : Int) ⟨p.height, p.ext, p.door, p.people, p.lift, p.bay, p.full p.ext, p.full (p.ext - 1), p.full (p.ext + 1)⟩ = true := hm
            have HQ := Lib.hid (Ch.may_safe_step hwf HH.out _ hm)
            clear hm
            go_wp2
            (refine wp_region_ext (by kernel_rfl) (by kernel_rfl) ?_; (repeat (first | go_big_quiet_step ((first | (intro _; go_at_call 42; exact ext_callG (sense_any (HP.out.at_.ext (by simp (maxDischargeDepth := 60))) hwf) (by rintro w' ⟨o', n', rfl⟩; exact ⟨_, n', by first | (simp only [plus_plus]; rfl) | (simp only [plus_plus, Array.append_assoc]; rfl) | rfl⟩)) | (intro _; go_at_call 41; exact ext_callG (may_f _ _ _ _ _ _ _ _ _ _ _) (by rintro w' ⟨o', n', rfl⟩; exact ⟨_, n', by first | (simp only [plus_plus]; rfl) | (simp only [plus_plus, Array.append_assoc]; rfl) | rfl⟩)))) | quiet_step ((first | (intro _; go_at_call 42; exact ext_callG (sense_any (HP.out.at_.ext (by simp (maxDischargeDepth := 60))) hwf) (by rintro w' ⟨o', n', rfl⟩; exact ⟨_, n', by first | (simp only [plus_plus]; rfl) | (simp only [plus_plus, Array.append_assoc]; rfl) | rfl⟩)) | (intro _; go_at_call 41; exact ext_callG (may_f _ _ _ _ _ _ _ _ _ _ _) (by rintro w' ⟨o', n', rfl⟩; exact ⟨_, n', by first | (simp only [plus_plus]; rfl) | (simp only [plus_plus, Array.append_assoc]; rfl) | rfl⟩)))))); refine wpQuiet_nil ?_; intro _ hw'; obtain ⟨oq, nq, hw''⟩ := hw'; subst hw'')
            go_wp2_with (go_at_call 43; (with_reducible refine (step_any (HP.out.at_.ext (by simp (maxDischargeDepth := 60))) hwf _).mono ?_); rintro e w4 ⟨rfl, hq4, hk4⟩)
            have HN := Lib.hid (HP.out.next hq4 (hwf.step _) HQ.out ((Kept.of_ext (by simp (maxDischargeDepth := 60))).trans hk4) b1 b2)
            clear hq4 hk4
            go_wp2_with (go_at_call 44; (with_reducible refine (hurt_any HN.out.at_).mono ?_); rintro e w5 ⟨he, o5, n5, rfl⟩; rw [HQ.out] at he; subst he)
            have HN2 := Lib.hid (HN.out.next (q := p.step (x.s[0].toNat : Int)) (w' := w4.plus o5 n5) (HN.out.at_.ext (by simp (maxDischargeDepth := 60))) (hwf.step _) HQ.out (Kept.of_ext (by simp (maxDischargeDepth := 60))) b1 b2)
            go_roundw
            case rel => exact ⟨k + 1, _, by omega, by go_num, HN2.out⟩
            case measure => simp [intOf]; omega
        · have z1 : decide (0 < x.s.size) = false := by simpa using hz
          go_wp2
          (refine wp_region_ext (by kernel_rfl) (by kernel_rfl) ?_; (repeat (first | go_big_quiet_step ((first | (intro _; go_at_call 42; exact ext_callG (sense_any (HP.out.at_.ext (by simp (maxDischargeDepth := 60))) hwf) (by rintro w' ⟨o', n', rfl⟩; exact ⟨_, n', by first | (simp only [plus_plus]; rfl) | (simp only [plus_plus, Array.append_assoc]; rfl) | rfl⟩)) | (intro _; go_at_call 41; exact ext_callG (may_f _ _ _ _ _ _ _ _ _ _ _) (by rintro w' ⟨o', n', rfl⟩; exact ⟨_, n', by first | (simp only [plus_plus]; rfl) | (simp only [plus_plus, Array.append_assoc]; rfl) | rfl⟩)))) | quiet_step ((first | (intro _; go_at_call 42; exact ext_callG (sense_any (HP.out.at_.ext (by simp (maxDischargeDepth := 60))) hwf) (by rintro w' ⟨o', n', rfl⟩; exact ⟨_, n', by first | (simp only [plus_plus]; rfl) | (simp only [plus_plus, Array.append_assoc]; rfl) | rfl⟩)) | (intro _; go_at_call 41; exact ext_callG (may_f _ _ _ _ _ _ _ _ _ _ _) (by rintro w' ⟨o', n', rfl⟩; exact ⟨_, n', by first | (simp only [plus_plus]; rfl) | (simp only [plus_plus, Array.append_assoc]; rfl) | rfl⟩)))))); refine wpQuiet_nil ?_; intro _ hw'; obtain ⟨oq, nq, hw''⟩ := hw'; subst hw'')
          go_wp2_with (go_at_call 44; (with_reducible refine (hurt_any (HP.out.at_.ext (by simp (maxDischargeDepth := 60)))).mono ?_); rintro e w4 ⟨he, o4, n4, rfl⟩; rw [HH.out] at he; subst he)
          have HN := Lib.hid (HP.out.next (q := p) (w' := wr.plus (oq ++ o4) n4) (HP.out.at_.ext (by simp (maxDischargeDepth := 60))) hwf HH.out (Kept.of_ext (by simp (maxDischargeDepth := 60))) b1 b2)
          go_roundw
          case rel => exact ⟨k + 1, _, by omega, by go_num, HN.out⟩
          case measure => simp [intOf]; omega
      · have e1 : (x.kind.toList == [115, 116, 101, 112]) = false := str_ne hk1
        have HQ : Hid ((p.outside x.act).hurt = false) := by
          have := Ch.safely_hurt hwf HH.out x.act
          unfold Ch.Plant.safely at this
          rw [if_neg (show ¬ x.act.kind = Ch.kStep from hk1)] at this
          exact this
        clear hk1
        go_wp2_with (go_at_call 32; (with_reducible refine (outside_any HP.out.at_ hwf x GX.out).mono ?_); rintro e w4 ⟨rfl, hq4, hk4⟩)
        have HN := Lib.hid (HP.out.next hq4 (hwf.outside _) HQ.out hk4 b1 b2)
        clear hq4 hk4
        go_wp2_with (go_at_call 44; (with_reducible refine (hurt_any HN.out.at_).mono ?_); rintro e w5 ⟨he, o5, n5, rfl⟩; rw [HQ.out] at he; subst he)
        have HN2 := Lib.hid (HN.out.next (q := p.outside x.act) (w' := w4.plus o5 n5) (HN.out.at_.ext (by simp (maxDischargeDepth := 60))) (hwf.outside _) HQ.out (Kept.of_ext (by simp (maxDischargeDepth := 60))) b1 b2)
        go_roundw
        case rel => exact ⟨k + 1, _, by omega, by go_num, HN2.out⟩
        case measure => simp [intOf]; omega
    · go_wp2
      go_ret
      exact ⟨rfl, Ext.of_below HP.out.below⟩

set_option maxRecDepth 100000 in
set_option maxHeartbeats 4000000 in
theorem topSafe_bad (L : Int) (a : Option Addr) (n cap : Nat) (l : List RAct) (w : World) (h : Sl w 12 ractCells l a n cap) (hg : ∀ x ∈ l, x.Good) (hL : L < 1 ∨ 4 < L) :
    Calls Try.prog 9 #[vi L, .slice a n cap] w fun e w' => e = .returned (.bool true) ∧ Ext w w' := by
  have HS := Lib.hid h
  have HG := Lib.hid hg
  have HL := Lib.hid hL
  have hb := h.bound
  have e1 : errV 1 = .iface 100 (vi 1) := rfl
  clear h hg hL
  go_enter Try.func9, Try.ntmps9
  go_wp2_with (first
    | (go_at_call 26; (with_reducible refine (moved_any _).mono ?_); rintro e w1 ⟨rfl, o1, n1, rfl⟩)
    | (go_at_call 22; (with_reducible refine (lightActs_any _ _ _ _ l _ (Sl.below HS.out (Ext.below (by simp (maxDischargeDepth := 60)))) HG.out).mono ?_); rintro e w2 ⟨lb, rfl, o2, n2, rfl⟩; cases lb)
    | (go_at_call 27; (with_reducible refine (new_bad L _ HL.out).mono ?_); rintro e w1 ⟨rfl, o1, n1, rfl⟩))
  all_goals
    go_ret
    exact ⟨rfl, (by simp (maxDischargeDepth := 60))⟩

theorem topSafe_walk (L : Int) {a : Option Addr} {n cap : Nat} {l : List RAct} {w : World} (h : Sl w 12 ractCells l a n cap) (hg : ∀ x ∈ l, x.Good) :
    Calls Try.prog 9 #[vi L, .slice a n cap] w fun e w' => e = .returned (.bool true) ∧ Ext w w' := by
  by_cases hL : L < 1 ∨ 4 < L
  · exact topSafe_bad L a n cap l w h hg hL
  · exact topSafe_ok L a n cap l w h hg (by omega) (by omega)
end Go.Proofs.Ytplomeacjbkgnab
