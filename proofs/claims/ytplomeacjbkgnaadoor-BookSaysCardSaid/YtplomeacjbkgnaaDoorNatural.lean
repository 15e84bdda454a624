/-
  The walk of the reference's natural: the number that a word says.
-/
import Derived.Test.YtplomeacjbkgnaaDoorText
import Derived.Test.YtplomeacjbkgnaaDoorNatLaw
namespace Go.Proofs.YtplomeacjbkgnaaDoor
open Go.RowKit

def natV (s : ByteArray) : Int := match Ch.numOf s.data.toList with | some v => v | none => -1

set_option maxRecDepth 100000 in
theorem natural_long (s : ByteArray) (w : World) (h : 9 < s.size) (hs : s.size ≤ 1000000) : Calls Tryd.prog 29 #[.string s, vi 999999] w fun e w' => e = .returned (vi (natV s)) ∧ Ext w w' := by
  have e : natV s = -1 := by unfold natV; rw [Ch.nat_none (Or.inr (Or.inl (by simpa using h)))]
  rw [e]
  go_enter Tryd.func29, Tryd.ntmps29
  go_wp2
  go_ret
  exact ⟨rfl, (by simp (maxDischargeDepth := 60))⟩

theorem byte_at {s : ByteArray} {k : Nat} (h : k < s.size) : s.data.toList[k]? = some s[k] := by
  rw [List.getElem?_eq_getElem (by simpa using h)]; simp; rfl

theorem natV_none {s : ByteArray} (h : Ch.numOf s.data.toList = none) : natV s = -1 := by unfold natV; rw [h]

theorem pow_le {k : Nat} (h : k ≤ 9) : (10 : Int) ^ k ≤ 1000000000 := by
  match k, h with
  | 0, _ | 1, _ | 2, _ | 3, _ | 4, _ | 5, _ | 6, _ | 7, _ | 8, _ | 9, _ => decide

set_option maxRecDepth 100000 in
theorem natural_led (s : ByteArray) (w : World) (h0 : 1 < s.size) (h : s.size ≤ 9) (h48 : (s[0]'(by omega)).toNat = 48) : Calls Tryd.prog 29 #[.string s, vi 999999] w fun e w' => e = .returned (vi (natV s)) ∧ Ext w w' := by
  have e : natV s = -1 := by
    apply natV_none
    apply Ch.nat_none
    have h1 := byte_at (s := s) (k := 0) (by omega)
    have hl : s.data.toList.length = s.size := by simp
    cases hL : s.data.toList with
    | nil => rw [hL] at hl; simp at hl; omega
    | cons b r =>
      rw [hL] at h1 hl
      cases h1
      refine Or.inr (Or.inr (Or.inr ⟨_, r, rfl, ?_, h48⟩))
      intro hr; rw [hr] at hl; simp at hl; omega
  rw [e]
  go_enter Tryd.func29, Tryd.ntmps29
  go_wp2
  go_ret
  exact ⟨rfl, (by simp (maxDischargeDepth := 60))⟩

set_option maxRecDepth 100000 in
set_option maxHeartbeats 2000000 in
theorem natural_any (s : ByteArray) (w : World) (h0 : 1 ≤ s.size) (h : s.size ≤ 9) (h48 : ¬ (1 < s.size ∧ (s[0]'(by omega)).toNat = 48)) : Calls Tryd.prog 29 #[.string s, vi 999999] w fun e w' => e = .returned (vi (natV s)) ∧ Ext w w' := by
  have hlen : s.data.toList.length = s.size := by simp
  have HLed : Hid (Ch.Led s.data.toList) := by
    intro b r e hr hb
    have h1 := byte_at (s := s) (k := 0) (by omega)
    rw [e] at h1 hlen
    replace h1 := Option.some.inj h1
    cases r with
    | nil => exact hr rfl
    | cons c t => exact h48 ⟨by simp at hlen; omega, by rw [← h1]; exact hb⟩
  have HNe : Hid (s.data.toList ≠ []) := by intro e; rw [e] at hlen; simp at hlen; omega
  have HLen := Lib.hid hlen
  clear hlen
  go_enter Tryd.func29, Tryd.ntmps29
  go_wp2
  all_goals
    go_loopw [5, 6] (fun n i wr => ∃ k : Nat, k ≤ s.size ∧ i = .int .i64 k ∧ n = vi (Ch.accOf (s.data.toList.take k)) ∧ Hid (Ch.Digits (s.data.toList.take k)) ∧ Ext w wr) (fun _ i _ => s.size - (intOf i).toNat)
    case atStart => exact ⟨0, by omega, rfl, rfl, (by intro b hb; simp at hb), (by simp (maxDischargeDepth := 60))⟩
    case round =>
      obtain ⟨k, hk, rfl, rfl, HD, o, m, rfl⟩ := hrel
      have hbd := Ch.accOf_bound _ HD.out
      have hp := pow_le (k := k) (by omega)
      rw [List.length_take, Nat.min_eq_left (by have := HLen.out; omega)] at hbd
      have ha0 := hbd.1
      have ha1 : Ch.accOf (s.data.toList.take k) ≤ 1000000000 := by omega
      clear hbd hp
      generalize hA : Ch.accOf (s.data.toList.take k) = acc at *
      have HA := Lib.hid hA
      clear hA
      by_cases hlt : k < s.size
      · have HB := Lib.hid (byte_at hlt)
        obtain ⟨c, hc⟩ : ∃ c, (s[k]'hlt).toNat = c := ⟨_, rfl⟩
        have hc9 : c < 256 := by rw [← hc]; exact UInt8.toNat_lt _
        have hki : (k : Int) < (s.size : Int) := by omega
        by_cases hd : 48 ≤ c ∧ c ≤ 57
        · obtain ⟨hd1, hd2⟩ := hd
          have i1 : IntKind.u8.wrap ((c : Int) - 48) = (c : Int) - 48 := by rw [Go.IntKind.wrap_u8]; omega
          have HD2 : Hid (Ch.Digits (s.data.toList.take (k + 1)) ∧ Ch.accOf (s.data.toList.take (k + 1)) = 10 * acc + ((c : Int) - 48)) := by
            rw [List.take_add_one, HB.out]
            refine ⟨?_, ?_⟩
            · intro b hb
              rcases List.mem_append.1 hb with hb | hb
              · exact HD.out b hb
              · simp at hb; subst hb; rw [hc]; exact ⟨hd1, hd2⟩
            · show Ch.accOf (_ ++ [s[k]]) = _
              rw [Ch.accOf_snoc, HA.out, hc]
          go_wp2
          go_roundw
          case rel => exact ⟨k + 1, by omega, by go_num, by rw [HD2.out.2], HD2.out.1, (by simp (maxDischargeDepth := 60))⟩
          case measure => simp [intOf]; omega
        · have e : natV s = -1 := by
            apply natV_none
            apply Ch.nat_none
            refine Or.inr (Or.inr (Or.inl ⟨s[k], List.mem_of_getElem? HB.out, ?_⟩))
            rw [hc]; exact hd
          replace e := Lib.hid e
          by_cases hd1 : c < 48
          · go_wp2
            go_ret
            exact ⟨congrArg (fun z => Ending.returned (vi z)) e.out.symm, (by simp (maxDischargeDepth := 60))⟩
          · have hd2 : 57 < c := by omega
            go_wp2
            go_ret
            exact ⟨congrArg (fun z => Ending.returned (vi z)) e.out.symm, (by simp (maxDischargeDepth := 60))⟩
      · have hks : k = s.size := by omega
        have e : natV s = if acc ≤ 999999 then acc else -1 := by
          unfold natV
          have ht : s.data.toList.take k = s.data.toList := List.take_of_length_le (by have := HLen.out; omega)
          have h1 := HA.out
          have h2 := HD.out
          rw [ht] at h1 h2
          rw [Ch.nat_ok h2 HLed.out HNe.out, h1]
          by_cases hm : acc ≤ 999999
          · rw [if_pos hm, if_pos hm]
          · rw [if_neg hm, if_neg hm]
        replace e := Lib.hid e
        subst hks
        by_cases hm : acc ≤ 999999
        · go_wp2
          go_ret
          exact ⟨congrArg (fun z => Ending.returned (vi z)) (e.out.trans (if_pos hm)).symm, (by simp (maxDischargeDepth := 60))⟩
        · go_wp2
          go_ret
          exact ⟨congrArg (fun z => Ending.returned (vi z)) (e.out.trans (if_neg (by omega))).symm, (by simp (maxDischargeDepth := 60))⟩

set_option maxRecDepth 100000 in
theorem natural_empty (s : ByteArray) (w : World) (h : s.size = 0) : Calls Tryd.prog 29 #[.string s, vi 999999] w fun e w' => e = .returned (vi (natV s)) ∧ Ext w w' := by
  have e : natV s = -1 := by
    apply natV_none
    apply Ch.nat_none
    refine Or.inl ?_
    rw [← List.length_eq_zero_iff]; simpa using h
  rw [e]
  go_enter Tryd.func29, Tryd.ntmps29
  go_wp2
  go_ret
  exact ⟨rfl, (by simp (maxDischargeDepth := 60))⟩

theorem natural_all (s : ByteArray) (w : World) (hs : Hid (s.size ≤ 1000000)) : Calls Tryd.prog 29 #[.string s, vi 999999] w fun e w' => e = .returned (vi (natV s)) ∧ Ext w w' := by
  by_cases h0 : s.size = 0
  · exact natural_empty s w h0
  by_cases h9 : 9 < s.size
  · exact natural_long s w h9 hs.out
  by_cases h : 1 < s.size ∧ (s[0]'(by omega)).toNat = 48
  · exact natural_led s w h.1 (by omega) h.2
  · exact natural_any s w (by omega) (by omega) h
end Go.Proofs.YtplomeacjbkgnaaDoor
