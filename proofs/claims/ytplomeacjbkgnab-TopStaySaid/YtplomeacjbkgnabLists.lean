/-
  The walks of the statements' own functions has and alike: lists of numbers.
-/
import Derived.Test.YtplomeacjbkgnabCars
namespace Go.Proofs.Ytplomeacjbkgnab
open Go.RowKit

theorem at1' {w : World} {b p : Nat} {x : Int} (h : ∀ j y, (intCells x)[j]? = some y → w.cell? ⟨b, p + j, none⟩ = some y) : w.cell? ⟨b, p, none⟩ = some (vi x) := h 0 _ rfl

theorem take_mem {l : List Int} {k : Nat} {x y : Int} (hx : l[k]? = some x) (h : y ∉ l.take k) (hne : ¬ x = y) : y ∉ l.take (k + 1) := by
  rw [List.take_add_one, hx]
  simp only [Option.toList_some, List.mem_append, List.mem_singleton, not_or]
  exact ⟨h, fun e => hne e.symm⟩

set_option maxRecDepth 100000 in
set_option maxHeartbeats 1000000 in
theorem has_ints (a : Option Addr) (n cap : Nat) (l : List Int) (x : Int) (w : World) (h : Sl w 1 intCells l a n cap) :
    Calls Try.prog 31 #[.slice a n cap, vi x] w fun e w' => e = .returned (.bool (decide (x ∈ l))) ∧ Ext w w' := by
  have HS := Lib.hid h
  have hb := h.bound
  have HL := Lib.hid h.len
  clear h
  go_enter Try.func31, Try.ntmps31
  go_wp2
  go_loop [5] (fun i => ∃ k : Nat, k ≤ n ∧ i = .int .i64 k ∧ Hid (x ∉ l.take k)) (fun i => n - (intOf i).toNat)
  case atStart => exact ⟨0, by omega, rfl, by simp [Hid]⟩
  case round =>
    obtain ⟨k, hk, rfl, HT⟩ := hrel
    by_cases hlt : k < n
    · obtain ⟨b, o, y, rfl, hy, dy⟩ := HS.out.get hlt
      have dy := at1' dy
      rw [Nat.mul_one] at dy
      have hbl := cell_lt dy
      have HY := Lib.hid hy
      clear hy
      by_cases he : y = x
      · have hq : (y == x) = true := by simpa using he
        have HE := Lib.hid he
        clear he
        go_wp2
        go_ret
        refine ⟨?_, (by simp (maxDischargeDepth := 60))⟩
        have : x ∈ l := by rw [← HE.out]; exact List.mem_of_getElem? HY.out
        simp [this]
      · have hq : (y == x) = false := by simpa using he
        have HE := Lib.hid he
        clear he
        go_wp2
        go_round
        case rel => exact ⟨k + 1, by omega, by go_num, take_mem HY.out HT.out HE.out⟩
        case measure => simp [intOf]; omega
    · go_wp2
      go_ret
      refine ⟨?_, (by simp (maxDischargeDepth := 60))⟩
      have := HT.out
      rw [List.take_of_length_le (by have := HL.out; omega)] at this
      simp [this]

/-- how much oftener a number stands in the one than in the other, up to k -/
def tally (x : Int) (l m : List Int) (k : Nat) : Int := ((l.take k).count x : Int) - ((m.take k).count x : Int)

theorem count_step {x y : Int} {l : List Int} {k : Nat} (h : l[k]? = some y) : (l.take (k + 1)).count x = (l.take k).count x + (if (y == x) = true then 1 else 0) := by
  rw [List.take_add_one, h]
  simp [List.count_append, List.count_singleton]

theorem tally_step {x y z : Int} {l m : List Int} {k : Nat} (h1 : l[k]? = some y) (h2 : m[k]? = some z) : tally x l m (k + 1) = tally x l m k + (if (y == x) = true then 1 else 0) - (if (z == x) = true then 1 else 0) := by
  unfold tally
  rw [count_step h1, count_step h2]
  split <;> split <;> omega

theorem tally_bound (x : Int) (l m : List Int) (k : Nat) : -(k : Int) ≤ tally x l m k ∧ tally x l m k ≤ k := by
  unfold tally
  have h1 := List.count_le_length (a := x) (l := l.take k)
  have h2 := List.count_le_length (a := x) (l := m.take k)
  have h3 : (l.take k).length ≤ k := by rw [List.length_take]; omega
  have h4 : (m.take k).length ≤ k := by rw [List.length_take]; omega
  omega

theorem tally_all {x : Int} {l m : List Int} {n : Nat} (h : l.Perm m) (h1 : l.length = n) (h2 : m.length = n) : tally x l m n = 0 := by
  unfold tally
  rw [List.take_of_length_le (by omega), List.take_of_length_le (by omega), h.count_eq]
  omega

set_option maxRecDepth 100000 in
set_option maxHeartbeats 4000000 in
theorem alike_yes (a b : Option Addr) (n cap n' cap' : Nat) (l m : List Int) (w : World) (h : Sl w 1 intCells l a n cap) (h' : Sl w 1 intCells m b n' cap') (hp : l.Perm m) :
    Calls Try.prog 33 #[.slice a n cap, .slice b n' cap'] w fun e w' => e = .returned (.bool true) ∧ Ext w w' := by
  have HS := Lib.hid h
  have HS' := Lib.hid h'
  have hb := h.bound
  have HL := Lib.hid h.len
  have HL' := Lib.hid h'.len
  have HP := Lib.hid hp
  have hnn : n' = n := by rw [← h.len, ← h'.len, hp.length_eq]
  subst hnn
  clear h h' hp
  go_enter Try.func33, Try.ntmps33
  go_wp2
  go_loopw [5] (fun i wr => ∃ k : Nat, k ≤ n' ∧ i = .int .i64 k ∧ Ext w wr) (fun i _ => n' - (intOf i).toNat)
  case atStart => exact ⟨0, by omega, rfl, (by simp (maxDischargeDepth := 60))⟩
  case round =>
    obtain ⟨i, hi, rfl, oR, nR, rfl⟩ := hrel
    by_cases hlt : i < n'
    · obtain ⟨p, o, x, rfl, hx, dx⟩ := HS.out.get hlt
      have dx := at1' dx
      rw [Nat.mul_one] at dx
      have hbl := cell_lt dx
      clear hx
      obtain ⟨p', o', x', rfl, hx', dx'⟩ := HS'.out.get hlt
      clear hx' dx'
      go_wp2
      go_loopw [6, 7] (fun v j wr => ∃ k : Nat, k ≤ n' ∧ j = .int .i64 k ∧ v = .int .i64 (tally x l m k) ∧ Ext w wr) (fun _ j _ => n' - (intOf j).toNat)
      case atStart => exact ⟨0, by omega, rfl, by simp [tally], (by simp (maxDischargeDepth := 60))⟩
      case round =>
        obtain ⟨k, hk, rfl, rfl, oK, nK, rfl⟩ := hrel
        have tb := tally_bound x l m k
        by_cases hlk : k < n'
        · obtain ⟨y, hy, dy⟩ := HS.out.get' hlk
          have dy := at1' dy
          rw [Nat.mul_one] at dy
          obtain ⟨z, hz, dz⟩ := HS'.out.get' hlk
          have dz := at1' dz
          rw [Nat.mul_one] at dz
          have hbz := cell_lt dz
          have HT := Lib.hid (tally_step (x := x) hy hz)
          have i1 : IntKind.i64.wrap (tally x l m k + 1) = tally x l m k + 1 := IntWalk.i64_in _ (by omega)
          have i2 : IntKind.i64.wrap (tally x l m k - 1) = tally x l m k - 1 := IntWalk.i64_in _ (by omega)
          have i3 : IntKind.i64.wrap (tally x l m k + 1 - 1) = tally x l m k + 1 - 1 := IntWalk.i64_in _ (by omega)
          clear hy hz
          cases hq1 : (y == x) <;> cases hq2 : (z == x)
          all_goals
            have HQ1 := Lib.hid hq1
            have HQ2 := Lib.hid hq2
            go_upto_region 10 with fail
            (refine wp_region_ext (by kernel_rfl) (by kernel_rfl) ?_; (repeat (first | go_big_quiet_step (fail) | quiet_step (fail))); refine wpQuiet_nil ?_; intro _ hw'; obtain ⟨oq, nq, hw''⟩ := hw'; subst hw'')
            go_upto_region 12 with fail
            (refine wp_region_ext (by kernel_rfl) (by kernel_rfl) ?_; (repeat (first | go_big_quiet_step (fail) | quiet_step (fail))); refine wpQuiet_nil ?_; intro _ hw'; obtain ⟨oq, nq, hw''⟩ := hw'; subst hw'')
            go_wp2
            go_roundw
            case rel => exact ⟨k + 1, by omega, by go_num, by congr 1; have := HT.out; rw [HQ1.out, HQ2.out] at this; simp only [if_true, if_false, Bool.false_eq_true] at this; omega, (by simp (maxDischargeDepth := 60))⟩
            case measure => simp [intOf]; omega
        · have hkn : k = n' := by omega
          subst hkn
          have ht0 : tally x l m k = 0 := tally_all HP.out HL.out HL'.out
          have H0 := Lib.hid ht0
          rw [ht0]
          clear ht0 tb
          go_wp2
          go_roundw
          case rel => exact ⟨i + 1, by omega, by go_num, (by simp (maxDischargeDepth := 60))⟩
          case measure => simp [intOf]; omega
    · go_wp2
      go_ret
      exact ⟨rfl, (by simp (maxDischargeDepth := 60))⟩

end Go.Proofs.Ytplomeacjbkgnab
