/-
  The walk of the statements' own function but.
-/
import Derived.Test.YtplomeacjbkgnacPlant
import Derived.Deep.RegionWith
namespace Go.Proofs.Ytplomeacjbkgnac
open Go.RowKit

theorem neqPlace_of (w : World) (a b c a' b' c' : Int) : (Go.binOp .neq 35 (.agg #[vi a, vi b, vi c]) (.agg #[vi a', vi b', vi c'])).run Try.prog w = .ok (.bool (!decide ((⟨a, b, c⟩ : Ch.Place) = ⟨a', b', c'⟩))) w :=
  neqStruct w (eqPlace w 9998 ⟨a, b, c⟩ ⟨a', b', c'⟩)

set_option maxRecDepth 100000 in
set_option maxHeartbeats 4000000 in
theorem but_any {pb mb pb' mb' : Nat} {p q : Ch.Plant} {w : World} (h : PlantAt w pb mb p) (h' : PlantAt w pb' mb' q) (x y z : Int) (heq : ∀ s : Ch.Place, s ≠ ⟨x, y, z⟩ → p.slots s = q.slots s) :
    Calls Try.prog 12 #[.pointer (some ⟨pb, 0, none⟩), .pointer (some ⟨pb', 0, none⟩), .agg #[vi x, vi y, vi z]] w fun e w' => e = .returned (.bool true) ∧ Ext w w' := by
  have HP := Lib.hid h
  have HQ := Lib.hid h'
  have HE := Lib.hid heq
  clear h h' heq
  go_enter Try.func12, Try.ntmps12
  go_upto_region 1 with fail
  generalize hW : World.alloc _ _ = w0
  have k0 : w0.cell? ⟨w.heap.size, 0, none⟩ = some (vi x) := by rw [← hW]; simp [go_sem]
  have k1 : w0.cell? ⟨w.heap.size, 1, none⟩ = some (vi y) := by rw [← hW]; simp [go_sem]
  have k2 : w0.cell? ⟨w.heap.size, 2, none⟩ = some (vi z) := by rw [← hW]; simp [go_sem]
  have hx0 : Ext w w0 := by rw [← hW]; exact (by simp (maxDischargeDepth := 60))
  have HP0 := Lib.hid (HP.out.ext hx0)
  have HQ0 := Lib.hid (HQ.out.ext hx0)
  have HX := Lib.hid hx0
  have hz := cell_lt k0
  clear hW hx0
  go_wp2
  go_loopw [7] (fun i wr => ∃ n : Nat, 1 ≤ n ∧ n ≤ 5 ∧ i = .int .i64 n ∧ Ext w0 wr) (fun i _ => 5 - (intOf i).toNat)
  case atStart => exact ⟨1, by omega, by omega, rfl, (by simp (maxDischargeDepth := 60))⟩
  case round =>
    obtain ⟨n, hn1, hn5, rfl, oR, nR, rfl⟩ := hrel
    by_cases hlt : n ≤ 4
    · go_wp2
      go_loopw [8] (fun i wr => ∃ k : Nat, k ≤ 4 ∧ i = .int .i64 k ∧ Ext w0 wr) (fun i _ => 4 - (intOf i).toNat)
      case atStart => exact ⟨0, by omega, rfl, (by simp (maxDischargeDepth := 60))⟩
      case round =>
        obtain ⟨k, hk, rfl, oK, nK, rfl⟩ := hrel
        by_cases hlk : k < 4
        · by_cases hs : (⟨(n : Int), (k : Int) / 2, (k : Int) % 2⟩ : Ch.Place) = ⟨x, y, z⟩
          · have hq1 : ∀ w, (Go.binOp .neq 35 (.agg #[vi (n : Int), vi ((k : Int) / 2), vi ((k : Int) % 2)]) (.agg #[vi x, vi y, vi z])).run Try.prog w = .ok (.bool false) w := fun w => by rw [neqPlace_of]; simp [hs]
            clear hs
            go_wp2
            (refine wp_region_ext (by kernel_rfl) (by kernel_rfl) ?_; (repeat (first | go_big_quiet_step (fail) | quiet_step (fail))); refine wpQuiet_nil ?_; intro _ hw'; obtain ⟨oq, nq, hw''⟩ := hw'; subst hw'')
            go_wp2
            go_roundw
            case rel => exact ⟨k + 1, by omega, by go_num, (by simp (maxDischargeDepth := 60))⟩
            case measure => simp [intOf]; omega
          · have hq1 : ∀ w, (Go.binOp .neq 35 (.agg #[vi (n : Int), vi ((k : Int) / 2), vi ((k : Int) % 2)]) (.agg #[vi x, vi y, vi z])).run Try.prog w = .ok (.bool true) w := fun w => by rw [neqPlace_of]; simp [hs]
            have he := HE.out _ hs
            clear hs
            go_wp2
            (refine wp_region_ext (by kernel_rfl) (by kernel_rfl) ?_; (repeat (first | go_big_quiet_step ((first | (intro _; go_at_call_of 15 (Value.pointer (some ⟨pb, 0, none⟩)); exact ext_callG (at_any (HP0.out.ext (by simp (maxDischargeDepth := 60))) _ _ _) (by rintro w' ⟨o', n', rfl⟩; exact ⟨_, n', by first | (simp only [plus_plus]; rfl) | (simp only [plus_plus, Array.append_assoc]; rfl) | rfl⟩)) | (intro _; go_at_call_of 15 (Value.pointer (some ⟨pb', 0, none⟩)); exact ext_callG (at_any (HQ0.out.ext (by simp (maxDischargeDepth := 60))) _ _ _) (by rintro w' ⟨o', n', rfl⟩; exact ⟨_, n', by first | (simp only [plus_plus]; rfl) | (simp only [plus_plus, Array.append_assoc]; rfl) | rfl⟩)))) | quiet_step ((first | (intro _; go_at_call_of 15 (Value.pointer (some ⟨pb, 0, none⟩)); exact ext_callG (at_any (HP0.out.ext (by simp (maxDischargeDepth := 60))) _ _ _) (by rintro w' ⟨o', n', rfl⟩; exact ⟨_, n', by first | (simp only [plus_plus]; rfl) | (simp only [plus_plus, Array.append_assoc]; rfl) | rfl⟩)) | (intro _; go_at_call_of 15 (Value.pointer (some ⟨pb', 0, none⟩)); exact ext_callG (at_any (HQ0.out.ext (by simp (maxDischargeDepth := 60))) _ _ _) (by rintro w' ⟨o', n', rfl⟩; exact ⟨_, n', by first | (simp only [plus_plus]; rfl) | (simp only [plus_plus, Array.append_assoc]; rfl) | rfl⟩)))))); refine wpQuiet_nil ?_; intro _ hw'; obtain ⟨oq, nq, hw''⟩ := hw'; subst hw'')
            go_wp2
            go_roundw
            case rel => exact ⟨k + 1, by omega, by go_num, (by simp (maxDischargeDepth := 60))⟩
            case measure => simp [intOf]; omega
        · go_wp2
          go_roundw
          case rel => exact ⟨n + 1, by omega, by omega, by go_num, (by simp (maxDischargeDepth := 60))⟩
          case measure => simp [intOf]; omega
    · go_wp2
      go_ret
      exact ⟨rfl, HX.out.trans (by simp (maxDischargeDepth := 60))⟩
end Go.Proofs.Ytplomeacjbkgnac
