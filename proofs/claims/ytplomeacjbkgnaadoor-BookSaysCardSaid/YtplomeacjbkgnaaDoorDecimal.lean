/-
  The walk of the reference's Decimal: a number's digits.
-/
import Derived.Laws.BytesArg
import Derived.Test.YtplomeacjbkgnaaDoorText
namespace Go.Proofs.YtplomeacjbkgnaaDoor
open Go.RowKit

/-- a byte, as a text -/
def byteS (x : Int) : ByteArray := ⟨#[UInt8.ofNat x.toNat]⟩

theorem conv_one (w : World) (a : Nat) (x : Int) (h : w.cell? ⟨a, 0, none⟩ = some (.int .u8 x)) : (convert 81 9 (.slice (some ⟨a, 0, none⟩) 1 1)).run Tryd.prog w = .ok (.string (byteS x)) w := by
  refine run_convert_bytes_arg w 81 5 Tryd.underlying81 Tryd.underlying5 a 0 1 1 [x] rfl ?_ 9 Tryd.underlying9
  intro i hi
  obtain rfl : i = 0 := by omega
  exact h

theorem itoaS_one {n : Int} (h0 : 0 ≤ n) (h1 : n < 10) : itoaS n = byteS (48 + n) := by
  apply ba_ext
  rw [itoaS_list]
  unfold Lib.itoa
  rw [if_neg (by omega), Lib.decDigits_one (by omega)]
  show [UInt8.ofNat (48 + n.toNat)] = [UInt8.ofNat (48 + n).toNat]
  rw [show (48 + n).toNat = 48 + n.toNat by omega]

theorem itoaS_more {n : Int} (h1 : 10 ≤ n) : itoaS n = itoaS (n / 10) ++ byteS (48 + n % 10) := by
  apply ba_ext
  rw [ba_append, itoaS_list, itoaS_list]
  unfold Lib.itoa
  rw [if_neg (by omega), if_neg (by omega), Ch.dec_append _ (by omega)]
  show _ ++ [UInt8.ofNat (48 + n.toNat % 10)] = _ ++ [UInt8.ofNat (48 + n % 10).toNat]
  rw [show (48 + n % 10).toNat = 48 + n.toNat % 10 by omega, show n.toNat / 10 = (n / 10).toNat by omega]

set_option maxRecDepth 100000 in
theorem decimal_one (n : Int) (w : World) (h0 : 0 ≤ n) (h1 : n < 10) : Calls Tryd.prog 30 #[vi n] w fun e w' => e = .returned (.string (itoaS n)) ∧ Ext w w' := by
  rw [itoaS_one h0 h1]
  go_enter Tryd.func30, Tryd.ntmps30
  go_wp2_with fail
  rw [conv_one (x := 48 + n)]
  rotate_left 1
  · simp [go_sem]
  go_wp2_with fail
  go_ret
  exact ⟨rfl, (by simp (maxDischargeDepth := 60))⟩

set_option maxRecDepth 100000 in
theorem decimal_more (n : Int) (w : World) (h1 : 10 ≤ n) (h2 : n ≤ 1000000) (ih : ∀ v, Calls Tryd.prog 30 #[vi (n / 10)] v fun e w' => e = .returned (.string (itoaS (n / 10))) ∧ Ext v w') :
    Calls Tryd.prog 30 #[vi n] w fun e w' => e = .returned (.string (itoaS n)) ∧ Ext w w' := by
  have hz : (itoaS (n / 10)).size ≤ 6 := itoaS_size ⟨by omega, by omega⟩
  have hb : (byteS (48 + n % 10)).size = 1 := rfl
  have e1 : n.tdiv 10 = n / 10 := Int.tdiv_eq_ediv_of_nonneg (by omega)
  have e2 : n.tmod 10 = n % 10 := Int.tmod_eq_emod_of_nonneg (by omega)
  have i1 : IntKind.i64.wrap (n / 10) = n / 10 := IntWalk.i64_in _ (by omega)
  have i2 : IntKind.i64.wrap (48 + n % 10) = 48 + n % 10 := IntWalk.i64_in _ (by omega)
  have i3 : IntKind.u8.wrap (48 + n % 10) = 48 + n % 10 := by rw [Go.IntKind.wrap_u8]; omega
  have c1 := cat_run _ _ _ (itoaS_more h1) (by omega)
  generalize itoaS n = T at *
  go_enter Tryd.func30, Tryd.ntmps30
  go_upto_region 5 with fail
  have r1 : ∀ (o : Array Obj) (k : Nat), (convert 81 9 (.slice (some ⟨w.heap.size + o.size, 0, none⟩) 1 1)).run Tryd.prog ((w.drew.plus o k).alloc (Obj.cells #[.int .u8 (48 + n % 10)] 5)) = .ok (.string (byteS (48 + n % 10))) ((w.drew.plus o k).alloc (Obj.cells #[.int .u8 (48 + n % 10)] 5)) := fun o k => conv_one _ _ _ (by simp [go_sem])
  have r2 : ∀ (o : Array Obj) (k : Nat), (convert 81 9 (.slice (some ⟨w.heap.size, 0, none⟩) 1 1)).run Tryd.prog ((w.alloc (Obj.cells #[.int .u8 (48 + n % 10)] 5)).drew.plus o k) = .ok (.string (byteS (48 + n % 10))) ((w.alloc (Obj.cells #[.int .u8 (48 + n % 10)] 5)).drew.plus o k) := fun o k => conv_one _ _ _ (by simp [plus_cell, go_sem])
  have r3 : (convert 81 9 (.slice (some ⟨w.heap.size, 0, none⟩) 1 1)).run Tryd.prog (w.alloc (Obj.cells #[.int .u8 (48 + n % 10)] 5)).drew = .ok (.string (byteS (48 + n % 10))) (w.alloc (Obj.cells #[.int .u8 (48 + n % 10)] 5)).drew := conv_one _ _ _ (by simp [go_sem])
  go_region_with (first | (go_at_call 30; (with_reducible refine (ih _).mono ?_); rintro e w1 ⟨rfl, o1, n1, rfl⟩))
  all_goals
    go_wp2_with fail
    go_ret
    exact ⟨rfl, (by simp (maxDischargeDepth := 60))⟩

theorem decimal_all : ∀ (k : Nat) (n : Int) (w : World), 0 ≤ n → n ≤ 999999 → n < 10 ^ (k + 1) → Calls Tryd.prog 30 #[vi n] w fun e w' => e = .returned (.string (itoaS n)) ∧ Ext w w'
  | 0, n, w, h0, _, h2 => decimal_one n w h0 (by omega)
  | k + 1, n, w, h0, h1, h2 => by
    by_cases h : n < 10
    · exact decimal_one n w h0 h
    · have h2 : n < 10 ^ (k + 1) * 10 := by rw [← Int.pow_succ]; exact h2
      exact decimal_more n w (by omega) (by omega) (fun v => decimal_all k (n / 10) v (by omega) (by omega) (by omega))

theorem decimal_any (n : Int) (w : World) (hn : Hid (0 ≤ n ∧ n ≤ 999999)) : Calls Tryd.prog 30 #[vi n] w fun e w' => e = .returned (.string (itoaS n)) ∧ Ext w w' :=
  decimal_all 5 n w hn.out.1 hn.out.2 (by have := hn.out; omega)
end Go.Proofs.YtplomeacjbkgnaaDoor
