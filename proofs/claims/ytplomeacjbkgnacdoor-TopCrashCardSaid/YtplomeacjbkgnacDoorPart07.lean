/-
  Walks of the program's functions, and what they need: Ledger, Tower, Slices, Book.
-/
import Derived.Laws.BytesArg
import Derived.Test.YtplomeacjbkgnacDoorPart03
import Derived.Deep.RegionWith
import Derived.Deep.RegionHeld3
import Derived.Deep.Cut
import Derived.Test.YtplomeacjbkgnacDoorPart06
import Derived.Laws.Concat
import Derived.Test.YtplomeacjbkgnacDoorPart02
import Derived.Deep.Light

namespace Go.Proofs.YtplomeacjbkgnacDoor
open Go.RowKit

def fourS (n : Nat) : ByteArray := ⟨(Ch.four n).toArray⟩

def headBS (e k : Nat) : ByteArray := ⟨(Ch.head e k).toArray⟩

theorem conv_four (w : World) (a : Nat) (x0 x1 x2 x3 : Int) (h0 : w.cell? ⟨a, 0, none⟩ = some (.int .u8 x0)) (h1 : w.cell? ⟨a, 1, none⟩ = some (.int .u8 x1)) (h2 : w.cell? ⟨a, 2, none⟩ = some (.int .u8 x2)) (h3 : w.cell? ⟨a, 3, none⟩ = some (.int .u8 x3)) :
    (convert 79 9 (.slice (some ⟨a, 0, none⟩) 4 4)).run Tryd.prog w = .ok (.string ⟨#[UInt8.ofNat x0.toNat, UInt8.ofNat x1.toNat, UInt8.ofNat x2.toNat, UInt8.ofNat x3.toNat]⟩) w := by
  refine run_convert_bytes_arg w 79 5 Tryd.underlying79 Tryd.underlying5 a 0 4 4 [x0, x1, x2, x3] rfl ?_ 9 Tryd.underlying9
  intro i hi
  match i, hi with
  | 0, _ => exact h0
  | 1, _ => exact h1
  | 2, _ => exact h2
  | 3, _ => exact h3

theorem fourS_is (n : Nat) (hn : n < 4294967296) : (⟨#[UInt8.ofNat ((n : Int) % 256).toNat, UInt8.ofNat ((n : Int) / 256 % 256).toNat, UInt8.ofNat ((n : Int) / 65536 % 256).toNat, UInt8.ofNat ((n : Int) / 16777216).toNat]⟩ : ByteArray) = fourS n := by
  unfold fourS Ch.four
  congr 1
  have h : ∀ a b : Nat, a % 256 = b % 256 → UInt8.ofNat a = UInt8.ofNat b := fun a b e => by
    apply UInt8.toNat_inj.1
    simpa using e
  rw [h ((n : Int) % 256).toNat n (by omega), h ((n : Int) / 256 % 256).toNat (n / 256) (by omega), h ((n : Int) / 65536 % 256).toNat (n / 65536) (by omega), h ((n : Int) / 16777216).toNat (n / 16777216) (by omega)]

set_option maxRecDepth 100000 in
theorem four_any (n : Nat) (w : World) (hn : n < 4294967296) : Calls Tryd.prog 53 #[vi (n : Int)] w fun e w' => e = .returned (.string (fourS n)) ∧ Ext w w' := by
  rw [← fourS_is n hn]
  go_enter Tryd.func53, Tryd.ntmps53
  go_wp2_with fail
  rw [conv_four (x0 := (n : Int) % 256) (x1 := (n : Int) / 256 % 256) (x2 := (n : Int) / 65536 % 256) (x3 := (n : Int) / 16777216)]
  rotate_left 1
  · simp [go_sem]
  · simp [go_sem]
  · simp [go_sem]
  · simp [go_sem]
  go_wp2_with fail
  go_ret
  exact ⟨rfl, (by simp (maxDischargeDepth := 60))⟩

theorem headBS_is (e k : Nat) : headBS e k = (⟨#[66]⟩ ++ fourS e) ++ fourS k := by
  apply ByteArray.ext
  simp [headBS, fourS, Ch.head, ByteArray.data_append]

set_option maxRecDepth 100000 in
theorem head_any (e k : Nat) (w : World) (he : e < 4294967296) (hk : k < 4294967296) : Calls Tryd.prog 29 #[vi (e : Int), vi (k : Int)] w fun x w' => x = .returned (.string (headBS e k)) ∧ Ext w w' := by
  have c1 : ∀ w, (Op.stringOp .add ⟨#[66]⟩ (fourS e)).run Tryd.prog w = .ok (.string (⟨#[66]⟩ ++ fourS e)) w := fun w => by
    rw [run_string_add_sum w _ _ (by show 1 + 4 ≤ 9223372036854775807; decide)]
  have c2 : ∀ w, (Op.stringOp .add (⟨#[66]⟩ ++ fourS e) (fourS k)).run Tryd.prog w = .ok (.string (headBS e k)) w := fun w => by
    rw [headBS_is, run_string_add_sum w _ _ (by rw [ByteArray.size_append]; show 1 + 4 + 4 ≤ 9223372036854775807; decide)]
  have F1 : Hid (∀ w, Calls Tryd.prog 53 #[vi (e : Int)] w fun x w' => x = .returned (.string (fourS e)) ∧ Ext w w') := fun w => four_any e w he
  have F2 : Hid (∀ w, Calls Tryd.prog 53 #[vi (k : Int)] w fun x w' => x = .returned (.string (fourS k)) ∧ Ext w w') := fun w => four_any k w hk
  generalize fourS e = X at *
  generalize fourS k = Y at *
  go_enter Tryd.func29, Tryd.ntmps29
  go_wp2_with (first
    | (go_at_call 53; (with_reducible refine (F1.out _).mono ?_); rintro e w1 ⟨rfl, o1, n1, rfl⟩)
    | (go_at_call 53; (with_reducible refine (F2.out _).mono ?_); rintro e w2 ⟨rfl, o2, n2, rfl⟩))
  go_ret
  exact ⟨rfl, (by simp (maxDischargeDepth := 60))⟩

theorem or_i64 (a b i : Nat) (ha : a < 2 ^ i) (hs : a + b * 2 ^ i < 9223372036854775808) : bits .or .i64 (a : Int) ((b * 2 ^ i : Nat) : Int) = ((a + b * 2 ^ i : Nat) : Int) := by
  have hx : a ||| b * 2 ^ i = a + b * 2 ^ i := by
    have := Nat.shiftLeft_add_eq_or_of_lt ha b
    rw [Nat.shiftLeft_eq] at this
    rw [Nat.or_comm, ← this, Nat.add_comm]
  have h1 : (BitVec.ofInt 64 (a : Int)).toNat = a := by
    rw [BitVec.ofInt_natCast, BitVec.toNat_ofNat]; exact Nat.mod_eq_of_lt (by omega)
  have h2 : (BitVec.ofInt 64 ((b * 2 ^ i : Nat) : Int)).toNat = b * 2 ^ i := by
    rw [BitVec.ofInt_natCast, BitVec.toNat_ofNat]; exact Nat.mod_eq_of_lt (by omega)
  show IntKind.i64.wrap ((BitVec.ofInt 64 (a : Int) ||| BitVec.ofInt 64 ((b * 2 ^ i : Nat) : Int)).toNat : Int) = _
  rw [BitVec.toNat_or, h1, h2, hx]
  exact IntWalk.i64_in _ (by omega)

theorem unfour_is (a b c d : Nat) (h0 : a < 256) (h1 : b < 256) (h2 : c < 256) (h3 : d < 256) :
    bits .or .i64 (bits .or .i64 (bits .or .i64 (wrap64 (a : Int)) (wrap64 (wrap64 (b : Int) * 256))) (wrap64 (wrap64 (c : Int) * 65536))) (wrap64 (wrap64 (d : Int) * 16777216)) = ((a + 256 * b + 65536 * c + 16777216 * d : Nat) : Int) := by
  have w : ∀ n : Nat, n < 9223372036854775808 → wrap64 (n : Int) = (n : Int) := fun n hn => IntWalk.wrap64_in (n : Int) (by omega)
  have e1 : wrap64 (wrap64 (b : Int) * 256) = ((b * 2 ^ 8 : Nat) : Int) := by rw [w b (by omega), show (b : Int) * 256 = ((b * 256 : Nat) : Int) from (Int.natCast_mul b 256).symm, w _ (by omega)]
  have e2 : wrap64 (wrap64 (c : Int) * 65536) = ((c * 2 ^ 16 : Nat) : Int) := by rw [w c (by omega), show (c : Int) * 65536 = ((c * 65536 : Nat) : Int) from (Int.natCast_mul c 65536).symm, w _ (by omega)]
  have e3 : wrap64 (wrap64 (d : Int) * 16777216) = ((d * 2 ^ 24 : Nat) : Int) := by rw [w d (by omega), show (d : Int) * 16777216 = ((d * 16777216 : Nat) : Int) from (Int.natCast_mul d 16777216).symm, w _ (by omega)]
  rw [w a (by omega), e1, e2, e3, or_i64 a b 8 (by omega) (by omega), or_i64 (a + b * 2 ^ 8) c 16 (by omega) (by omega), or_i64 (a + b * 2 ^ 8 + c * 2 ^ 16) d 24 (by omega) (by omega)]
  congr 1
  omega

theorem unfour_s (s : ByteArray) (h : s.size = 4) : Ch.unfour s.data.toList 0 = s[0].toNat + 256 * s[1].toNat + 65536 * s[2].toNat + 16777216 * s[3].toNat := by
  have g : ∀ (i : Nat) (hi : i < s.size), Ch.byteOf s.data.toList i = s[i].toNat := fun i hi => by
    unfold Ch.byteOf
    rw [List.getD_eq_getElem?_getD, List.getElem?_eq_getElem (by rw [Array.length_toList]; exact hi)]
    rfl
  unfold Ch.unfour
  rw [g 0 (by omega), g 1 (by omega), g 2 (by omega), g 3 (by omega)]

set_option maxRecDepth 100000 in
theorem unfour_any (s : ByteArray) (w : World) (hs : s.size = 4) : Calls Tryd.prog 34 #[.string s] w fun x w' => x = .returned (vi ((Ch.unfour s.data.toList 0 : Nat) : Int)) ∧ Ext w w' := by
  have i0 : (0 : Int) < ((s.size : Nat) : Int) := by omega
  have i1 : (1 : Int) < ((s.size : Nat) : Int) := by omega
  have i2 : (2 : Int) < ((s.size : Nat) : Int) := by omega
  have i3 : (3 : Int) < ((s.size : Nat) : Int) := by omega
  have HU := Lib.hid (unfour_is s[0].toNat s[1].toNat s[2].toNat s[3].toNat s[0].toNat_lt s[1].toNat_lt s[2].toNat_lt s[3].toNat_lt)
  have HV := Lib.hid (unfour_s s hs)
  go_enter Tryd.func34, Tryd.ntmps34
  go_upto_region 1 with fail
  (refine wp_region_ext (by kernel_rfl) (by kernel_rfl) ?_; (repeat (first | go_big_quiet_step (fail) | quiet_step (fail))); refine wpQuiet_nil ?_; intro _ hw'; obtain ⟨oq, nq, hw''⟩ := hw'; subst hw'')
  go_wp2_with fail
  go_ret
  exact ⟨by rw [HV.out]; exact congrArg (fun z => Ending.returned (Value.int .i64 z)) HU.out, (by simp (maxDischargeDepth := 60))⟩
end Go.Proofs.YtplomeacjbkgnacDoor

namespace Go.Proofs.YtplomeacjbkgnacDoor
open Go.RowKit

/-- an error, by its number (0: none) -/
def errV (n : Int) : Value := if n = 0 then .nilIface else .iface 63 (vi n)

@[simp] theorem errV_0 : errV 0 = .nilIface := rfl

theorem errV_pos {n : Int} (h : n ≠ 0) : errV n = .iface 63 (vi n) := by simp [errV, h]

theorem place_ok {p : Ch.Place} {n : Int} : Ch.placeFault p n = 0 ↔ (1 ≤ p.level ∧ p.level ≤ n ∧ 0 ≤ p.side ∧ p.side ≤ 1 ∧ 0 ≤ p.depth ∧ p.depth ≤ 1) := by
  unfold Ch.placeFault
  split <;> simp <;> omega

theorem place_bad {p : Ch.Place} {n : Int} (h : ¬ Ch.placeFault p n = 0) : Ch.placeFault p n = 1 := by
  unfold Ch.placeFault at *
  split <;> simp_all

theorem ret_err {n m : Int} (h : n = m) : Ending.returned (errV n) = .returned (errV m) := by rw [h]

set_option maxRecDepth 100000 in
set_option maxHeartbeats 1000000 in
theorem checkSize_any (s : Ch.Size) (w : World) : Calls Tryd.prog 57 #[sizeA s] w fun e w' => e = .returned (errV (Ch.sizeFault s)) ∧ Ext w w' := by
  obtain ⟨a, b, c⟩ := s
  go_enter Tryd.func57, Tryd.ntmps57
  go_wp2
  go_rounds 4
  all_goals
    go_ret
    go_light
    refine ⟨?_, (by simp (maxDischargeDepth := 60))⟩
    simp only [Ch.sizeFault]
    first | (rw [if_pos (by omega)]; rfl) | (rw [if_neg (by omega)]; rfl)


set_option maxRecDepth 100000 in
set_option maxHeartbeats 1000000 in
theorem checkPlace_any (p : Ch.Place) (n : Int) (w : World) : Calls Tryd.prog 37 #[placeA p, vi n] w fun e w' => e = .returned (errV (Ch.placeFault p n)) ∧ Ext w w' := by
  obtain ⟨a, b, c⟩ := p
  go_enter Tryd.func37, Tryd.ntmps37
  go_wp2
  all_goals
    go_ret
    go_light
    refine ⟨?_, (by simp (maxDischargeDepth := 60))⟩
    simp only [Ch.placeFault]
    first | (rw [if_pos (by omega)]; rfl) | (rw [if_neg (by omega)]; rfl)




/-! ### the same, at structs written out -/

theorem checkSize_f (a b c : Int) (w : World) : Calls Tryd.prog 57 #[.agg #[vi a, vi b, vi c]] w fun e w' => e = .returned (errV (Ch.sizeFault ⟨a, b, c⟩)) ∧ Ext w w' := checkSize_any ⟨a, b, c⟩ w


theorem checkPlace_f (a b c n : Int) (w : World) : Calls Tryd.prog 37 #[.agg #[vi a, vi b, vi c], vi n] w fun e w' => e = .returned (errV (Ch.placeFault ⟨a, b, c⟩ n)) ∧ Ext w w' := checkPlace_any ⟨a, b, c⟩ n w




end Go.Proofs.YtplomeacjbkgnacDoor

namespace Go.Proofs.YtplomeacjbkgnacDoor
open Go.RowKit

theorem ext_cell {w w' : World} (h : Ext w w') {b o : Nat} {v : Value} (hc : w.cell? ⟨b, o, none⟩ = some v) : w'.cell? ⟨b, o, none⟩ = some v := by
  obtain ⟨o', n, rfl⟩ := h
  rw [plus_cell _ _ _ _ _ _ (cell_lt hc)]; exact hc

/-- a function value that answers a predicate of stays, from this world on -/
structure StayPred (w : World) (K : Nat) (caps : Array Value) (pred : Ch.Stay → Bool) : Prop where
  enters : ∀ args w, (callFunc K args).run Tryd.prog w = .ok (.enter K args) w
  answers : ∀ (s : Ch.Stay) (W : World), Ext w W → Calls Tryd.prog K (#[stayA s] ++ caps) W fun e w' => e = .returned (.bool (pred s)) ∧ Ext W w'

theorem indexOf_some {α : Type} {p : α → Bool} {l : List α} {k : Nat} {s : α} (hs : l[k]? = some s) (hp : p s = true) (hb : ∀ j s, j < k → l[j]? = some s → p s = false) : Ch.indexOf p l = k := by
  unfold Ch.indexOf
  have hk : k < l.length := by
    by_cases h : k < l.length
    · exact h
    · rw [List.getElem?_eq_none (by omega)] at hs; cases hs
  have hs' : l[k] = s := by rw [List.getElem?_eq_getElem hk] at hs; exact Option.some.inj hs
  have : l.findIdx? p = some k := by
    rw [List.findIdx?_eq_some_iff_getElem]
    refine ⟨hk, by rw [hs']; exact hp, fun j hj => ?_⟩
    have := hb j (l[j]'(by omega)) hj (by simp)
    simp [this]
  rw [this]

theorem before_step {α : Type} {p : α → Bool} {l : List α} {k : Nat} {s : α} (hs : l[k]? = some s) (hp : p s = false) (hb : ∀ j s, j < k → l[j]? = some s → p s = false) : ∀ j s, j < k + 1 → l[j]? = some s → p s = false := by
  intro j s' hj hs'
  by_cases hjk : j < k
  · exact hb j s' hjk hs'
  · have e : j = k := by omega
    rw [e, hs] at hs'
    cases hs'
    exact hp

theorem indexOf_none {α : Type} {p : α → Bool} {l : List α} (hb : ∀ j s, j < l.length → l[j]? = some s → p s = false) : Ch.indexOf p l = -1 := by
  unfold Ch.indexOf
  have : l.findIdx? p = none := by
    rw [List.findIdx?_eq_none_iff]
    intro x hx
    obtain ⟨j, hj, rfl⟩ := List.getElem_of_mem hx
    exact hb j _ hj (by simp)
  rw [this]

set_option maxRecDepth 100000 in
set_option maxHeartbeats 1000000 in
theorem indexStay_any (a : Option Addr) (n cap : Nat) (l : List Ch.Stay) (K : Nat) (caps : Array Value) (pred : Ch.Stay → Bool) (w : World) (h : Sl w 8 stayCells l a n cap) (hp : StayPred w K caps pred) :
    Calls Tryd.prog 42 #[.slice a n cap, .func (.func K) #[] caps] w fun e w' => e = .returned (vi (Ch.indexOf pred l)) ∧ Ext w w' := by
  have HF := Lib.hid h
  have HP := Lib.hid hp
  have hb := h.bound
  have hl := h.len
  have HL := Lib.hid hl
  clear h hp hl
  go_enter Tryd.func42, Tryd.ntmps42
  go_wp2
  go_loopw [8] (fun i wr => ∃ k : Nat, k ≤ n ∧ i = .int .i64 k ∧ Hid (∀ j s, j < k → l[j]? = some s → pred s = false) ∧ Ext w wr) (fun i _ => n - (intOf i).toNat)
  case atStart => exact ⟨0, by omega, rfl, by intro j s hj; omega, (by simp (maxDischargeDepth := 60))⟩
  case round =>
    obtain ⟨k, hk, rfl, HT, o, m, rfl⟩ := hrel
    by_cases hlt : k < n
    · obtain ⟨b, q, s, rfl, hs, ds⟩ := HF.out.get hlt
      have ds := at8 ds
      have hq := cell_lt ds.1
      have HS := Lib.hid hs
      clear hs
      have HR := HP.out.enters
      cases hps : pred s
      · have HQ := Lib.hid hps
        go_wp2_with ((with_reducible refine (HP.out.answers s _ (by simp (maxDischargeDepth := 60))).mono ?_); rintro e w1 ⟨rfl, o1, n1, rfl⟩)
        go_roundw
        case rel => exact ⟨k + 1, by omega, by go_num, before_step HS.out HQ.out HT.out, (by simp (maxDischargeDepth := 60))⟩
        case measure => simp [intOf]; omega
      · have HQ := Lib.hid hps
        go_wp2_with ((with_reducible refine (HP.out.answers s _ (by simp (maxDischargeDepth := 60))).mono ?_); rintro e w1 ⟨rfl, o1, n1, rfl⟩)
        go_ret
        exact ⟨by rw [indexOf_some HS.out HQ.out HT.out]; rfl, (by simp (maxDischargeDepth := 60))⟩
    · go_wp2
      go_ret
      exact ⟨by rw [indexOf_none (fun j s hj hs => HT.out j s (by have := HL.out; omega) hs)]; rfl, (by simp (maxDischargeDepth := 60))⟩

theorem indexOf_nn {α : Type} (p : α → Bool) (l : List α) : decide (0 ≤ Ch.indexOf p l) = l.any p := by
  unfold Ch.indexOf
  cases h : l.findIdx? p with
  | none =>
    rw [List.findIdx?_eq_none_iff] at h
    have : l.any p = false := by
      rw [List.any_eq_false]; intro x hx; simp [h x hx]
    rw [this]; rfl
  | some i =>
    rw [List.findIdx?_eq_some_iff_getElem] at h
    obtain ⟨hi, hp, _⟩ := h
    have : l.any p = true := List.any_eq_true.2 ⟨_, List.getElem_mem hi, hp⟩
    rw [this]
    simp

set_option maxRecDepth 100000 in
set_option maxHeartbeats 1000000 in
theorem containsStay_any (a : Option Addr) (n cap : Nat) (l : List Ch.Stay) (K : Nat) (caps : Array Value) (pred : Ch.Stay → Bool) (w : World) (h : Sl w 8 stayCells l a n cap) (hp : StayPred w K caps pred) :
    Calls Tryd.prog 40 #[.slice a n cap, .func (.func K) #[] caps] w fun e w' => e = .returned (.bool (l.any pred)) ∧ Ext w w' := by
  have HF := Lib.hid h
  have HP := Lib.hid hp
  clear h hp
  go_enter Tryd.func40, Tryd.ntmps40
  go_wp2_with (go_at_call 42; refine (indexStay_any _ _ _ l _ _ pred _ HF.out HP.out).mono ?_; rintro e w1 ⟨rfl, o1, n1, rfl⟩)
  go_ret
  exact ⟨by rw [← indexOf_nn]; rfl, (by simp (maxDischargeDepth := 60))⟩

theorem eqlJob_of (w : World) (a a' : Int) (b b' : Bool) : (Go.binOp .eql 62 (.agg #[vi a, .bool b]) (.agg #[vi a', .bool b'])).run Tryd.prog w = .ok (.bool (decide ((⟨a, b⟩ : Ch.Job) = ⟨a', b'⟩))) w :=
  eqlStruct w (eqJob w 9998 ⟨a, b⟩ ⟨a', b'⟩)

set_option maxRecDepth 100000 in
set_option maxHeartbeats 1000000 in
theorem indexJob_any (a : Option Addr) (n cap : Nat) (l : List Ch.Job) (t : Int) (f : Bool) (w : World) (h : Sl w 2 jobCells l a n cap) :
    Calls Tryd.prog 44 #[.slice a n cap, .agg #[vi t, .bool f]] w fun e w' => e = .returned (vi (Ch.indexOf (fun j => decide (j = ⟨t, f⟩)) l)) ∧ Ext w w' := by
  have HF := Lib.hid h
  have hb := h.bound
  have HL := Lib.hid h.len
  clear h
  go_enter Tryd.func44, Tryd.ntmps44
  go_wp2
  generalize hW : World.alloc _ _ = w0
  have k0 : w0.cell? ⟨w.heap.size, 0, none⟩ = some (vi t) := by rw [← hW]; simp [go_sem]
  have k1 : w0.cell? ⟨w.heap.size, 1, none⟩ = some (.bool f) := by rw [← hW]; simp [go_sem]
  have hx : Ext w w0 := by rw [← hW]; exact (by simp (maxDischargeDepth := 60))
  have HS : Hid (Sl w0 2 jobCells l a n cap) := by unfold Hid; exact Sl.below HF.out hx.below
  have HX := Lib.hid hx
  have z1 := cell_lt k0
  clear hW hx HF
  go_loopw [8] (fun i wr => ∃ k : Nat, k ≤ n ∧ i = .int .i64 k ∧ Hid (∀ j s, j < k → l[j]? = some s → decide (s = (⟨t, f⟩ : Ch.Job)) = false) ∧ Ext w0 wr) (fun i _ => n - (intOf i).toNat)
  case atStart => exact ⟨0, by omega, rfl, by intro j s hj; omega, (by simp (maxDischargeDepth := 60))⟩
  case round =>
    obtain ⟨k, hk, rfl, HT, o, m, rfl⟩ := hrel
    by_cases hlt : k < n
    · obtain ⟨b, q, s, rfl, hs, ds⟩ := HS.out.get hlt
      have ds := at2 ds
      have hq := cell_lt ds.1
      have HSS := Lib.hid hs
      clear hs
      by_cases he : s = ⟨t, f⟩
      · have HQ := Lib.hid he
        have hq1 : ∀ w, (Go.binOp .eql 62 (.agg #[vi t, .bool f]) (.agg #[vi s.ticket, .bool s.fetch])).run Tryd.prog w = .ok (.bool true) w := fun w => by rw [eqlJob_of]; simp [he]
        clear he
        go_wp2
        (refine wp_region_ext (by kernel_rfl) (by kernel_rfl) ?_; (repeat (first | go_big_quiet_step (fail) | quiet_step (fail))); refine wpQuiet_nil ?_; intro _ hw'; obtain ⟨oq, nq, hw''⟩ := hw'; subst hw'')
        go_wp2
        go_ret
        exact ⟨by rw [indexOf_some HSS.out (by simp [HQ.out]) HT.out]; rfl, HX.out.trans (by simp (maxDischargeDepth := 60))⟩
      · have HQ := Lib.hid he
        have hq1 : ∀ w, (Go.binOp .eql 62 (.agg #[vi t, .bool f]) (.agg #[vi s.ticket, .bool s.fetch])).run Tryd.prog w = .ok (.bool false) w := fun w => by rw [eqlJob_of]; congr 2; exact decide_eq_false fun h => he h.symm
        clear he
        go_wp2
        (refine wp_region_ext (by kernel_rfl) (by kernel_rfl) ?_; (repeat (first | go_big_quiet_step (fail) | quiet_step (fail))); refine wpQuiet_nil ?_; intro _ hw'; obtain ⟨oq, nq, hw''⟩ := hw'; subst hw'')
        go_wp2
        go_roundw
        case rel => exact ⟨k + 1, by omega, by go_num, before_step HSS.out (by simp [HQ.out]) HT.out, (by simp (maxDischargeDepth := 60))⟩
        case measure => simp [intOf]; omega
    · go_wp2
      go_ret
      exact ⟨by rw [indexOf_none (fun j s hj hs => HT.out j s (by have := HL.out; omega) hs)]; rfl, HX.out.trans (by simp (maxDischargeDepth := 60))⟩

set_option maxRecDepth 100000 in
set_option maxHeartbeats 1000000 in
theorem containsJob_any (a : Option Addr) (n cap : Nat) (l : List Ch.Job) (t : Int) (f : Bool) (w : World) (h : Sl w 2 jobCells l a n cap) :
    Calls Tryd.prog 21 #[.slice a n cap, .agg #[vi t, .bool f]] w fun e w' => e = .returned (.bool (decide ((⟨t, f⟩ : Ch.Job) ∈ l))) ∧ Ext w w' := by
  have HF := Lib.hid h
  clear h
  go_enter Tryd.func21, Tryd.ntmps21
  go_wp2_with (go_at_call 44; refine (indexJob_any _ _ _ l t f _ (Sl.below HF.out (Ext.below (by simp (maxDischargeDepth := 60))))).mono ?_; rintro e w1 ⟨rfl, o1, n1, rfl⟩)
  go_ret
  have e : decide ((⟨t, f⟩ : Ch.Job) ∈ l) = decide (0 ≤ Ch.indexOf (fun j => decide (j = (⟨t, f⟩ : Ch.Job))) l) := by
    rw [indexOf_nn, Bool.eq_iff_iff]
    simp [List.any_eq_true]
  exact ⟨by rw [e]; rfl, (by simp (maxDischargeDepth := 60))⟩

theorem eqlPlace_of (w : World) (a b c a' b' c' : Int) : (Go.binOp .eql 58 (.agg #[vi a, vi b, vi c]) (.agg #[vi a', vi b', vi c'])).run Tryd.prog w = .ok (.bool (decide ((⟨a, b, c⟩ : Ch.Place) = ⟨a', b', c'⟩))) w :=
  eqlStruct w (eqPlace w 9998 ⟨a, b, c⟩ ⟨a', b', c'⟩)

set_option maxRecDepth 100000 in
set_option maxHeartbeats 1000000 in
theorem indexPlace_any (a : Option Addr) (n cap : Nat) (l : List Ch.Place) (x y z : Int) (w : World) (h : Sl w 3 placeCells l a n cap) :
    Calls Tryd.prog 58 #[.slice a n cap, .agg #[vi x, vi y, vi z]] w fun e w' => e = .returned (vi (Ch.indexOf (fun j => decide (j = ⟨x, y, z⟩)) l)) ∧ Ext w w' := by
  have HF := Lib.hid h
  have hb := h.bound
  have HL := Lib.hid h.len
  clear h
  go_enter Tryd.func58, Tryd.ntmps58
  go_wp2
  generalize hW : World.alloc _ _ = w0
  have k0 : w0.cell? ⟨w.heap.size, 0, none⟩ = some (vi x) := by rw [← hW]; simp [go_sem]
  have k1 : w0.cell? ⟨w.heap.size, 1, none⟩ = some (vi y) := by rw [← hW]; simp [go_sem]
  have k2 : w0.cell? ⟨w.heap.size, 2, none⟩ = some (vi z) := by rw [← hW]; simp [go_sem]
  have hx : Ext w w0 := by rw [← hW]; exact (by simp (maxDischargeDepth := 60))
  have HS : Hid (Sl w0 3 placeCells l a n cap) := by unfold Hid; exact Sl.below HF.out hx.below
  have HX := Lib.hid hx
  have z1 := cell_lt k0
  clear hW hx HF
  go_loopw [8] (fun i wr => ∃ k : Nat, k ≤ n ∧ i = .int .i64 k ∧ Hid (∀ j s, j < k → l[j]? = some s → decide (s = (⟨x, y, z⟩ : Ch.Place)) = false) ∧ Ext w0 wr) (fun i _ => n - (intOf i).toNat)
  case atStart => exact ⟨0, by omega, rfl, by intro j s hj; omega, (by simp (maxDischargeDepth := 60))⟩
  case round =>
    obtain ⟨k, hk, rfl, HT, o, m, rfl⟩ := hrel
    by_cases hlt : k < n
    · obtain ⟨b, q, s, rfl, hs, ds⟩ := HS.out.get hlt
      have ds := at3 ds
      have hq := cell_lt ds.1
      have HSS := Lib.hid hs
      clear hs
      by_cases he : s = ⟨x, y, z⟩
      · have HQ := Lib.hid he
        have hq1 : ∀ w, (Go.binOp .eql 58 (.agg #[vi x, vi y, vi z]) (.agg #[vi s.level, vi s.side, vi s.depth])).run Tryd.prog w = .ok (.bool true) w := fun w => by rw [eqlPlace_of]; simp [he]
        clear he
        go_wp2
        (refine wp_region_ext (by kernel_rfl) (by kernel_rfl) ?_; (repeat (first | go_big_quiet_step (fail) | quiet_step (fail))); refine wpQuiet_nil ?_; intro _ hw'; obtain ⟨oq, nq, hw''⟩ := hw'; subst hw'')
        go_wp2
        go_ret
        exact ⟨by rw [indexOf_some HSS.out (by simp [HQ.out]) HT.out]; rfl, HX.out.trans (by simp (maxDischargeDepth := 60))⟩
      · have HQ := Lib.hid he
        have hq1 : ∀ w, (Go.binOp .eql 58 (.agg #[vi x, vi y, vi z]) (.agg #[vi s.level, vi s.side, vi s.depth])).run Tryd.prog w = .ok (.bool false) w := fun w => by rw [eqlPlace_of]; congr 2; exact decide_eq_false fun h => he h.symm
        clear he
        go_wp2
        (refine wp_region_ext (by kernel_rfl) (by kernel_rfl) ?_; (repeat (first | go_big_quiet_step (fail) | quiet_step (fail))); refine wpQuiet_nil ?_; intro _ hw'; obtain ⟨oq, nq, hw''⟩ := hw'; subst hw'')
        go_wp2
        go_roundw
        case rel => exact ⟨k + 1, by omega, by go_num, before_step HSS.out (by simp [HQ.out]) HT.out, (by simp (maxDischargeDepth := 60))⟩
        case measure => simp [intOf]; omega
    · go_wp2
      go_ret
      exact ⟨by rw [indexOf_none (fun j s hj hs => HT.out j s (by have := HL.out; omega) hs)]; rfl, HX.out.trans (by simp (maxDischargeDepth := 60))⟩

set_option maxRecDepth 100000 in
set_option maxHeartbeats 1000000 in
theorem containsPlace_any (a : Option Addr) (n cap : Nat) (l : List Ch.Place) (x y z : Int) (w : World) (h : Sl w 3 placeCells l a n cap) :
    Calls Tryd.prog 38 #[.slice a n cap, .agg #[vi x, vi y, vi z]] w fun e w' => e = .returned (.bool (decide ((⟨x, y, z⟩ : Ch.Place) ∈ l))) ∧ Ext w w' := by
  have HF := Lib.hid h
  clear h
  go_enter Tryd.func38, Tryd.ntmps38
  go_wp2_with (go_at_call 58; refine (indexPlace_any _ _ _ l x y z _ (Sl.below HF.out (Ext.below (by simp (maxDischargeDepth := 60))))).mono ?_; rintro e w1 ⟨rfl, o1, n1, rfl⟩)
  go_ret
  have e : decide ((⟨x, y, z⟩ : Ch.Place) ∈ l) = decide (0 ≤ Ch.indexOf (fun j => decide (j = (⟨x, y, z⟩ : Ch.Place))) l) := by
    rw [indexOf_nn, Bool.eq_iff_iff]
    simp [List.any_eq_true]
  exact ⟨by rw [e]; rfl, (by simp (maxDischargeDepth := 60))⟩
end Go.Proofs.YtplomeacjbkgnacDoor

namespace Go.Proofs.YtplomeacjbkgnacDoor
open Go.RowKit

abbrev bookA (last : Int) (a1 : Option Addr) (n1 c1 : Nat) (a2 : Option Addr) (n2 c2 : Nat) : Value := .agg #[vi last, .slice a1 n1 c1, .slice a2 n2 c2]

set_option maxRecDepth 100000 in
set_option maxHeartbeats 400000 in
theorem find1_any (s0 s1 s2 s3 s4 s5 s6 s7 t : Int) (B : Nat) (w : World) (hc : w.cell? ⟨B, 0, none⟩ = some (vi t)) :
    Calls Tryd.prog 43 #[.agg #[vi s0, vi s1, vi s2, vi s3, vi s4, vi s5, vi s6, vi s7], .pointer (some ⟨B, 0, none⟩)] w fun e w' => e = .returned (.bool (s0 == t)) ∧ Ext w w' := by
  have hB := cell_lt hc
  go_enter Tryd.func43, Tryd.ntmps43
  go_wp2
  go_ret
  exact ⟨rfl, (by simp (maxDischargeDepth := 60))⟩

theorem find_pred (t : Int) (B : Nat) (w : World) (hc : w.cell? ⟨B, 0, none⟩ = some (vi t)) : StayPred w 43 #[.pointer (some ⟨B, 0, none⟩)] (fun s => s.ticket == t) where
  enters := fun args w => by kernel_rfl
  answers := fun s W ⟨o, n, hW⟩ => by
    subst hW
    exact find1_any _ _ _ _ _ _ _ _ t B _ (by rw [plus_cell _ _ _ _ _ _ (cell_lt hc)]; exact hc)

set_option maxRecDepth 100000 in
set_option maxHeartbeats 1000000 in
theorem find_any (last t : Int) (a1 : Option Addr) (n1 c1 : Nat) (a2 : Option Addr) (n2 c2 : Nat) (l : List Ch.Stay) (w : World) (h : Sl w 8 stayCells l a1 n1 c1) :
    Calls Tryd.prog 20 #[bookA last a1 n1 c1 a2 n2 c2, vi t] w fun e w' => e = .returned (vi (Ch.indexOf (fun s => s.ticket == t) l)) ∧ Ext w w' := by
  have HF := Lib.hid h
  clear h
  go_enter Tryd.func20, Tryd.ntmps20
  go_wp2_with fail
  refine (indexStay_any _ _ _ l _ _ _ _ (Sl.below HF.out (Ext.below (by simp (maxDischargeDepth := 60)))) (find_pred t _ _ (by simp [go_sem]))).mono ?_
  rintro e w1 ⟨rfl, o1, n1, rfl⟩
  go_wp2_with fail
  go_ret
  exact ⟨rfl, (by simp (maxDischargeDepth := 60))⟩

end Go.Proofs.YtplomeacjbkgnacDoor
