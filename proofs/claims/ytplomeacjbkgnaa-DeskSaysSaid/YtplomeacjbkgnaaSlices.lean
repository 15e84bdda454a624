/-
  The walks of the library's slices functions at this program's types: IndexFunc, ContainsFunc, with a predicate whose contract is at hand.
-/
import Derived.Test.YtplomeacjbkgnaaTower
namespace Go.Proofs.Ytplomeacjbkgnaa
open Go.RowKit

theorem ext_cell {w w' : World} (h : Ext w w') {b o : Nat} {v : Value} (hc : w.cell? ⟨b, o, none⟩ = some v) : w'.cell? ⟨b, o, none⟩ = some v := by
  obtain ⟨o', n, rfl⟩ := h
  rw [plus_cell _ _ _ _ _ _ (cell_lt hc)]; exact hc

/-- a function value that answers a predicate of stays, from this world on -/
structure StayPred (w : World) (K : Nat) (caps : Array Value) (pred : Ch.Stay → Bool) : Prop where
  enters : ∀ args w, (callFunc K args).run Try.prog w = .ok (.enter K args) w
  answers : ∀ (s : Ch.Stay) (W : World), Ext w W → Calls Try.prog K (#[stayA s] ++ caps) W fun e w' => e = .returned (.bool (pred s)) ∧ Ext W w'

theorem indexOf_some {α : Type} {p : α → Bool} {l : List α} {k : Nat} {s : α} (hs : l[k]? = some s) (hp : p s = true) (hb : ∀ j s, j < k → l[j]? = some s → p s = false) : Ch.indexOf p l = k := by
  unfold Ch.indexOf
  have hk : k < l.length := by
    by_cases h : k < l.length
    · exact h
    · rw [List.getElem?_eq_none (by omega)] at hs; cases hs
  have hs' : l[k] = s := by rw [List.getElem?_eq_getElem hk] at hs; exact Option.some.inj hs
  have : l.findIdx? p = some k := by
    rw [List.findIdx?_eq_some_iff_getElem]
    refine ⟨hk, by rw [hs']; exact hp, fun j hj => ?_⟩
    have := hb j (l[j]'(by omega)) hj (by simp)
    simp [this]
  rw [this]

theorem before_step {α : Type} {p : α → Bool} {l : List α} {k : Nat} {s : α} (hs : l[k]? = some s) (hp : p s = false) (hb : ∀ j s, j < k → l[j]? = some s → p s = false) : ∀ j s, j < k + 1 → l[j]? = some s → p s = false := by
  intro j s' hj hs'
  by_cases hjk : j < k
  · exact hb j s' hjk hs'
  · have e : j = k := by omega
    rw [e, hs] at hs'
    cases hs'
    exact hp

theorem indexOf_none {α : Type} {p : α → Bool} {l : List α} (hb : ∀ j s, j < l.length → l[j]? = some s → p s = false) : Ch.indexOf p l = -1 := by
  unfold Ch.indexOf
  have : l.findIdx? p = none := by
    rw [List.findIdx?_eq_none_iff]
    intro x hx
    obtain ⟨j, hj, rfl⟩ := List.getElem_of_mem hx
    exact hb j _ hj (by simp)
  rw [this]

set_option maxRecDepth 100000 in
set_option maxHeartbeats 1000000 in
theorem indexStay_any (a : Option Addr) (n cap : Nat) (l : List Ch.Stay) (K : Nat) (caps : Array Value) (pred : Ch.Stay → Bool) (w : World) (h : Sl w 8 stayCells l a n cap) (hp : StayPred w K caps pred) :
    Calls Try.prog 136 #[.slice a n cap, .func (.func K) #[] caps] w fun e w' => e = .returned (vi (Ch.indexOf pred l)) ∧ Ext w w' := by
  have HF := Lib.hid h
  have HP := Lib.hid hp
  have hb := h.bound
  have hl := h.len
  have HL := Lib.hid hl
  clear h hp hl
  go_enter Try.func136, Try.ntmps136
  go_wp2
  go_loopw [8] (fun i wr => ∃ k : Nat, k ≤ n ∧ i = .int .i64 k ∧ Hid (∀ j s, j < k → l[j]? = some s → pred s = false) ∧ Ext w wr) (fun i _ => n - (intOf i).toNat)
  case atStart => exact ⟨0, by omega, rfl, by intro j s hj; omega, (by simp (maxDischargeDepth := 60))⟩
  case round =>
    obtain ⟨k, hk, rfl, HT, o, m, rfl⟩ := hrel
    by_cases hlt : k < n
    · obtain ⟨b, q, s, rfl, hs, ds⟩ := HF.out.get hlt
      have ds := at8 ds
      have hq := cell_lt ds.1
      have HS := Lib.hid hs
      clear hs
      have HR := HP.out.enters
      cases hps : pred s
      · have HQ := Lib.hid hps
        go_wp2_with ((with_reducible refine (HP.out.answers s _ (by simp (maxDischargeDepth := 60))).mono ?_); rintro e w1 ⟨rfl, o1, n1, rfl⟩)
        go_roundw
        case rel => exact ⟨k + 1, by omega, by go_num, before_step HS.out HQ.out HT.out, (by simp (maxDischargeDepth := 60))⟩
        case measure => simp [intOf]; omega
      · have HQ := Lib.hid hps
        go_wp2_with ((with_reducible refine (HP.out.answers s _ (by simp (maxDischargeDepth := 60))).mono ?_); rintro e w1 ⟨rfl, o1, n1, rfl⟩)
        go_ret
        exact ⟨by rw [indexOf_some HS.out HQ.out HT.out]; rfl, (by simp (maxDischargeDepth := 60))⟩
    · go_wp2
      go_ret
      exact ⟨by rw [indexOf_none (fun j s hj hs => HT.out j s (by have := HL.out; omega) hs)]; rfl, (by simp (maxDischargeDepth := 60))⟩

theorem indexOf_nn {α : Type} (p : α → Bool) (l : List α) : decide (0 ≤ Ch.indexOf p l) = l.any p := by
  unfold Ch.indexOf
  cases h : l.findIdx? p with
  | none =>
    rw [List.findIdx?_eq_none_iff] at h
    have : l.any p = false := by
      rw [List.any_eq_false]; intro x hx; simp [h x hx]
    rw [this]; rfl
  | some i =>
    rw [List.findIdx?_eq_some_iff_getElem] at h
    obtain ⟨hi, hp, _⟩ := h
    have : l.any p = true := List.any_eq_true.2 ⟨_, List.getElem_mem hi, hp⟩
    rw [this]
    simp

set_option maxRecDepth 100000 in
set_option maxHeartbeats 1000000 in
theorem containsStay_any (a : Option Addr) (n cap : Nat) (l : List Ch.Stay) (K : Nat) (caps : Array Value) (pred : Ch.Stay → Bool) (w : World) (h : Sl w 8 stayCells l a n cap) (hp : StayPred w K caps pred) :
    Calls Try.prog 102 #[.slice a n cap, .func (.func K) #[] caps] w fun e w' => e = .returned (.bool (l.any pred)) ∧ Ext w w' := by
  have HF := Lib.hid h
  have HP := Lib.hid hp
  clear h hp
  go_enter Try.func102, Try.ntmps102
  go_wp2_with (go_at_call 136; refine (indexStay_any _ _ _ l _ _ pred _ HF.out HP.out).mono ?_; rintro e w1 ⟨rfl, o1, n1, rfl⟩)
  go_ret
  exact ⟨by rw [← indexOf_nn]; rfl, (by simp (maxDischargeDepth := 60))⟩

theorem eqlJob_of (w : World) (a a' : Int) (b b' : Bool) : (Go.binOp .eql 94 (.agg #[vi a, .bool b]) (.agg #[vi a', .bool b'])).run Try.prog w = .ok (.bool (decide ((⟨a, b⟩ : Ch.Job) = ⟨a', b'⟩))) w :=
  eqlStruct w (eqJob w 9998 ⟨a, b⟩ ⟨a', b'⟩)

set_option maxRecDepth 100000 in
set_option maxHeartbeats 1000000 in
theorem indexJob_any (a : Option Addr) (n cap : Nat) (l : List Ch.Job) (t : Int) (f : Bool) (w : World) (h : Sl w 2 jobCells l a n cap) :
    Calls Try.prog 142 #[.slice a n cap, .agg #[vi t, .bool f]] w fun e w' => e = .returned (vi (Ch.indexOf (fun j => decide (j = ⟨t, f⟩)) l)) ∧ Ext w w' := by
  have HF := Lib.hid h
  have hb := h.bound
  have HL := Lib.hid h.len
  clear h
  go_enter Try.func142, Try.ntmps142
  go_wp2
  generalize hW : World.alloc _ _ = w0
  have k0 : w0.cell? ⟨w.heap.size, 0, none⟩ = some (vi t) := by rw [← hW]; simp [go_sem]
  have k1 : w0.cell? ⟨w.heap.size, 1, none⟩ = some (.bool f) := by rw [← hW]; simp [go_sem]
  have hx : Ext w w0 := by rw [← hW]; exact (by simp (maxDischargeDepth := 60))
  have HS : Hid (Sl w0 2 jobCells l a n cap) := by unfold Hid; exact Sl.below HF.out hx.below
  have HX := Lib.hid hx
  have z1 := cell_lt k0
  clear hW hx HF
  go_loopw [8] (fun i wr => ∃ k : Nat, k ≤ n ∧ i = .int .i64 k ∧ Hid (∀ j s, j < k → l[j]? = some s → decide (s = (⟨t, f⟩ : Ch.Job)) = false) ∧ Ext w0 wr) (fun i _ => n - (intOf i).toNat)
  case atStart => exact ⟨0, by omega, rfl, by intro j s hj; omega, (by simp (maxDischargeDepth := 60))⟩
  case round =>
    obtain ⟨k, hk, rfl, HT, o, m, rfl⟩ := hrel
    by_cases hlt : k < n
    · obtain ⟨b, q, s, rfl, hs, ds⟩ := HS.out.get hlt
      have ds := at2 ds
      have hq := cell_lt ds.1
      have HSS := Lib.hid hs
      clear hs
      by_cases he : s = ⟨t, f⟩
      · have HQ := Lib.hid he
        have hq1 : ∀ w, (Go.binOp .eql 94 (.agg #[vi t, .bool f]) (.agg #[vi s.ticket, .bool s.fetch])).run Try.prog w = .ok (.bool true) w := fun w => by rw [eqlJob_of]; simp [he]
        clear he
        go_wp2
        (refine wp_region_ext (by kernel_rfl) (by kernel_rfl) ?_; (repeat (first | go_big_quiet_step (fail) | quiet_step (fail))); refine wpQuiet_nil ?_; intro _ hw'; obtain ⟨oq, nq, hw''⟩ := hw'; subst hw'')
        go_wp2
        go_ret
        exact ⟨by rw [indexOf_some HSS.out (by simp [HQ.out]) HT.out]; rfl, HX.out.trans (by simp (maxDischargeDepth := 60))⟩
      · have HQ := Lib.hid he
        have hq1 : ∀ w, (Go.binOp .eql 94 (.agg #[vi t, .bool f]) (.agg #[vi s.ticket, .bool s.fetch])).run Try.prog w = .ok (.bool false) w := fun w => by rw [eqlJob_of]; congr 2; exact decide_eq_false fun h => he h.symm
        clear he
        go_wp2
        (refine wp_region_ext (by kernel_rfl) (by kernel_rfl) ?_; (repeat (first | go_big_quiet_step (fail) | quiet_step (fail))); refine wpQuiet_nil ?_; intro _ hw'; obtain ⟨oq, nq, hw''⟩ := hw'; subst hw'')
        go_wp2
        go_roundw
        case rel => exact ⟨k + 1, by omega, by go_num, before_step HSS.out (by simp [HQ.out]) HT.out, (by simp (maxDischargeDepth := 60))⟩
        case measure => simp [intOf]; omega
    · go_wp2
      go_ret
      exact ⟨by rw [indexOf_none (fun j s hj hs => HT.out j s (by have := HL.out; omega) hs)]; rfl, HX.out.trans (by simp (maxDischargeDepth := 60))⟩

set_option maxRecDepth 100000 in
set_option maxHeartbeats 1000000 in
theorem containsJob_any (a : Option Addr) (n cap : Nat) (l : List Ch.Job) (t : Int) (f : Bool) (w : World) (h : Sl w 2 jobCells l a n cap) :
    Calls Try.prog 109 #[.slice a n cap, .agg #[vi t, .bool f]] w fun e w' => e = .returned (.bool (decide ((⟨t, f⟩ : Ch.Job) ∈ l))) ∧ Ext w w' := by
  have HF := Lib.hid h
  clear h
  go_enter Try.func109, Try.ntmps109
  go_wp2_with (go_at_call 142; refine (indexJob_any _ _ _ l t f _ (Sl.below HF.out (Ext.below (by simp (maxDischargeDepth := 60))))).mono ?_; rintro e w1 ⟨rfl, o1, n1, rfl⟩)
  go_ret
  have e : decide ((⟨t, f⟩ : Ch.Job) ∈ l) = decide (0 ≤ Ch.indexOf (fun j => decide (j = (⟨t, f⟩ : Ch.Job))) l) := by
    rw [indexOf_nn, Bool.eq_iff_iff]
    simp [List.any_eq_true]
  exact ⟨by rw [e]; rfl, (by simp (maxDischargeDepth := 60))⟩

theorem eqlPlace_of (w : World) (a b c a' b' c' : Int) : (Go.binOp .eql 23 (.agg #[vi a, vi b, vi c]) (.agg #[vi a', vi b', vi c'])).run Try.prog w = .ok (.bool (decide ((⟨a, b, c⟩ : Ch.Place) = ⟨a', b', c'⟩))) w :=
  eqlStruct w (eqPlace w 9998 ⟨a, b, c⟩ ⟨a', b', c'⟩)

end Go.Proofs.Ytplomeacjbkgnaa
