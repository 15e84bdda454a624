/-
  The walk of Names.
-/
import Derived.Test.YtplomeacjbkgnaaDoorErr
import Derived.Test.YtplomeacjbkgnaaDoorKept
import Derived.Deep.AppendLies
namespace Go.Proofs.YtplomeacjbkgnaaDoor
open Go.RowKit

set_option maxRecDepth 100000 in
set_option maxHeartbeats 1000000 in
theorem itoa9 (w : World) : Calls Tryd.prog 20 #[vi 9] w fun e w' => e = .returned (.string ⟨#[57]⟩) ∧ Ext w w' := by
  go_enter Tryd.func20, Tryd.ntmps20
  go_wp2
  go_ret
  exact ⟨by rfl, by simp⟩

set_option maxRecDepth 100000 in
set_option maxHeartbeats 1000000 in
theorem errno9 (w : World) : Calls Tryd.prog 7 #[vi 9] w fun e w' => e = .returned (.string ⟨#[99, 111, 97, 99, 104, 104, 111, 117, 115, 101, 58, 32, 101, 114, 114, 111, 114, 32, 57]⟩) ∧ Ext w w' := by
  go_enter Tryd.func7, Tryd.ntmps7
  go_wp2_with (first | (go_at_call 20; (with_reducible refine (itoa9 _).mono ?_); rintro e w1 ⟨rfl, o1, n1, rfl⟩))
  go_ret
  exact ⟨by rfl, (by simp (maxDischargeDepth := 60))⟩

theorem same_at (n : Int) (w : World) (h : 1 ≤ n) : Calls Tryd.prog 5 #[.iface 23 (vi n), vi n] w fun e w' => e = .returned (.bool true) ∧ Ext w w' := by
  have := same_yes n w (by omega)
  rw [errV_pos (by omega)] at this
  exact this

set_option maxRecDepth 100000 in
set_option maxHeartbeats 1000000 in
theorem sameNumbers_yes (a1 a2 : Option Addr) (n c1 c2 : Nat) (l : List Int) (w : World) (h1 : Sl w 1 intCells l a1 n c1) (h2 : Sl w 1 intCells l a2 n c2) :
    Calls Tryd.prog 6 #[.slice a1 n c1, .slice a2 n c2] w fun e w' => e = .returned (.bool true) ∧ Ext w w' := by
  have b1 := h1.bound
  have b2 := h2.bound
  have F1 := Lib.hid h1
  have F2 := Lib.hid h2
  clear h1 h2
  go_enter Tryd.func6, Tryd.ntmps6
  go_wp2
  go_loopw [5] (fun i wr => ∃ k : Nat, k ≤ n ∧ i = .int .i64 k ∧ Ext w wr) (fun i _ => n - (intOf i).toNat)
  case atStart => exact ⟨0, by omega, rfl, by simp⟩
  case round =>
    obtain ⟨k, hk, rfl, o, m, rfl⟩ := hrel
    by_cases hlt : k < n
    · obtain ⟨p1, o1, u1, rfl, x1, g1⟩ := F1.out.get hlt
      obtain ⟨p2, o2, u2, rfl, x2, g2⟩ := F2.out.get hlt
      obtain rfl : u1 = u2 := Option.some.inj (x1.symm.trans x2)
      have d1 := at1 g1
      have d2 := at1 g2
      rw [Nat.mul_one] at d1 d2
      have q1 := cell_lt d1
      have q2 := cell_lt d2
      have hkj : (k : Int) < (n : Int) := by omega
      clear g1 g2 x1 x2
      go_upto_region 6 with fail
      (refine wp_region_ext (by kernel_rfl) (by kernel_rfl) ?_; (repeat (first | go_big_quiet_step (fail) | quiet_step (fail))); refine wpQuiet_nil ?_; intro _ hw'; obtain ⟨oq, nq, hw''⟩ := hw'; subst hw'')
      go_wp2
      go_roundw
      case rel => exact ⟨k + 1, by omega, by go_num, (by simp (maxDischargeDepth := 60))⟩
      case measure => simp [intOf]; omega
    · go_wp2
      go_ret
      exact ⟨rfl, by simp⟩

/-- two lists of numbers of the call's own -/
structure Two (w wk : World) (v1 v2 : Value) (n1 n2 : Nat) (l1 l2 : List Int) : Prop where
  ext : Ext w wk
  own1 : wk.ownsRow w.heap.size 3 1 v1 n1 (l1.flatMap intCells)
  own2 : wk.ownsRow w.heap.size 3 1 v2 n2 (l2.flatMap intCells)
  apart : ∀ k, v1.ownBlock = some k → v2.ownBlock ≠ some k

theorem Two.swap {w wk : World} {v1 v2 : Value} {n1 n2 : Nat} {l1 l2 : List Int} (h : Two w wk v1 v2 n1 n2 l1 l2) : Two w wk v2 v1 n2 n1 l2 l1 :=
  ⟨h.ext, h.own2, h.own1, fun k a b => h.apart k b a⟩

/-- behind an append to the first one -/
theorem Two.add {w wk A w3 : World} {v1 v2 : Value} {n1 n2 m gg cap : Nat} {l1 l2 l3 : List Int} (h : Two w wk v1 v2 n1 n2 l1 l2) (x : Ext wk A)
    (hown : w3.ownsRow w.heap.size 3 1 (.slice (some ⟨gg, 0, none⟩) (n1 + m) cap) (n1 + m) (l1.flatMap intCells ++ l3.flatMap intCells)) (hgrow : A.grownBy w3 v1.ownBlock) (hat : v1.ownBlock = some gg ∨ gg = A.heap.size) :
    Two w w3 (.slice (some ⟨gg, 0, none⟩) (n1 + m) cap) v2 (n1 + m) n2 (l1 ++ l3) l2 := by
  refine ⟨ext_grown (h.ext.trans x) hgrow (owns_block h.own1), by rw [List.flatMap_append]; exact hown, ?_, ?_⟩
  · obtain ⟨o, n, rfl⟩ := x
    refine (owns_plus h.own2 o n).kept hgrow ?_
    cases hv : v2.ownBlock with
    | none => exact Or.inl rfl
    | some k => exact Or.inr (fun e => h.apart k e.symm hv)
  · intro k hk hk2
    obtain rfl : gg = k := Option.some.inj hk
    rcases hat with e | e
    · exact h.apart gg e hk2
    · have := (h.own2.lt gg hk2).2
      have := x.below.size
      omega

theorem infoInt' : (Tryd.prog.info? 3).map (fun i => (i.zero, i.size, i.bytes)) = some (some (.int .i64 0), 1, 8) := by kernel_rfl

set_option maxRecDepth 100000 in
set_option maxHeartbeats 2000000 in
theorem names_walk (w : World) : Calls Tryd.prog 3 #[] w fun e w' => e = .returned (.bool true) ∧ Ext w w' := by
  obtain ⟨i0, hi, hz0, hz1, hz2⟩ := info_parts infoInt'
  go_enter Tryd.func3, Tryd.ntmps3
  go_upto_region 3 with fail
  generalize hW : World.alloc _ _ = w0
  have T0 : Hid (Two w w0 (.slice (some ⟨w.heap.size, 0, none⟩) 13 13) (.slice (some ⟨w.heap.size + 1, 0, none⟩) 13 13) 13 13 [4, 3, 2, 99, 999, 999999, 8, 9, 5, 64, 40, 80, 60] [4, 3, 2, 99, 999, 999999, 8, 9, 5, 64, 40, 80, 60]) := by
    refine ⟨by rw [← hW]; exact (by simp (maxDischargeDepth := 60)), ?_, ?_, ?_⟩
    · rw [← hW]; exact owns_alloc (owns_new w 3 1 13 _ rfl (by decide)) _
    · rw [← hW, show w.heap.size + 1 = (w.alloc (.cells #[vi 4, vi 3, vi 2, vi 99, vi 999, vi 999999, vi 8, vi 9, vi 5, vi 64, vi 40, vi 80, vi 60] 3)).heap.size by simp]
      refine owns_base (owns_new _ 3 1 13 _ rfl (by decide)) ?_
      simp
    · intro k hk hk2
      have e1 := Option.some.inj hk
      have e2 := Option.some.inj hk2
      dsimp only at e1 e2
      omega
  clear hW
  go_upto_region 4 with (at_builtin; refine wpList_append_lies _ rfl _ _ _ rfl w.heap.size 3 i0 _ 1 8 Tryd.underlying22 hi hz0 hz1 hz2 rfl (by decide) _ 13 _ rfl (owns_alloc T0.out.own1 _) _ 11 11 [vi 45, vi 117, vi 100, vi 108, vi 114, vi 103, vi 112, vi 111, vi 99, vi 110, vi 120] rfl rfl (World.news_of_block (alloc_at _ _ _ (by simp))) (by simp [Value.oneCell']) (by decide) (by unfold maxLen; omega) (by omega) (by have := T0.out.ext.below.size; first | omega | (simp; omega)) _ rfl ?_; intro g1 d1 w3 hown hgrow hat hlt; have T1 := Lib.hid (T0.out.add (l3 := [45, 117, 100, 108, 114, 103, 112, 111, 99, 110, 120]) (by simp (maxDischargeDepth := 60)) hown hgrow hat); clear hown hgrow hat hlt)
  go_upto_region 5 with (at_builtin; refine wpList_append_lies _ rfl _ _ _ rfl w.heap.size 3 i0 _ 1 8 Tryd.underlying22 hi hz0 hz1 hz2 rfl (by decide) _ 13 _ rfl (owns_alloc T1.out.own2 _) _ 11 11 [vi 45, vi 117, vi 100, vi 108, vi 114, vi 103, vi 112, vi 111, vi 99, vi 110, vi 120] rfl rfl (World.news_of_block (alloc_at _ _ _ (by simp))) (by simp [Value.oneCell']) (by decide) (by unfold maxLen; omega) (by omega) (by have := T1.out.ext.below.size; first | omega | (simp; omega)) _ rfl ?_; intro g2 d2 w4 hown hgrow hat hlt; have T2 := Lib.hid (T1.out.swap.add (l3 := [45, 117, 100, 108, 114, 103, 112, 111, 99, 110, 120]) (by simp (maxDischargeDepth := 60)) hown hgrow hat); clear hown hgrow hat hlt)
  go_upto_region 6 with (at_builtin; refine wpList_append_lies _ rfl _ _ _ rfl w.heap.size 3 i0 _ 1 8 Tryd.underlying22 hi hz0 hz1 hz2 rfl (by decide) _ (13 + 11) _ rfl (owns_alloc T2.out.own2 _) _ 8 8 [vi 1, vi 2, vi 3, vi 4, vi 5, vi 6, vi 7, vi 8] rfl rfl (World.news_of_block (alloc_at _ _ _ (by simp))) (by simp [Value.oneCell']) (by decide) (by unfold maxLen; omega) (by omega) (by have := T2.out.ext.below.size; first | omega | (simp; omega)) _ rfl ?_; intro g3 d3 w5 hown hgrow hat hlt; have T3 := Lib.hid (T2.out.swap.add (l3 := [1, 2, 3, 4, 5, 6, 7, 8]) (by simp (maxDischargeDepth := 60)) hown hgrow hat); clear hown hgrow hat hlt)
  go_upto_region 7 with (at_builtin; refine wpList_append_lies _ rfl _ _ _ rfl w.heap.size 3 i0 _ 1 8 Tryd.underlying22 hi hz0 hz1 hz2 rfl (by decide) _ (13 + 11) _ rfl (owns_alloc T3.out.own2 _) _ 8 8 [vi 1, vi 2, vi 3, vi 4, vi 5, vi 6, vi 7, vi 8] rfl rfl (World.news_of_block (alloc_at _ _ _ (by simp))) (by simp [Value.oneCell']) (by decide) (by unfold maxLen; omega) (by omega) (by have := T3.out.ext.below.size; first | omega | (simp; omega)) _ rfl ?_; intro g4 d4 w6 hown hgrow hat hlt; have T4 := Lib.hid (T3.out.swap.add (l3 := [1, 2, 3, 4, 5, 6, 7, 8]) (by simp (maxDischargeDepth := 60)) hown hgrow hat); clear hown hgrow hat hlt)
  clear T0 T1 T2 T3
  go_upto_region 8 with fail
  generalize hW : World.alloc _ _ = w7
  have hx7 : Ext w6 w7 := by rw [← hW]; exact (by simp (maxDischargeDepth := 60))
  have ce : ∀ k : Nat, k < 9 → w7.cell? ⟨w6.heap.size, k, none⟩ = some (.iface 23 (vi ((k : Int) + 1))) := by
    intro k hk
    have : k = 0 ∨ k = 1 ∨ k = 2 ∨ k = 3 ∨ k = 4 ∨ k = 5 ∨ k = 6 ∨ k = 7 ∨ k = 8 := by omega
    rcases this with rfl | rfl | rfl | rfl | rfl | rfl | rfl | rfl | rfl <;> (rw [← hW]; simp [go_sem])
  have HX7 := Lib.hid hx7
  have CE := Lib.hid ce
  have zc := cell_lt (ce 0 (by decide))
  generalize w6.heap.size = E at *
  clear hW hx7 ce
  go_wp2
  go_loopw [4] (fun i wr => ∃ k : Nat, k ≤ 9 ∧ i = .int .i64 k ∧ Ext w7 wr) (fun i _ => 9 - (intOf i).toNat)
  case atStart => exact ⟨0, by omega, rfl, by simp⟩
  case round =>
    obtain ⟨k, hk, rfl, o, m, rfl⟩ := hrel
    by_cases hlt : k < 9
    · have c := CE.out k hlt
      have hkj : (k : Int) < 9 := by omega
      have hk1 : (1 : Int) ≤ (k : Int) + 1 := by omega
      have hw1 : IntKind.i64.wrap ((k : Int) + 1) = (k : Int) + 1 := IntWalk.i64_in _ (by omega)
      go_wp2_with (first | (go_at_call 5; (with_reducible refine (same_at ((k : Int) + 1) _ hk1).mono ?_); rintro e w1 ⟨rfl, o1, n1, rfl⟩))
      go_roundw
      case rel => exact ⟨k + 1, by omega, by go_num, (by simp (maxDischargeDepth := 60))⟩
      case measure => simp [intOf]; omega
    · have hk9 : k = 9 := by omega
      subst hk9
      obtain ⟨_, _, e1, s1⟩ := Sl.of_owns (c := 1) (enc := intCells) T4.out.own1 (by decide) (fun _ => rfl)
      cases e1
      obtain ⟨_, _, e1, s2⟩ := Sl.of_owns (c := 1) (enc := intCells) T4.out.own2 (by decide) (fun _ => rfl)
      cases e1
      have S1 := Lib.hid (Sl.below s1 HX7.out.below)
      have S2 := Lib.hid (Sl.below s2 HX7.out.below)
      clear s1 s2
      go_wp2_with (first | (go_at_call 6; (with_reducible refine (sameNumbers_yes _ _ _ _ _ _ _ (Sl.below S2.out (Ext.below (by simp (maxDischargeDepth := 60)))) (Sl.below S1.out (Ext.below (by simp (maxDischargeDepth := 60))))).mono ?_); rintro e w1 ⟨rfl, o1, n1, rfl⟩) | (go_at_call 7; (with_reducible refine (errno9 _).mono ?_); rintro e w1 ⟨rfl, o1, n1, rfl⟩))
      go_ret
      exact ⟨by rfl, (T4.out.ext.trans HX7.out).trans (by simp (maxDischargeDepth := 60))⟩
end Go.Proofs.YtplomeacjbkgnaaDoor
