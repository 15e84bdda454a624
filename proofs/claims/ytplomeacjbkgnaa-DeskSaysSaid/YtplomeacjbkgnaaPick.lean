/-
  The walks of package desk: who has a place, what is waited for.
-/
import Derived.Test.YtplomeacjbkgnaaBookCheck2
namespace Go.Proofs.Ytplomeacjbkgnaa
open Go.RowKit

/-- does somebody have this place? (the place's numbers one by one) -/
def hasB (l : List Ch.Stay) (a b c : Int) : Bool := l.any fun s => decide (s.home = ⟨a, b, c⟩)

theorem hasB_home (last : Int) (l : List Ch.Stay) (js : List Ch.Job) (p : Ch.Place) : Ch.hasHome ⟨last, l, js⟩ p = hasB l p.level p.side p.depth := rfl

/-- is a stay's car to be put away behind this place? -/
def waitB (js : List Ch.Job) (a b c : Int) (s : Ch.Stay) : Bool := !decide (s.home = ⟨a, b, c⟩) && decide (Ch.front s.home = ⟨a, b, c⟩) && decide ((⟨s.ticket, false⟩ : Ch.Job) ∈ js)

def waitsB (l : List Ch.Stay) (js : List Ch.Job) (a b c : Int) : Bool := l.any (waitB js a b c)

theorem waitsB_waits (last : Int) (l : List Ch.Stay) (js : List Ch.Job) (p : Ch.Place) : Ch.waits ⟨last, l, js⟩ p = waitsB l js p.level p.side p.depth := by
  unfold Ch.waits waitsB
  congr 1
  funext s
  unfold waitB
  simp only [List.contains_eq_mem]
  rfl

set_option maxRecDepth 100000 in
set_option maxHeartbeats 1000000 in
theorem pick11_any (x : Ch.Stay) (a b c : Int) (B : Nat) (w : World) (h0 : w.cell? ⟨B, 0, none⟩ = some (vi a)) (h1 : w.cell? ⟨B, 1, none⟩ = some (vi b)) (h2 : w.cell? ⟨B, 2, none⟩ = some (vi c)) :
    Calls Try.prog 103 #[stayA x, .pointer (some ⟨B, 0, none⟩)] w fun e w' => e = .returned (.bool (decide (x.home = ⟨a, b, c⟩))) ∧ Ext w w' := by
  have hB := cell_lt h0
  have hq1 : ∀ w, (Go.binOp .eql 23 (.agg #[vi x.home.level, vi x.home.side, vi x.home.depth]) (.agg #[vi a, vi b, vi c])).run Try.prog w = .ok (.bool (decide (x.home = ⟨a, b, c⟩))) w := fun w => by rw [eqlPlace_of]
  go_enter Try.func103, Try.ntmps103
  go_wp2
  go_ret
  exact ⟨rfl, (by simp (maxDischargeDepth := 60))⟩

theorem home_pred (a b c : Int) (B : Nat) (w : World) (h0 : w.cell? ⟨B, 0, none⟩ = some (vi a)) (h1 : w.cell? ⟨B, 1, none⟩ = some (vi b)) (h2 : w.cell? ⟨B, 2, none⟩ = some (vi c)) :
    StayPred w 103 #[.pointer (some ⟨B, 0, none⟩)] (fun s => decide (s.home = ⟨a, b, c⟩)) where
  enters := fun args w => by kernel_rfl
  answers := fun x W hx => pick11_any x a b c B _ (ext_cell hx h0) (ext_cell hx h1) (ext_cell hx h2)

set_option maxRecDepth 100000 in
set_option maxHeartbeats 1000000 in
theorem pick1_any (a b c : Int) (BB : Nat) (a1 : Option Addr) (m1 c1 : Nat) (l : List Ch.Stay) (w : World) (hc : w.cell? ⟨BB, 1, none⟩ = some (.slice a1 m1 c1)) (h : Sl w 8 stayCells l a1 m1 c1) :
    Calls Try.prog 101 #[.agg #[vi a, vi b, vi c], .pointer (some ⟨BB, 0, none⟩)] w fun e w' => e = .returned (.bool (hasB l a b c)) ∧ Ext w w' := by
  have HF := Lib.hid h
  have hB := cell_lt hc
  clear h
  go_enter Try.func101, Try.ntmps101
  go_wp2_with (go_at_call 102; refine (containsStay_any _ _ _ l _ _ _ _ (Sl.below HF.out (Ext.below (by simp (maxDischargeDepth := 60)))) (home_pred a b c _ _ (by simp [go_sem]) (by simp [go_sem]) (by simp [go_sem]))).mono ?_; rintro e w5 ⟨rfl, o5, n5, rfl⟩)
  go_ret
  exact ⟨rfl, (by simp (maxDischargeDepth := 60))⟩

set_option maxRecDepth 100000 in
set_option maxHeartbeats 2000000 in
theorem waits1_any (x : Ch.Stay) (a b c : Int) (B BB : Nat) (a2 : Option Addr) (m2 c2 : Nat) (js : List Ch.Job) (w : World) (h0 : w.cell? ⟨B, 0, none⟩ = some (vi a)) (h1 : w.cell? ⟨B, 1, none⟩ = some (vi b)) (h2 : w.cell? ⟨B, 2, none⟩ = some (vi c))
    (hc : w.cell? ⟨BB, 2, none⟩ = some (.slice a2 m2 c2)) (h : Sl w 2 jobCells js a2 m2 c2) :
    Calls Try.prog 137 #[stayA x, .pointer (some ⟨B, 0, none⟩), .pointer (some ⟨BB, 0, none⟩)] w fun e w' => e = .returned (.bool (waitB js a b c x)) ∧ Ext w w' := by
  obtain ⟨t, ⟨id, ⟨lo, hi, he⟩⟩, ⟨y0, y1, y2⟩⟩ := x
  have HF := Lib.hid h
  have hB := cell_lt h0
  have hBB := cell_lt hc
  clear h
  by_cases e1 : (⟨y0, y1, y2⟩ : Ch.Place) = ⟨a, b, c⟩
  · have HR : Hid (waitB js a b c ⟨t, ⟨id, ⟨lo, hi, he⟩⟩, ⟨y0, y1, y2⟩⟩ = false) := by unfold Hid waitB; rw [decide_eq_true e1]; rfl
    have hq1 : ∀ w, (Go.binOp .neq 23 (.agg #[vi y0, vi y1, vi y2]) (.agg #[vi a, vi b, vi c])).run Try.prog w = .ok (.bool false) w := fun w => by rw [neqStruct w (eqPlace w 9998 ⟨y0, y1, y2⟩ ⟨a, b, c⟩)]; simp [e1]
    clear e1
    go_enter Try.func137, Try.ntmps137
    go_upto_region 1 with fail
    (refine wp_region_ext (by kernel_rfl) (by kernel_rfl) ?_; (repeat (first | go_big_quiet_step (fail) | quiet_step (fail))); refine wpQuiet_nil ?_; intro _ hw'; obtain ⟨oq, nq, hw''⟩ := hw'; subst hw'')
    go_wp2
    go_ret
    exact ⟨by rw [HR.out]; rfl, (by simp (maxDischargeDepth := 60))⟩
  · have hq1 : ∀ w, (Go.binOp .neq 23 (.agg #[vi y0, vi y1, vi y2]) (.agg #[vi a, vi b, vi c])).run Try.prog w = .ok (.bool true) w := fun w => by rw [neqStruct w (eqPlace w 9998 ⟨y0, y1, y2⟩ ⟨a, b, c⟩)]; simp [e1]
    by_cases e2 : (⟨y0, y1, 0⟩ : Ch.Place) = ⟨a, b, c⟩
    · have hq2 : ∀ w, (Go.binOp .eql 23 (.agg #[vi y0, vi y1, vi 0]) (.agg #[vi a, vi b, vi c])).run Try.prog w = .ok (.bool true) w := fun w => by rw [eqlPlace_of w y0 y1 0 a b c, decide_eq_true e2]
      have HR : Hid (waitB js a b c ⟨t, ⟨id, ⟨lo, hi, he⟩⟩, ⟨y0, y1, y2⟩⟩ = decide ((⟨t, false⟩ : Ch.Job) ∈ js)) := by
        have hf : Ch.front ⟨y0, y1, y2⟩ = ⟨y0, y1, 0⟩ := rfl
        unfold Hid waitB; simp only [hf]; simp [e1, e2]
      clear e1 e2
      go_enter Try.func137, Try.ntmps137
      go_upto_region 1 with fail
      (refine wp_region_ext (by kernel_rfl) (by kernel_rfl) ?_; (repeat (first | go_big_quiet_step ((first | (intro _; go_at_call 40; exact ext_callG (front_f _ _ _ _) (by rintro w' ⟨o', n', rfl⟩; exact ⟨_, n', by first | (simp only [plus_plus]; rfl) | (simp only [plus_plus, Array.append_assoc]; rfl) | rfl⟩)) | (intro _; go_at_call 109; exact ext_callG (containsJob_any _ _ _ js _ _ _ (Sl.below HF.out (Ext.below (by simp (maxDischargeDepth := 60))))) (by rintro w' ⟨o', n', rfl⟩; exact ⟨_, n', by first | (simp only [plus_plus]; rfl) | (simp only [plus_plus, Array.append_assoc]; rfl) | rfl⟩)))) | quiet_step ((first | (intro _; go_at_call 40; exact ext_callG (front_f _ _ _ _) (by rintro w' ⟨o', n', rfl⟩; exact ⟨_, n', by first | (simp only [plus_plus]; rfl) | (simp only [plus_plus, Array.append_assoc]; rfl) | rfl⟩)) | (intro _; go_at_call 109; exact ext_callG (containsJob_any _ _ _ js _ _ _ (Sl.below HF.out (Ext.below (by simp (maxDischargeDepth := 60))))) (by rintro w' ⟨o', n', rfl⟩; exact ⟨_, n', by first | (simp only [plus_plus]; rfl) | (simp only [plus_plus, Array.append_assoc]; rfl) | rfl⟩)))))); refine wpQuiet_nil ?_; intro _ hw'; obtain ⟨oq, nq, hw''⟩ := hw'; subst hw'')
      go_wp2
      go_ret
      exact ⟨by rw [HR.out]; rfl, (by simp (maxDischargeDepth := 60))⟩
    · have hq2 : ∀ w, (Go.binOp .eql 23 (.agg #[vi y0, vi y1, vi 0]) (.agg #[vi a, vi b, vi c])).run Try.prog w = .ok (.bool false) w := fun w => by rw [eqlPlace_of w y0 y1 0 a b c, decide_eq_false e2]
      have HR : Hid (waitB js a b c ⟨t, ⟨id, ⟨lo, hi, he⟩⟩, ⟨y0, y1, y2⟩⟩ = false) := by
        have hf : Ch.front ⟨y0, y1, y2⟩ = ⟨y0, y1, 0⟩ := rfl
        unfold Hid waitB; simp only [hf]; simp [e1, e2]
      clear e1 e2
      go_enter Try.func137, Try.ntmps137
      go_upto_region 1 with fail
      (refine wp_region_ext (by kernel_rfl) (by kernel_rfl) ?_; (repeat (first | go_big_quiet_step ((first | (intro _; go_at_call 40; exact ext_callG (front_f _ _ _ _) (by rintro w' ⟨o', n', rfl⟩; exact ⟨_, n', by first | (simp only [plus_plus]; rfl) | (simp only [plus_plus, Array.append_assoc]; rfl) | rfl⟩)) | (intro _; go_at_call 109; exact ext_callG (containsJob_any _ _ _ js _ _ _ (Sl.below HF.out (Ext.below (by simp (maxDischargeDepth := 60))))) (by rintro w' ⟨o', n', rfl⟩; exact ⟨_, n', by first | (simp only [plus_plus]; rfl) | (simp only [plus_plus, Array.append_assoc]; rfl) | rfl⟩)))) | quiet_step ((first | (intro _; go_at_call 40; exact ext_callG (front_f _ _ _ _) (by rintro w' ⟨o', n', rfl⟩; exact ⟨_, n', by first | (simp only [plus_plus]; rfl) | (simp only [plus_plus, Array.append_assoc]; rfl) | rfl⟩)) | (intro _; go_at_call 109; exact ext_callG (containsJob_any _ _ _ js _ _ _ (Sl.below HF.out (Ext.below (by simp (maxDischargeDepth := 60))))) (by rintro w' ⟨o', n', rfl⟩; exact ⟨_, n', by first | (simp only [plus_plus]; rfl) | (simp only [plus_plus, Array.append_assoc]; rfl) | rfl⟩)))))); refine wpQuiet_nil ?_; intro _ hw'; obtain ⟨oq, nq, hw''⟩ := hw'; subst hw'')
      go_wp2
      go_ret
      exact ⟨by rw [HR.out]; rfl, (by simp (maxDischargeDepth := 60))⟩

theorem wait_pred (a b c : Int) (B BB : Nat) (a2 : Option Addr) (m2 c2 : Nat) (js : List Ch.Job) (w : World) (h0 : w.cell? ⟨B, 0, none⟩ = some (vi a)) (h1 : w.cell? ⟨B, 1, none⟩ = some (vi b)) (h2 : w.cell? ⟨B, 2, none⟩ = some (vi c))
    (hc : w.cell? ⟨BB, 2, none⟩ = some (.slice a2 m2 c2)) (h : Sl w 2 jobCells js a2 m2 c2) :
    StayPred w 137 #[.pointer (some ⟨B, 0, none⟩), .pointer (some ⟨BB, 0, none⟩)] (waitB js a b c) where
  enters := fun args w => by kernel_rfl
  answers := fun x W hx => waits1_any x a b c B BB a2 m2 c2 js _ (ext_cell hx h0) (ext_cell hx h1) (ext_cell hx h2) (ext_cell hx hc) (Sl.below h hx.below)

set_option maxRecDepth 100000 in
set_option maxHeartbeats 1000000 in
theorem waits_any (last a b c : Int) (a1 : Option Addr) (m1 c1 : Nat) (a2 : Option Addr) (m2 c2 : Nat) (l : List Ch.Stay) (js : List Ch.Job) (w : World) (h : Sl w 8 stayCells l a1 m1 c1) (h2 : Sl w 2 jobCells js a2 m2 c2) :
    Calls Try.prog 104 #[bookA last a1 m1 c1 a2 m2 c2, .agg #[vi a, vi b, vi c]] w fun e w' => e = .returned (.bool (waitsB l js a b c)) ∧ Ext w w' := by
  have HF := Lib.hid h
  have HJ := Lib.hid h2
  clear h h2
  go_enter Try.func104, Try.ntmps104
  go_wp2_with (go_at_call 102; refine (containsStay_any _ _ _ l _ _ _ _ (Sl.below HF.out (Ext.below (by simp (maxDischargeDepth := 60)))) (wait_pred a b c _ _ a2 m2 c2 js _ (by simp [go_sem]) (by simp [go_sem]) (by simp [go_sem]) (by simp [go_sem]) (Sl.below HJ.out (Ext.below (by simp (maxDischargeDepth := 60)))))).mono ?_; rintro e w5 ⟨rfl, o5, n5, rfl⟩)
  go_ret
  exact ⟨rfl, (by simp (maxDischargeDepth := 60))⟩
end Go.Proofs.Ytplomeacjbkgnaa
