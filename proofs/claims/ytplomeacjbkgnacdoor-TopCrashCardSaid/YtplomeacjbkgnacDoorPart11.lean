/-
  Walks of the program's functions, and what they need: Ledger2, Far.
-/
import Derived.Test.YtplomeacjbkgnacDoorPart07
import Derived.Test.YtplomeacjbkgnacDoorPart09
import Derived.Test.YtplomeacjbkgnacDoorPart10
import Derived.RangeFuncOwn

namespace Go.Proofs.YtplomeacjbkgnacDoor
open Go.RowKit

/-- steps on a disk, one behind another -/
theorem step_next {F F1 F2 : Nat → Prop} {w w1 w2 : World} (h1 : ∀ k, F1 k → F k ∨ w.heap.size ≤ k) (k1 : Kept F w w1) (h2 : ∀ k, F2 k → F1 k ∨ w1.heap.size ≤ k) (k2 : Kept F1 w1 w2) :
    (∀ k, F2 k → F k ∨ w.heap.size ≤ k) ∧ Kept F w w2 := by
  have hs := k1.size
  refine ⟨fun k hk => ?_, k2.os.trans k1.os, k2.tape.trans k1.tape, k2.output.trans k1.output, Nat.le_trans hs k2.size, fun k hk hn => ?_⟩
  · rcases h2 k hk with h | h
    · exact h1 k h
    · exact Or.inr (by omega)
  · rw [k2.block k (by omega) (fun h => ?_), k1.block k hk hn]
    rcases h1 k h with h | h
    · exact hn h
    · omega

/-- what is left of a disk, behind steps on it -/
def DNow (F : Nat → Prop) (db n : Nat) (w : World) (d : Ch.Disk) (w' : World) : Prop :=
  ∃ F', DiskAt w' F' db n d ∧ (∀ k, F' k → F k ∨ w.heap.size ≤ k) ∧ Kept F w w'

theorem DNow.ext {F : Nat → Prop} {db n : Nat} {w w1 w2 : World} {d : Ch.Disk} (h : DNow F db n w d w1) (x : Ext w1 w2) : DNow F db n w d w2 := by
  obtain ⟨F', h1, h2, h3⟩ := h
  exact ⟨F', h1.ext x, h2, h3.ext x⟩

theorem DNow.start {F : Nat → Prop} {db n : Nat} {w : World} {d : Ch.Disk} (h : DiskAt w F db n d) : DNow F db n w d w := ⟨F, h, fun _ hk => Or.inl hk, Kept.refl F w⟩

/-- a call that is a step on a disk -/
theorem DNow.call {F : Nat → Prop} {db n : Nat} {w w1 : World} {d d' : Ch.Disk} {r : Value} {f : FuncId} {args : Array Value} (h : DNow F db n w d w1) (hs : ∀ F', DiskAt w1 F' db n d → Calls Tryd.prog f args w1 (DDid F' db n w1 d' r)) :
    Calls Tryd.prog f args w1 fun e w2 => e = .returned r ∧ DNow F db n w d' w2 := by
  obtain ⟨F1, h1, h2, h3⟩ := h
  refine (hs F1 h1).mono ?_
  rintro e w2 ⟨he, ⟨F2, g1, g2⟩, g3⟩
  obtain ⟨k1, k2⟩ := step_next h2 h3 g2 g3
  exact ⟨he, F2, g1, k1, k2⟩

theorem DNow.write {F : Nat → Prop} {db n : Nat} {w w1 : World} {d : Ch.Disk} (k : Int) (s : ByteArray) (v : Value) (h : DNow F db n w d w1) (hs : s.size ≤ 1000) (hl : d.wait.length ≤ 1000000) (hv : Hid (errV (d.write k s).2 = v)) :
    Calls Tryd.prog 27 #[.pointer (some ⟨db, 0, none⟩), vi k, .string s] w1 fun e w2 => e = .returned v ∧ DNow F db n w (d.write k s).1 w2 := by
  rw [← hv.out]
  exact h.call fun F' h' => write_any h' k s (Nat.le_trans hs (by decide)) hl

theorem DNow.flush {F : Nat → Prop} {db n : Nat} {w w1 : World} {d : Ch.Disk} (v : Value) (h : DNow F db n w d w1) (hv : Hid (errV d.flush.2 = v)) :
    Calls Tryd.prog 28 #[.pointer (some ⟨db, 0, none⟩)] w1 fun e w2 => e = .returned v ∧ DNow F db n w d.flush.1 w2 := by
  rw [← hv.out]
  exact h.call fun F' h' => flush_any h'

theorem wait_write (d : Ch.Disk) (k : Int) (s : ByteArray) : (d.write k s).1.wait.length ≤ d.wait.length + 1 := by
  unfold Ch.Disk.write
  split
  · simp
  · split
    · simp [Ch.stepped_wait]
    · simp

theorem wait_flush (d : Ch.Disk) : d.flush.1.wait.length ≤ d.wait.length := by
  unfold Ch.Disk.flush
  split
  · simp [Ch.stepped_wait]
  · simp

/-- the text of the empty book -/
def text0 : ByteArray := ⟨(Ch.bookText ⟨0, [], []⟩).toArray⟩

theorem text_none (w : World) (ht : Tab w) : Calls Tryd.prog 5 #[bookA 0 none 0 0 none 0 0] w fun e w' => e = .returned (.string text0) ∧ Ext w w' := by
  have e : textS ⟨0, [], []⟩ = text0 := by apply ba_ext; rw [textS_list]; rfl
  rw [← e]
  exact text_any 0 none 0 0 none 0 0 [] [] w (Sl.nil _ _ _) (Sl.nil _ _ _) ht (by intro k hk; simp [Ch.bookNums] at hk; omega)

theorem text0_size : text0.size = 5 := by unfold text0; rw [Ch.text_empty]; rfl

/-- the value of an error that is one -/
theorem err_at {f : Int} (h : ¬ f = 0) : errV f = .iface 63 (vi f) := by unfold errV; rw [if_neg h]

theorem err_no {f : Int} (h : f = 0) : errV f = .nilIface := by subst h; rfl

theorem text0E : (⟨(Ch.bookText ⟨0, [], []⟩).toArray⟩ : ByteArray) = text0 := rfl

theorem head_25 (w : World) : Calls Tryd.prog 29 #[vi 2, vi 5] w fun x w' => x = .returned (.string (headBS 2 5)) ∧ Ext w w' := head_any 2 5 w (by decide) (by decide)

theorem head0 : (⟨(Ch.head 2 (Ch.bookText ⟨0, [], []⟩).length).toArray⟩ : ByteArray) = headBS 2 5 := by rw [Ch.text_empty]; rfl

set_option maxRecDepth 100000 in
set_option maxHeartbeats 1000000 in
theorem format_any {F : Nat → Prop} {db n : Nat} {d : Ch.Disk} {w : World} (h : DiskAt w F db n d) (hn : 22 ≤ n) (hl : d.wait.length ≤ 1000) (ht : Tab w) :
    Calls Tryd.prog 25 #[.pointer (some ⟨db, 0, none⟩)] w fun e w' => e = .returned (errV d.format.2) ∧ DNow F db n w d.format.1 w' := by
  obtain ⟨kb, kc, nb, nc, wv, hI⟩ := h
  have HI := Lib.hid hI
  have HD : Hid (DNow F db n w d w) := DNow.start ⟨kb, kc, nb, nc, wv, hI⟩
  have HT := Lib.hid ht
  have hz := text0_size
  have i22 : ¬ ((n : Int) < 22) := by omega
  have tz : (((text0.size : Nat) : Int)) = 5 := by omega
  clear hI ht hz
  have L1 := wait_write d 1 ⟨#[]⟩
  obtain ⟨d1, f1, E1⟩ : ∃ x f, Hid (d.write 1 ⟨#[]⟩ = (x, f)) := ⟨_, _, rfl⟩
  rw [E1.out] at L1
  dsimp only at L1
  by_cases z1 : f1 = 0
  · have V1 : Hid (errV (d.write 1 ⟨#[]⟩).2 = .nilIface) := by unfold Hid; rw [E1.out]; exact err_no z1
    have L2 := wait_write d1 2 text0
    obtain ⟨d2, f2, E2⟩ : ∃ x f, Hid (d1.write 2 text0 = (x, f)) := ⟨_, _, rfl⟩
    rw [E2.out] at L2
    dsimp only at L2
    by_cases z2 : f2 = 0
    · have V2 : Hid (errV (d1.write 2 text0).2 = .nilIface) := by unfold Hid; rw [E2.out]; exact err_no z2
      have L3 := wait_flush d2
      obtain ⟨d3, f3, E3⟩ : ∃ x f, Hid (d2.flush = (x, f)) := ⟨_, _, rfl⟩
      rw [E3.out] at L3
      dsimp only at L3
      by_cases z3 : f3 = 0
      · have V3 : Hid (errV (d2.flush).2 = .nilIface) := by unfold Hid; rw [E3.out]; exact err_no z3
        have L4 := wait_write d3 0 (headBS 2 5)
        obtain ⟨d4, f4, E4⟩ : ∃ x f, Hid (d3.write 0 (headBS 2 5) = (x, f)) := ⟨_, _, rfl⟩
        rw [E4.out] at L4
        dsimp only at L4
        by_cases z4 : f4 = 0
        · have V4 : Hid (errV (d3.write 0 (headBS 2 5)).2 = .nilIface) := by unfold Hid; rw [E4.out]; exact err_no z4
          have L5 := wait_flush d4
          obtain ⟨d5, f5, E5⟩ : ∃ x f, Hid (d4.flush = (x, f)) := ⟨_, _, rfl⟩
          rw [E5.out] at L5
          dsimp only at L5
          by_cases z5 : f5 = 0
          · have V5 : Hid (errV (d4.flush).2 = .nilIface) := by unfold Hid; rw [E5.out]; exact err_no z5
            have EE : Hid (errV d.format.2 = .nilIface ∧ d.format.1 = d5) := by
              unfold Hid Ch.Disk.format; rw [E1.out]; dsimp only; rw [if_pos z1, text0E, E2.out]; dsimp only; rw [if_pos z2, E3.out]; dsimp only; rw [if_pos z3, head0, E4.out]; dsimp only; rw [if_pos z4, E5.out]; exact ⟨err_no z5, rfl⟩
            go_enter Tryd.func25, Tryd.ntmps25
            go_upto_region 6 with (first
              | (go_at_call 32; (with_reducible refine (sectors_any (HI.out.ext (by simp (maxDischargeDepth := 60)))).mono ?_); rintro e w1 ⟨rfl, o1, n1, rfl⟩)
              | (go_at_call 5; (with_reducible refine (text_none _ (HT.out.ext (by simp (maxDischargeDepth := 60)))).mono ?_); rintro e w1 ⟨rfl, o1, n1, rfl⟩)
              | (go_at_call 29; (with_reducible refine (head_25 _).mono ?_); rintro e w1 ⟨rfl, o1, n1, rfl⟩)
              | (go_at_call 27; (with_reducible refine (DNow.write (F := F) (n := n) (w := w) (d := d) 1 ⟨#[]⟩ .nilIface (HD.out.ext (by simp (maxDischargeDepth := 60))) (by decide) (by omega) V1).mono ?_); rintro e wa1 ⟨rfl, hD1⟩; rw [E1.out] at hD1; replace hD1 := Lib.hid hD1))
            go_upto_region 8 with (first
              | (go_at_call 32; (with_reducible refine (sectors_any (HI.out.ext (by simp (maxDischargeDepth := 60)))).mono ?_); rintro e w1 ⟨rfl, o1, n1, rfl⟩)
              | (go_at_call 5; (with_reducible refine (text_none _ (HT.out.ext (by simp (maxDischargeDepth := 60)))).mono ?_); rintro e w1 ⟨rfl, o1, n1, rfl⟩)
              | (go_at_call 29; (with_reducible refine (head_25 _).mono ?_); rintro e w1 ⟨rfl, o1, n1, rfl⟩)
              | (go_at_call 27; (with_reducible refine (DNow.write (F := F) (n := n) (w := w) (d := d1) 2 text0 .nilIface (hD1.out.ext (by simp (maxDischargeDepth := 60))) (by rw [text0_size]; decide) (by omega) V2).mono ?_); rintro e wa2 ⟨rfl, hD2⟩; rw [E2.out] at hD2; replace hD2 := Lib.hid hD2))
            go_upto_region 10 with (first
              | (go_at_call 32; (with_reducible refine (sectors_any (HI.out.ext (by simp (maxDischargeDepth := 60)))).mono ?_); rintro e w1 ⟨rfl, o1, n1, rfl⟩)
              | (go_at_call 5; (with_reducible refine (text_none _ (HT.out.ext (by simp (maxDischargeDepth := 60)))).mono ?_); rintro e w1 ⟨rfl, o1, n1, rfl⟩)
              | (go_at_call 29; (with_reducible refine (head_25 _).mono ?_); rintro e w1 ⟨rfl, o1, n1, rfl⟩)
              | (go_at_call 28; (with_reducible refine (DNow.flush (F := F) (n := n) (w := w) (d := d2) .nilIface (hD2.out.ext (by simp (maxDischargeDepth := 60))) V3).mono ?_); rintro e wa3 ⟨rfl, hD3⟩; rw [E3.out] at hD3; replace hD3 := Lib.hid hD3))
            go_upto_region 12 with (first
              | (go_at_call 32; (with_reducible refine (sectors_any (HI.out.ext (by simp (maxDischargeDepth := 60)))).mono ?_); rintro e w1 ⟨rfl, o1, n1, rfl⟩)
              | (go_at_call 5; (with_reducible refine (text_none _ (HT.out.ext (by simp (maxDischargeDepth := 60)))).mono ?_); rintro e w1 ⟨rfl, o1, n1, rfl⟩)
              | (go_at_call 29; (with_reducible refine (head_25 _).mono ?_); rintro e w1 ⟨rfl, o1, n1, rfl⟩)
              | (go_at_call 27; (with_reducible refine (DNow.write (F := F) (n := n) (w := w) (d := d3) 0 (headBS 2 5) .nilIface (hD3.out.ext (by simp (maxDischargeDepth := 60))) (by decide) (by omega) V4).mono ?_); rintro e wa4 ⟨rfl, hD4⟩; rw [E4.out] at hD4; replace hD4 := Lib.hid hD4))
            go_wp2_with (first
              | (go_at_call 32; (with_reducible refine (sectors_any (HI.out.ext (by simp (maxDischargeDepth := 60)))).mono ?_); rintro e w1 ⟨rfl, o1, n1, rfl⟩)
              | (go_at_call 5; (with_reducible refine (text_none _ (HT.out.ext (by simp (maxDischargeDepth := 60)))).mono ?_); rintro e w1 ⟨rfl, o1, n1, rfl⟩)
              | (go_at_call 29; (with_reducible refine (head_25 _).mono ?_); rintro e w1 ⟨rfl, o1, n1, rfl⟩)
              | (go_at_call 28; (with_reducible refine (DNow.flush (F := F) (n := n) (w := w) (d := d4) .nilIface (hD4.out.ext (by simp (maxDischargeDepth := 60))) V5).mono ?_); rintro e wa5 ⟨rfl, hD5⟩; rw [E5.out] at hD5; replace hD5 := Lib.hid hD5))
            go_ret
            rw [EE.out.1, EE.out.2]
            exact ⟨rfl, hD5.out⟩
          · have V5 : Hid (errV (d4.flush).2 = .iface 63 (vi f5)) := by unfold Hid; rw [E5.out]; exact err_at z5
            have EE : Hid (errV d.format.2 = .iface 63 (vi f5) ∧ d.format.1 = d5) := by
              unfold Hid Ch.Disk.format; rw [E1.out]; dsimp only; rw [if_pos z1, text0E, E2.out]; dsimp only; rw [if_pos z2, E3.out]; dsimp only; rw [if_pos z3, head0, E4.out]; dsimp only; rw [if_pos z4, E5.out]; exact ⟨err_at z5, rfl⟩
            go_enter Tryd.func25, Tryd.ntmps25
            go_upto_region 6 with (first
              | (go_at_call 32; (with_reducible refine (sectors_any (HI.out.ext (by simp (maxDischargeDepth := 60)))).mono ?_); rintro e w1 ⟨rfl, o1, n1, rfl⟩)
              | (go_at_call 5; (with_reducible refine (text_none _ (HT.out.ext (by simp (maxDischargeDepth := 60)))).mono ?_); rintro e w1 ⟨rfl, o1, n1, rfl⟩)
              | (go_at_call 29; (with_reducible refine (head_25 _).mono ?_); rintro e w1 ⟨rfl, o1, n1, rfl⟩)
              | (go_at_call 27; (with_reducible refine (DNow.write (F := F) (n := n) (w := w) (d := d) 1 ⟨#[]⟩ .nilIface (HD.out.ext (by simp (maxDischargeDepth := 60))) (by decide) (by omega) V1).mono ?_); rintro e wa1 ⟨rfl, hD1⟩; rw [E1.out] at hD1; replace hD1 := Lib.hid hD1))
            go_upto_region 8 with (first
              | (go_at_call 32; (with_reducible refine (sectors_any (HI.out.ext (by simp (maxDischargeDepth := 60)))).mono ?_); rintro e w1 ⟨rfl, o1, n1, rfl⟩)
              | (go_at_call 5; (with_reducible refine (text_none _ (HT.out.ext (by simp (maxDischargeDepth := 60)))).mono ?_); rintro e w1 ⟨rfl, o1, n1, rfl⟩)
              | (go_at_call 29; (with_reducible refine (head_25 _).mono ?_); rintro e w1 ⟨rfl, o1, n1, rfl⟩)
              | (go_at_call 27; (with_reducible refine (DNow.write (F := F) (n := n) (w := w) (d := d1) 2 text0 .nilIface (hD1.out.ext (by simp (maxDischargeDepth := 60))) (by rw [text0_size]; decide) (by omega) V2).mono ?_); rintro e wa2 ⟨rfl, hD2⟩; rw [E2.out] at hD2; replace hD2 := Lib.hid hD2))
            go_upto_region 10 with (first
              | (go_at_call 32; (with_reducible refine (sectors_any (HI.out.ext (by simp (maxDischargeDepth := 60)))).mono ?_); rintro e w1 ⟨rfl, o1, n1, rfl⟩)
              | (go_at_call 5; (with_reducible refine (text_none _ (HT.out.ext (by simp (maxDischargeDepth := 60)))).mono ?_); rintro e w1 ⟨rfl, o1, n1, rfl⟩)
              | (go_at_call 29; (with_reducible refine (head_25 _).mono ?_); rintro e w1 ⟨rfl, o1, n1, rfl⟩)
              | (go_at_call 28; (with_reducible refine (DNow.flush (F := F) (n := n) (w := w) (d := d2) .nilIface (hD2.out.ext (by simp (maxDischargeDepth := 60))) V3).mono ?_); rintro e wa3 ⟨rfl, hD3⟩; rw [E3.out] at hD3; replace hD3 := Lib.hid hD3))
            go_upto_region 12 with (first
              | (go_at_call 32; (with_reducible refine (sectors_any (HI.out.ext (by simp (maxDischargeDepth := 60)))).mono ?_); rintro e w1 ⟨rfl, o1, n1, rfl⟩)
              | (go_at_call 5; (with_reducible refine (text_none _ (HT.out.ext (by simp (maxDischargeDepth := 60)))).mono ?_); rintro e w1 ⟨rfl, o1, n1, rfl⟩)
              | (go_at_call 29; (with_reducible refine (head_25 _).mono ?_); rintro e w1 ⟨rfl, o1, n1, rfl⟩)
              | (go_at_call 27; (with_reducible refine (DNow.write (F := F) (n := n) (w := w) (d := d3) 0 (headBS 2 5) .nilIface (hD3.out.ext (by simp (maxDischargeDepth := 60))) (by decide) (by omega) V4).mono ?_); rintro e wa4 ⟨rfl, hD4⟩; rw [E4.out] at hD4; replace hD4 := Lib.hid hD4))
            go_wp2_with (first
              | (go_at_call 32; (with_reducible refine (sectors_any (HI.out.ext (by simp (maxDischargeDepth := 60)))).mono ?_); rintro e w1 ⟨rfl, o1, n1, rfl⟩)
              | (go_at_call 5; (with_reducible refine (text_none _ (HT.out.ext (by simp (maxDischargeDepth := 60)))).mono ?_); rintro e w1 ⟨rfl, o1, n1, rfl⟩)
              | (go_at_call 29; (with_reducible refine (head_25 _).mono ?_); rintro e w1 ⟨rfl, o1, n1, rfl⟩)
              | (go_at_call 28; (with_reducible refine (DNow.flush (F := F) (n := n) (w := w) (d := d4) (.iface 63 (vi f5)) (hD4.out.ext (by simp (maxDischargeDepth := 60))) V5).mono ?_); rintro e wa5 ⟨rfl, hD5⟩; rw [E5.out] at hD5; replace hD5 := Lib.hid hD5))
            go_ret
            rw [EE.out.1, EE.out.2]
            exact ⟨rfl, hD5.out⟩
        · have V4 : Hid (errV (d3.write 0 (headBS 2 5)).2 = .iface 63 (vi f4)) := by unfold Hid; rw [E4.out]; exact err_at z4
          have EE : Hid (errV d.format.2 = .iface 63 (vi f4) ∧ d.format.1 = d4) := by
            unfold Hid Ch.Disk.format; rw [E1.out]; dsimp only; rw [if_pos z1, text0E, E2.out]; dsimp only; rw [if_pos z2, E3.out]; dsimp only; rw [if_pos z3, head0, E4.out]; dsimp only; rw [if_neg z4]; exact ⟨err_at z4, rfl⟩
          go_enter Tryd.func25, Tryd.ntmps25
          go_upto_region 6 with (first
            | (go_at_call 32; (with_reducible refine (sectors_any (HI.out.ext (by simp (maxDischargeDepth := 60)))).mono ?_); rintro e w1 ⟨rfl, o1, n1, rfl⟩)
            | (go_at_call 5; (with_reducible refine (text_none _ (HT.out.ext (by simp (maxDischargeDepth := 60)))).mono ?_); rintro e w1 ⟨rfl, o1, n1, rfl⟩)
            | (go_at_call 29; (with_reducible refine (head_25 _).mono ?_); rintro e w1 ⟨rfl, o1, n1, rfl⟩)
            | (go_at_call 27; (with_reducible refine (DNow.write (F := F) (n := n) (w := w) (d := d) 1 ⟨#[]⟩ .nilIface (HD.out.ext (by simp (maxDischargeDepth := 60))) (by decide) (by omega) V1).mono ?_); rintro e wa1 ⟨rfl, hD1⟩; rw [E1.out] at hD1; replace hD1 := Lib.hid hD1))
          go_upto_region 8 with (first
            | (go_at_call 32; (with_reducible refine (sectors_any (HI.out.ext (by simp (maxDischargeDepth := 60)))).mono ?_); rintro e w1 ⟨rfl, o1, n1, rfl⟩)
            | (go_at_call 5; (with_reducible refine (text_none _ (HT.out.ext (by simp (maxDischargeDepth := 60)))).mono ?_); rintro e w1 ⟨rfl, o1, n1, rfl⟩)
            | (go_at_call 29; (with_reducible refine (head_25 _).mono ?_); rintro e w1 ⟨rfl, o1, n1, rfl⟩)
            | (go_at_call 27; (with_reducible refine (DNow.write (F := F) (n := n) (w := w) (d := d1) 2 text0 .nilIface (hD1.out.ext (by simp (maxDischargeDepth := 60))) (by rw [text0_size]; decide) (by omega) V2).mono ?_); rintro e wa2 ⟨rfl, hD2⟩; rw [E2.out] at hD2; replace hD2 := Lib.hid hD2))
          go_upto_region 10 with (first
            | (go_at_call 32; (with_reducible refine (sectors_any (HI.out.ext (by simp (maxDischargeDepth := 60)))).mono ?_); rintro e w1 ⟨rfl, o1, n1, rfl⟩)
            | (go_at_call 5; (with_reducible refine (text_none _ (HT.out.ext (by simp (maxDischargeDepth := 60)))).mono ?_); rintro e w1 ⟨rfl, o1, n1, rfl⟩)
            | (go_at_call 29; (with_reducible refine (head_25 _).mono ?_); rintro e w1 ⟨rfl, o1, n1, rfl⟩)
            | (go_at_call 28; (with_reducible refine (DNow.flush (F := F) (n := n) (w := w) (d := d2) .nilIface (hD2.out.ext (by simp (maxDischargeDepth := 60))) V3).mono ?_); rintro e wa3 ⟨rfl, hD3⟩; rw [E3.out] at hD3; replace hD3 := Lib.hid hD3))
          go_wp2_with (first
            | (go_at_call 32; (with_reducible refine (sectors_any (HI.out.ext (by simp (maxDischargeDepth := 60)))).mono ?_); rintro e w1 ⟨rfl, o1, n1, rfl⟩)
            | (go_at_call 5; (with_reducible refine (text_none _ (HT.out.ext (by simp (maxDischargeDepth := 60)))).mono ?_); rintro e w1 ⟨rfl, o1, n1, rfl⟩)
            | (go_at_call 29; (with_reducible refine (head_25 _).mono ?_); rintro e w1 ⟨rfl, o1, n1, rfl⟩)
            | (go_at_call 27; (with_reducible refine (DNow.write (F := F) (n := n) (w := w) (d := d3) 0 (headBS 2 5) (.iface 63 (vi f4)) (hD3.out.ext (by simp (maxDischargeDepth := 60))) (by decide) (by omega) V4).mono ?_); rintro e wa4 ⟨rfl, hD4⟩; rw [E4.out] at hD4; replace hD4 := Lib.hid hD4))
          go_ret
          rw [EE.out.1, EE.out.2]
          exact ⟨rfl, hD4.out⟩
      · have V3 : Hid (errV (d2.flush).2 = .iface 63 (vi f3)) := by unfold Hid; rw [E3.out]; exact err_at z3
        have EE : Hid (errV d.format.2 = .iface 63 (vi f3) ∧ d.format.1 = d3) := by
          unfold Hid Ch.Disk.format; rw [E1.out]; dsimp only; rw [if_pos z1, text0E, E2.out]; dsimp only; rw [if_pos z2, E3.out]; dsimp only; rw [if_neg z3]; exact ⟨err_at z3, rfl⟩
        go_enter Tryd.func25, Tryd.ntmps25
        go_upto_region 6 with (first
          | (go_at_call 32; (with_reducible refine (sectors_any (HI.out.ext (by simp (maxDischargeDepth := 60)))).mono ?_); rintro e w1 ⟨rfl, o1, n1, rfl⟩)
          | (go_at_call 5; (with_reducible refine (text_none _ (HT.out.ext (by simp (maxDischargeDepth := 60)))).mono ?_); rintro e w1 ⟨rfl, o1, n1, rfl⟩)
          | (go_at_call 27; (with_reducible refine (DNow.write (F := F) (n := n) (w := w) (d := d) 1 ⟨#[]⟩ .nilIface (HD.out.ext (by simp (maxDischargeDepth := 60))) (by decide) (by omega) V1).mono ?_); rintro e wa1 ⟨rfl, hD1⟩; rw [E1.out] at hD1; replace hD1 := Lib.hid hD1))
        go_upto_region 8 with (first
          | (go_at_call 32; (with_reducible refine (sectors_any (HI.out.ext (by simp (maxDischargeDepth := 60)))).mono ?_); rintro e w1 ⟨rfl, o1, n1, rfl⟩)
          | (go_at_call 5; (with_reducible refine (text_none _ (HT.out.ext (by simp (maxDischargeDepth := 60)))).mono ?_); rintro e w1 ⟨rfl, o1, n1, rfl⟩)
          | (go_at_call 27; (with_reducible refine (DNow.write (F := F) (n := n) (w := w) (d := d1) 2 text0 .nilIface (hD1.out.ext (by simp (maxDischargeDepth := 60))) (by rw [text0_size]; decide) (by omega) V2).mono ?_); rintro e wa2 ⟨rfl, hD2⟩; rw [E2.out] at hD2; replace hD2 := Lib.hid hD2))
        go_wp2_with (first
          | (go_at_call 32; (with_reducible refine (sectors_any (HI.out.ext (by simp (maxDischargeDepth := 60)))).mono ?_); rintro e w1 ⟨rfl, o1, n1, rfl⟩)
          | (go_at_call 5; (with_reducible refine (text_none _ (HT.out.ext (by simp (maxDischargeDepth := 60)))).mono ?_); rintro e w1 ⟨rfl, o1, n1, rfl⟩)
          | (go_at_call 28; (with_reducible refine (DNow.flush (F := F) (n := n) (w := w) (d := d2) (.iface 63 (vi f3)) (hD2.out.ext (by simp (maxDischargeDepth := 60))) V3).mono ?_); rintro e wa3 ⟨rfl, hD3⟩; rw [E3.out] at hD3; replace hD3 := Lib.hid hD3))
        go_ret
        rw [EE.out.1, EE.out.2]
        exact ⟨rfl, hD3.out⟩
    · have V2 : Hid (errV (d1.write 2 text0).2 = .iface 63 (vi f2)) := by unfold Hid; rw [E2.out]; exact err_at z2
      have EE : Hid (errV d.format.2 = .iface 63 (vi f2) ∧ d.format.1 = d2) := by
        unfold Hid Ch.Disk.format; rw [E1.out]; dsimp only; rw [if_pos z1, text0E, E2.out]; dsimp only; rw [if_neg z2]; exact ⟨err_at z2, rfl⟩
      go_enter Tryd.func25, Tryd.ntmps25
      go_upto_region 6 with (first
        | (go_at_call 32; (with_reducible refine (sectors_any (HI.out.ext (by simp (maxDischargeDepth := 60)))).mono ?_); rintro e w1 ⟨rfl, o1, n1, rfl⟩)
        | (go_at_call 5; (with_reducible refine (text_none _ (HT.out.ext (by simp (maxDischargeDepth := 60)))).mono ?_); rintro e w1 ⟨rfl, o1, n1, rfl⟩)
        | (go_at_call 27; (with_reducible refine (DNow.write (F := F) (n := n) (w := w) (d := d) 1 ⟨#[]⟩ .nilIface (HD.out.ext (by simp (maxDischargeDepth := 60))) (by decide) (by omega) V1).mono ?_); rintro e wa1 ⟨rfl, hD1⟩; rw [E1.out] at hD1; replace hD1 := Lib.hid hD1))
      go_wp2_with (first
        | (go_at_call 32; (with_reducible refine (sectors_any (HI.out.ext (by simp (maxDischargeDepth := 60)))).mono ?_); rintro e w1 ⟨rfl, o1, n1, rfl⟩)
        | (go_at_call 5; (with_reducible refine (text_none _ (HT.out.ext (by simp (maxDischargeDepth := 60)))).mono ?_); rintro e w1 ⟨rfl, o1, n1, rfl⟩)
        | (go_at_call 27; (with_reducible refine (DNow.write (F := F) (n := n) (w := w) (d := d1) 2 text0 (.iface 63 (vi f2)) (hD1.out.ext (by simp (maxDischargeDepth := 60))) (by rw [text0_size]; decide) (by omega) V2).mono ?_); rintro e wa2 ⟨rfl, hD2⟩; rw [E2.out] at hD2; replace hD2 := Lib.hid hD2))
      go_ret
      rw [EE.out.1, EE.out.2]
      exact ⟨rfl, hD2.out⟩
  · have V1 : Hid (errV (d.write 1 ⟨#[]⟩).2 = .iface 63 (vi f1)) := by unfold Hid; rw [E1.out]; exact err_at z1
    have EE : Hid (errV d.format.2 = .iface 63 (vi f1) ∧ d.format.1 = d1) := by
      unfold Hid Ch.Disk.format; rw [E1.out]; dsimp only; rw [if_neg z1]; exact ⟨err_at z1, rfl⟩
    go_enter Tryd.func25, Tryd.ntmps25
    go_wp2_with (first
      | (go_at_call 32; (with_reducible refine (sectors_any (HI.out.ext (by simp (maxDischargeDepth := 60)))).mono ?_); rintro e w1 ⟨rfl, o1, n1, rfl⟩)
      | (go_at_call 5; (with_reducible refine (text_none _ (HT.out.ext (by simp (maxDischargeDepth := 60)))).mono ?_); rintro e w1 ⟨rfl, o1, n1, rfl⟩)
      | (go_at_call 27; (with_reducible refine (DNow.write (F := F) (n := n) (w := w) (d := d) 1 ⟨#[]⟩ (.iface 63 (vi f1)) (HD.out.ext (by simp (maxDischargeDepth := 60))) (by decide) (by omega) V1).mono ?_); rintro e wa1 ⟨rfl, hD1⟩; rw [E1.out] at hD1; replace hD1 := Lib.hid hD1))
    go_ret
    rw [EE.out.1, EE.out.2]
    exact ⟨rfl, hD1.out⟩
end Go.Proofs.YtplomeacjbkgnacDoor

namespace Go.Proofs.YtplomeacjbkgnacDoor
open Go.RowKit

/-- a disk of which only blocks of F, or fresh ones (from B on), are had; all of them cells -/
def DFar (F : Nat → Prop) (B db n : Nat) (d : Ch.Disk) (w : World) : Prop :=
  ∃ F', DiskAt w F' db n d ∧ (∀ k, F' k → F k ∨ B ≤ k) ∧ (∀ k, F' k → ∃ cs t fr, w.heap[k]? = some (.cells cs t fr))

/-- what a step on such a disk keeps -/
structure KeptD (F : Nat → Prop) (B : Nat) (w w' : World) : Prop where
  os : w'.os = w.os
  tape : w'.tape = w.tape
  output : w'.output = w.output
  size : w.heap.size ≤ w'.heap.size
  old : ∀ k, k < B → ¬ F k → w'.heap[k]? = w.heap[k]?
  others : ∀ (k : Nat) (o : Obj), w.heap[k]? = some o → o.isCells = false → w'.heap[k]? = some o

/-- the blocks that a disk has -/
def foot (db kb nb : Nat) (wv : Value) (k : Nat) : Prop := k = db ∨ k = kb ∨ k = nb ∨ wv.ownBlock = some k

theorem DiskInT.tight {T TT : TypeId} {w : World} {F : Nat → Prop} {db kb kc nb nc n : Nat} {wv : Value} {d : Ch.Disk} (h : DiskInT T TT w F db kb kc nb nc n wv d) :
    DiskInT T TT w (foot db kb nb wv) db kb kc nb nc n wv d ∧ (∀ k, foot db kb nb wv k → F k) ∧ (∀ k, foot db kb nb wv k → ∃ cs t fr, w.heap[k]? = some (.cells cs t fr)) := by
  have hF : ∀ k, foot db kb nb wv k → F k := by
    rintro k (rfl | rfl | rfl | hk)
    · exact h.f1
    · exact h.f2
    · exact h.f3
    · exact h.f4 k hk
  refine ⟨{ h with f1 := Or.inl rfl, f2 := Or.inr (Or.inl rfl), f3 := Or.inr (Or.inr (Or.inl rfl)), f4 := fun k hk => Or.inr (Or.inr (Or.inr hk)), lt := fun k hk => h.lt k (hF k hk) }, hF, ?_⟩
  rintro k (rfl | rfl | rfl | hk)
  · exact ⟨_, _, _, h.blk⟩
  · obtain ⟨cur, hc, -⟩ := h.kept.heap; exact ⟨_, _, _, hc⟩
  · obtain ⟨cur, hc, -⟩ := h.now.heap; exact ⟨_, _, _, hc⟩
  · rcases h.wait.2 with ⟨e, -⟩ | ⟨g, cap, cur, e, _, hg, _⟩
    · rw [e] at hk; cases hk
    · rw [e] at hk; cases hk; exact ⟨_, _, _, hg⟩

theorem DFar.start {F : Nat → Prop} {B db n : Nat} {d : Ch.Disk} {w : World} (h : DiskAt w F db n d) : DFar F B db n d w := by
  obtain ⟨kb, kc, nb, nc, wv, hI⟩ := h
  obtain ⟨h1, h2, h3⟩ := hI.tight
  exact ⟨_, ⟨kb, kc, nb, nc, wv, h1⟩, fun k hk => Or.inl (h2 k hk), h3⟩

/-- a disk stays where nothing of it is turned -/
theorem DFar.kept {F S : Nat → Prop} {B db n : Nat} {d : Ch.Disk} {w w' : World} (h : DFar F B db n d w) (k : Kept S w w') (hs : ∀ i, S i → (∃ o : Obj, w.heap[i]? = some o ∧ o.isCells = false) ∨ (¬ F i ∧ i < B) ∨ w.heap.size ≤ i) : DFar F B db n d w' := by
  obtain ⟨F', h1, h2, h3⟩ := h
  have hn : ∀ i, F' i → ¬ S i := by
    intro i hi hS
    obtain ⟨cs, t, fr, hc⟩ := h3 i hi
    rcases hs i hS with ⟨o, ho, hf⟩ | ⟨ha, hb⟩ | hb
    · rw [hc] at ho; cases ho; cases hf
    · rcases h2 i hi with h | h
      · exact ha h
      · omega
    · have := blk_lt hc; omega
  refine ⟨F', DiskAtT.kept h1 k hn, h2, fun i hi => ?_⟩
  obtain ⟨cs, t, fr, hc⟩ := h3 i hi
  exact ⟨cs, t, fr, (k.block i (blk_lt hc) (hn i hi)).trans hc⟩

theorem DFar.ext {F : Nat → Prop} {B db n : Nat} {d : Ch.Disk} {w w' : World} (h : DFar F B db n d w) (x : Ext w w') : DFar F B db n d w' :=
  h.kept (S := fun _ => False) (Kept.of_ext x) (fun _ hf => hf.elim)

/-- a store into a block that is not the disk's -/
theorem DFar.set {F : Nat → Prop} {B db n : Nat} {d : Ch.Disk} {w : World} (h : DFar F B db n d w) {b i : Nat} (v : Value) (hb : b < B) (hF : ¬ F b) : DFar F B db n d (w.setCell ⟨b, i, none⟩ v) :=
  h.kept (S := fun k => k = b) ((Kept.refl (fun k => k = b) w).setCell (a := ⟨b, i, none⟩) (Or.inl rfl) v) (fun k hk => by cases hk; exact Or.inr (Or.inl ⟨hF, hb⟩))

/-- a call that is a step on the disk -/
theorem DFar.call {F : Nat → Prop} {B db n : Nat} {w : World} {d d' : Ch.Disk} {r : Value} {f : FuncId} {args : Array Value} (h : DFar F B db n d w) (hB : B ≤ w.heap.size) (hs : ∀ F', DiskAt w F' db n d → Calls Tryd.prog f args w (DDid F' db n w d' r)) :
    Calls Tryd.prog f args w fun e w2 => e = .returned r ∧ DFar F B db n d' w2 ∧ KeptD F B w w2 := by
  obtain ⟨F1, h1, h2, h3⟩ := h
  refine (hs F1 h1).mono ?_
  rintro e w2 ⟨he, ⟨F2, ⟨kb, kc, nb, nc, wv, hI⟩, g2⟩, g3⟩
  obtain ⟨t1, t2, t3⟩ := hI.tight
  refine ⟨he, ⟨_, ⟨kb, kc, nb, nc, wv, t1⟩, fun k hk => ?_, t3⟩, g3.os, g3.tape, g3.output, g3.size, fun k hk hn => ?_, fun k o ho hc => ?_⟩
  · rcases g2 k (t2 k hk) with h | h
    · exact h2 k h
    · exact Or.inr (by omega)
  · refine g3.block k (by omega) (fun hf => ?_)
    rcases h2 k hf with h | h
    · exact hn h
    · omega
  · refine (g3.block k (blk_lt ho) (fun hf => ?_)).trans ho
    obtain ⟨cs, t, fr, hcs⟩ := h3 k hf
    rw [hcs] at ho; cases ho; cases hc

theorem DFar.write {F : Nat → Prop} {B db n : Nat} {w : World} {d : Ch.Disk} (k : Int) (s : ByteArray) (v : Value) (h : DFar F B db n d w) (hB : B ≤ w.heap.size) (hs : s.size ≤ 1000) (hl : d.wait.length ≤ 1000000) (hv : Hid (errV (d.write k s).2 = v)) :
    Calls Tryd.prog 27 #[.pointer (some ⟨db, 0, none⟩), vi k, .string s] w fun e w2 => e = .returned v ∧ DFar F B db n (d.write k s).1 w2 ∧ KeptD F B w w2 := by
  rw [← hv.out]
  exact h.call hB fun F' h' => write_any h' k s (Nat.le_trans hs (by decide)) hl

theorem DFar.flush {F : Nat → Prop} {B db n : Nat} {w : World} {d : Ch.Disk} (v : Value) (h : DFar F B db n d w) (hB : B ≤ w.heap.size) (hv : Hid (errV d.flush.2 = v)) :
    Calls Tryd.prog 28 #[.pointer (some ⟨db, 0, none⟩)] w fun e w2 => e = .returned v ∧ DFar F B db n d.flush.1 w2 ∧ KeptD F B w w2 := by
  rw [← hv.out]
  exact h.call hB fun F' h' => flush_any h'

theorem KeptD.cell {F : Nat → Prop} {B : Nat} {w w' : World} (h : KeptD F B w w') {b o : Nat} {v : Value} (hc : w.cell? ⟨b, o, none⟩ = some v) (hb : b < B) (hF : ¬ F b) : w'.cell? ⟨b, o, none⟩ = some v := by
  have e := h.old b hb hF
  unfold World.cell? at *
  simp only [e]
  exact hc

theorem KeptD.free {F : Nat → Prop} {B : Nat} {w w' : World} (h : KeptD F B w w') {b o : Nat} (hc : w.frozen? ⟨b, o, none⟩ = false) (hb : b < B) (hF : ¬ F b) : w'.frozen? ⟨b, o, none⟩ = false := by
  have e := h.old b hb hF
  unfold World.frozen? at *
  simp only [e]
  exact hc

/-- what was kept since w* stays so: all old blocks but those of the disk and some others -/
theorem KeptD.since {F S : Nat → Prop} {w0 w w' : World} {B : Nat} (k : Kept S w0 w) (h : KeptD F B w w') (hB : w0.heap.size ≤ B) (hF : ∀ i, F i → S i) : Kept S w0 w' :=
  ⟨h.os.trans k.os, h.tape.trans k.tape, h.output.trans k.output, Nat.le_trans k.size h.size, fun i hi hn => (h.old i (by omega) (fun hf => hn (hF i hf))).trans (k.block i hi hn)⟩
end Go.Proofs.YtplomeacjbkgnacDoor
