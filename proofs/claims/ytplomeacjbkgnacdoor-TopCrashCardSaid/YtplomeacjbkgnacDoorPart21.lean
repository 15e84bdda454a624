/-
  Walks of the program's functions, and what they need: LedArm, LedFact, SameBook, SameBook2, Read, Act0, Light.
-/
import Derived.Test.YtplomeacjbkgnacDoorPart20
import Derived.Test.YtplomeacjbkgnacDoorPart07
import Derived.Test.YtplomeacjbkgnacDoorPart02
import Derived.Lib.SmallJoins
import Derived.Test.YtplomeacjbkgnacDoorPart04

namespace Go.Proofs.YtplomeacjbkgnacDoor
open Go.RowKit

/-! ### something is done to a ledger's disk -/

theorem ln_did {Z : Nat → Prop} {db lb n : Nat} {lv : Int} {e : Nat} {b : Ch.Book} {d d' : Ch.Disk} {w : World} {g : FuncId} {args : Array Value} {r : Value} (hZ : ∀ k, w.heap.size ≤ k → Z k) (hN : LN Z db lb n lv e b d w)
    (hc : ∀ F, DiskAt w F db n d → Calls Tryd.prog g args w (DDid F db n w d' r)) : Calls Tryd.prog g args w fun x w' => x = .returned r ∧ Kept Z w w' ∧ LN Z db lb n lv e b d' w' := by
  obtain ⟨F, v1, v2, g1, g2, g3, g4, g5, g6, g7, g8⟩ := hN
  refine (hc F g1).mono ?_
  rintro x w' ⟨rfl, ⟨F', k1, k2⟩, k3⟩
  have hlt := g5.lt
  have lt6 : ∀ k, v1.ownBlock = some k ∨ v2.ownBlock = some k → k < w.heap.size := fun k hk => by
    rcases hk with hk | hk
    · exact (own_lt g6 hk).2
    · exact (own_lt g7 hk).2
  have nF : ∀ k, v1.ownBlock = some k ∨ v2.ownBlock = some k → ¬ F' k := fun k hk hF => by
    rcases k2 k hF with hF | hB
    · exact (g8 k hk).1 hF
    · have := lt6 k hk; omega
  refine ⟨rfl, ⟨k3.os, k3.tape, k3.output, k3.size, fun k hk hz => k3.block k hk (fun hF => hz (g2 k hF))⟩, F', v1, v2, k1, fun k hF => (k2 k hF).elim (g2 k) (hZ k), ?_, g4, ?_, owns_same g6 (fun i hi => k3.block i (lt6 i (Or.inl hi)) (g8 i (Or.inl hi)).1), owns_same g7 (fun i hi => k3.block i (lt6 i (Or.inr hi)) (g8 i (Or.inr hi)).1), fun k hk' => ⟨nF k hk', (g8 k hk').2⟩⟩
  · intro hF
    rcases k2 lb hF with hF | hB
    · exact g3 hF
    · omega
  · exact (k3.block lb hlt g3).trans g5

theorem arm_led {Z : Nat → Prop} {db lb n : Nat} {lv : Int} {e : Nat} {b : Ch.Book} {d : Ch.Disk} {w : World} (hZ : ∀ k, w.heap.size ≤ k → Z k) (hN : LN Z db lb n lv e b d w) (k : Int) (hk : k ≤ 9223372036854775807) :
    Calls Tryd.prog 13 #[.pointer (some ⟨db, 0, none⟩), vi k] w fun x w' => x = .returned (.tuple #[]) ∧ Kept Z w w' ∧ LN Z db lb n lv e b (d.arm k) w' :=
  ln_did hZ hN fun _ ⟨_, _, _, _, _, h⟩ => arm_any h k hk

theorem restart_dz {Z : Nat → Prop} {db n : Nat} {d : Ch.Disk} {w : World} (hZ : ∀ k, w.heap.size ≤ k → Z k) (h : DZ Z db n d w) (keep : Nat) (hk : keep < 18446744073709551616) (hl : d.wait.length ≤ 1000000) :
    Calls Tryd.prog 15 #[.pointer (some ⟨db, 0, none⟩), .int .u64 (keep : Int)] w fun x w' => x = .returned (.tuple #[]) ∧ Kept Z w w' ∧ DZ Z db n (d.restart keep) w' := by
  obtain ⟨F, g1, g2⟩ := h
  refine (restart_any g1 keep hk hl).mono ?_
  rintro x w' ⟨rfl, ⟨F', k1, k2⟩, k3⟩
  exact ⟨rfl, ⟨k3.os, k3.tape, k3.output, k3.size, fun k hk hz => k3.block k hk (fun hF => hz (g2 k hF))⟩, F', k1, fun k hF => (k2 k hF).elim (g2 k) (hZ k)⟩

end Go.Proofs.YtplomeacjbkgnacDoor

namespace Go.Proofs.YtplomeacjbkgnacDoor
open Go.RowKit

theorem ext_behind {w0 w w' : World} (x : Ext w0 w) (k : Kept (fun k => w0.heap.size ≤ k) w w') : Ext w0 w' := Ext.of_below (below_kept x.below (Nat.le_refl _) k (fun _ h => h))

set_option maxRecDepth 100000 in
set_option maxHeartbeats 2000000 in
theorem kept_any (lv : Int) (l1 : 1 ≤ lv) (l4 : lv ≤ 4) (w : World) (L : Libs w) :
    Calls Tryd.prog 10 #[vi lv] w fun e w' => ∃ db lb d, e = .returned (.tuple #[.pointer (some ⟨db, 0, none⟩), .pointer (some ⟨lb, 0, none⟩), .bool true]) ∧ LP 22 lv 2 ⟨0, [], []⟩ d ∧ LN (fun k => w.heap.size ≤ k) db lb 22 lv 2 ⟨0, [], []⟩ d w' ∧ Ext w w' := by
  have HL := Lib.hid L
  clear L
  go_enter Tryd.func10, Tryd.ntmps10
  go_wp2_with (first
    | (go_at_call 24; refine (new_dz 22 _ (by decide) (by decide)).mono ?_; rintro e w1 ⟨db, rfl, hd, hx⟩; have HD := Lib.hid hd; have HX := Lib.hid hx; clear hd hx)
    | (go_at_call 25; refine (format_now (fun k hk => Nat.le_trans HX.out.below.size hk) HD.out (Ch.calm_new 22) rfl (Nat.le_refl _) lv (HL.out.tab.ext HX.out)).mono ?_; rintro e w2 ⟨rfl, hk, d, hp, hd2⟩; have HX2 := Lib.hid (ext_behind HX.out hk); have HP := Lib.hid hp; have HD2 := Lib.hid hd2; clear hk hp hd2)
    | (go_at_call 16; refine (open_now (fun k hk => Nat.le_trans HX2.out.below.size hk) HD2.out HP.out l1 l4 (Nat.le_refl _) (HL.out.ext HX2.out)).mono ?_; rintro e w3 ⟨lb, rfl, hn, hx⟩; have HN := Lib.hid hn; have HX3 := Lib.hid hx; clear hn hx))
  go_ret3
  exact ⟨_, _, _, rfl, HP.out, HN.out, HX2.out.trans HX3.out⟩

end Go.Proofs.YtplomeacjbkgnacDoor

namespace Go.Proofs.YtplomeacjbkgnacDoor
open Go.RowKit

set_option maxRecDepth 100000 in
set_option maxHeartbeats 2000000 in
theorem sameBook_yes (last : Int) (a1 : Option Addr) (n1 c1 : Nat) (a2 : Option Addr) (n2 c2 : Nat) (b1 : Option Addr) (d1 : Nat) (b2 : Option Addr) (d2 : Nat) (l : List Ch.Stay) (js : List Ch.Job) (w : World)
    (h1 : Sl w 8 stayCells l a1 n1 c1) (h2 : Sl w 2 jobCells js a2 n2 c2) (h3 : Sl w 8 stayCells l b1 n1 d1) (h4 : Sl w 2 jobCells js b2 n2 d2) :
    Calls Tryd.prog 9 #[bookA last a1 n1 c1 a2 n2 c2, bookA last b1 n1 d1 b2 n2 d2] w fun e w' => e = .returned (.bool true) ∧ Ext w w' := by
  have q1 := h1.bound
  have q2 := h2.bound
  have q3 := h3.bound
  have q4 := h4.bound
  have F1 := Lib.hid h1
  have F2 := Lib.hid h2
  have F3 := Lib.hid h3
  have F4 := Lib.hid h4
  clear h1 h2 h3 h4
  go_enter Tryd.func9, Tryd.ntmps9
  go_upto_region 3 with fail
  generalize hW : World.alloc _ _ = w0
  have k0 : w0.cell? ⟨w.heap.size, 0, none⟩ = some (vi last) := by rw [← hW]; simp [go_sem]
  have k1 : w0.cell? ⟨w.heap.size, 1, none⟩ = some (.slice a1 n1 c1) := by rw [← hW]; simp [go_sem]
  have k2 : w0.cell? ⟨w.heap.size, 2, none⟩ = some (.slice a2 n2 c2) := by rw [← hW]; simp [go_sem]
  have m0 : w0.cell? ⟨w.heap.size + 1, 0, none⟩ = some (vi last) := by rw [← hW]; simp [go_sem]
  have m1 : w0.cell? ⟨w.heap.size + 1, 1, none⟩ = some (.slice b1 n1 d1) := by rw [← hW]; simp [go_sem]
  have m2 : w0.cell? ⟨w.heap.size + 1, 2, none⟩ = some (.slice b2 n2 d2) := by rw [← hW]; simp [go_sem]
  have hx : Ext w w0 := by rw [← hW]; exact (by simp (maxDischargeDepth := 60))
  have HX := Lib.hid hx
  have G1 := Lib.hid (Sl.below F1.out hx.below)
  have G2 := Lib.hid (Sl.below F2.out hx.below)
  have G3 := Lib.hid (Sl.below F3.out hx.below)
  have G4 := Lib.hid (Sl.below F4.out hx.below)
  have z1 := cell_lt k0
  have z2 := cell_lt m0
  clear hW hx F1 F2 F3 F4
  go_wp2
  go_loopw [5] (fun i wr => ∃ k : Nat, k ≤ n1 ∧ i = .int .i64 k ∧ Ext w0 wr) (fun i _ => n1 - (intOf i).toNat)
  case atStart => exact ⟨0, by omega, rfl, (by simp (maxDischargeDepth := 60))⟩
  case round =>
    obtain ⟨k, hk, rfl, o, m, rfl⟩ := hrel
    by_cases hlt : k < n1
    · obtain ⟨p1, o1, u1, rfl, x1, g1⟩ := G1.out.get hlt
      obtain ⟨p2, o2, u2, rfl, x2, g2⟩ := G3.out.get hlt
      obtain rfl : u1 = u2 := Option.some.inj (x1.symm.trans x2)
      have d1 := at8 g1
      have d2 := at8 g2
      have y1 := cell_lt d1.1
      have y2 := cell_lt d2.1
      obtain ⟨t, ⟨ci, ⟨cx, cy, cz⟩⟩, ⟨h0, h1, h2⟩⟩ := u1
      dsimp only at d1 d2
      have hq : ∀ w, (Go.binOp .neq 60 (.agg #[vi t, vi ci, vi cx, vi cy, vi cz, vi h0, vi h1, vi h2]) (.agg #[vi t, vi ci, vi cx, vi cy, vi cz, vi h0, vi h1, vi h2])).run Tryd.prog w = .ok (.bool false) w := fun w => by
        rw [neqStruct w (eqStay w 9996 ⟨t, ⟨ci, ⟨cx, cy, cz⟩⟩, ⟨h0, h1, h2⟩⟩ ⟨t, ⟨ci, ⟨cx, cy, cz⟩⟩, ⟨h0, h1, h2⟩⟩)]; simp
      have hkj : (k : Int) < (n1 : Int) := by omega
      clear g1 g2 x1 x2
      go_upto_region 6 with fail
      (refine wp_region_ext (by kernel_rfl) (by kernel_rfl) ?_; (repeat (first | go_big_quiet_step (fail) | quiet_step (fail))); refine wpQuiet_nil ?_; intro _ hw'; obtain ⟨oq, nq, hw''⟩ := hw'; subst hw'')
      go_wp2
      go_roundw
      case rel => exact ⟨k + 1, by omega, by go_num, (by simp (maxDischargeDepth := 60))⟩
      case measure => simp [intOf]; omega
    · have hkn : k = n1 := by omega
      subst hkn
      go_wp2
      go_loopw [6] (fun i wr => ∃ k : Nat, k ≤ n2 ∧ i = .int .i64 k ∧ Ext w0 wr) (fun i _ => n2 - (intOf i).toNat)
      case atStart => exact ⟨0, by omega, rfl, (by simp (maxDischargeDepth := 60))⟩
      case round =>
        obtain ⟨j, hj, rfl, o', m', rfl⟩ := hrel
        by_cases hlt : j < n2
        · obtain ⟨p1, o1, u1, rfl, x1, g1⟩ := G2.out.get hlt
          obtain ⟨p2, o2, u2, rfl, x2, g2⟩ := G4.out.get hlt
          obtain rfl : u1 = u2 := Option.some.inj (x1.symm.trans x2)
          have d1 := at2 g1
          have d2 := at2 g2
          have y1 := cell_lt d1.1
          have y2 := cell_lt d2.1
          obtain ⟨t, f⟩ := u1
          dsimp only at d1 d2
          have hq : ∀ w, (Go.binOp .neq 62 (.agg #[vi t, .bool f]) (.agg #[vi t, .bool f])).run Tryd.prog w = .ok (.bool false) w := fun w => by
            rw [neqStruct w (eqJob w 9998 ⟨t, f⟩ ⟨t, f⟩)]; simp
          have hkj : (j : Int) < (n2 : Int) := by omega
          clear g1 g2 x1 x2
          go_upto_region 11 with fail
          (refine wp_region_ext (by kernel_rfl) (by kernel_rfl) ?_; (repeat (first | go_big_quiet_step (fail) | quiet_step (fail))); refine wpQuiet_nil ?_; intro _ hw'; obtain ⟨oq, nq, hw''⟩ := hw'; subst hw'')
          go_wp2
          go_roundw
          case rel => exact ⟨j + 1, by omega, by go_num, (by simp (maxDischargeDepth := 60))⟩
          case measure => simp [intOf]; omega
        · have hjn : j = n2 := by omega
          subst hjn
          go_wp2
          go_ret
          exact ⟨rfl, HX.out.trans (by simp (maxDischargeDepth := 60))⟩
end Go.Proofs.YtplomeacjbkgnacDoor

namespace Go.Proofs.YtplomeacjbkgnacDoor
open Go.RowKit

set_option maxRecDepth 100000 in
set_option maxHeartbeats 4000000 in
theorem sameBook_any (last last' : Int) (a1 : Option Addr) (n1 c1 : Nat) (a2 : Option Addr) (n2 c2 : Nat) (b1 : Option Addr) (n1' d1 : Nat) (b2 : Option Addr) (n2' d2 : Nat) (l l' : List Ch.Stay) (js js' : List Ch.Job) (w : World)
    (h1 : Sl w 8 stayCells l a1 n1 c1) (h2 : Sl w 2 jobCells js a2 n2 c2) (h3 : Sl w 8 stayCells l' b1 n1' d1) (h4 : Sl w 2 jobCells js' b2 n2' d2) :
    Calls Tryd.prog 9 #[bookA last a1 n1 c1 a2 n2 c2, bookA last' b1 n1' d1 b2 n2' d2] w fun e w' => (∃ r : Bool, e = .returned (.bool r)) ∧ Ext w w' := by
  have q1 := h1.bound
  have q2 := h2.bound
  have q3 := h3.bound
  have q4 := h4.bound
  have F1 := Lib.hid h1
  have F2 := Lib.hid h2
  have F3 := Lib.hid h3
  have F4 := Lib.hid h4
  clear h1 h2 h3 h4
  by_cases e1 : last = last'
  case neg =>
    go_enter Tryd.func9, Tryd.ntmps9
    go_wp2
    go_ret
    exact ⟨⟨_, rfl⟩, (by simp (maxDischargeDepth := 60))⟩
  subst e1
  by_cases e2 : n1 = n1'
  case neg =>
    have e2' : ¬ (n1 : Int) = (n1' : Int) := by omega
    go_enter Tryd.func9, Tryd.ntmps9
    go_wp2
    go_ret
    exact ⟨⟨_, rfl⟩, (by simp (maxDischargeDepth := 60))⟩
  subst e2
  by_cases e3 : n2 = n2'
  case neg =>
    have e3' : ¬ (n2 : Int) = (n2' : Int) := by omega
    go_enter Tryd.func9, Tryd.ntmps9
    go_wp2
    go_ret
    exact ⟨⟨_, rfl⟩, (by simp (maxDischargeDepth := 60))⟩
  subst e3
  go_enter Tryd.func9, Tryd.ntmps9
  go_upto_region 3 with fail
  generalize hW : World.alloc _ _ = w0
  have k0 : w0.cell? ⟨w.heap.size, 0, none⟩ = some (vi last) := by rw [← hW]; simp [go_sem]
  have k1 : w0.cell? ⟨w.heap.size, 1, none⟩ = some (.slice a1 n1 c1) := by rw [← hW]; simp [go_sem]
  have k2 : w0.cell? ⟨w.heap.size, 2, none⟩ = some (.slice a2 n2 c2) := by rw [← hW]; simp [go_sem]
  have m0 : w0.cell? ⟨w.heap.size + 1, 0, none⟩ = some (vi last) := by rw [← hW]; simp [go_sem]
  have m1 : w0.cell? ⟨w.heap.size + 1, 1, none⟩ = some (.slice b1 n1 d1) := by rw [← hW]; simp [go_sem]
  have m2 : w0.cell? ⟨w.heap.size + 1, 2, none⟩ = some (.slice b2 n2 d2) := by rw [← hW]; simp [go_sem]
  have hx : Ext w w0 := by rw [← hW]; exact (by simp (maxDischargeDepth := 60))
  have HX := Lib.hid hx
  have G1 := Lib.hid (Sl.below F1.out hx.below)
  have G2 := Lib.hid (Sl.below F2.out hx.below)
  have G3 := Lib.hid (Sl.below F3.out hx.below)
  have G4 := Lib.hid (Sl.below F4.out hx.below)
  have z1 := cell_lt k0
  have z2 := cell_lt m0
  clear hW hx F1 F2 F3 F4
  go_wp2
  go_loopw [5] (fun i wr => ∃ k : Nat, k ≤ n1 ∧ i = .int .i64 k ∧ Ext w0 wr) (fun i _ => n1 - (intOf i).toNat)
  case atStart => exact ⟨0, by omega, rfl, (by simp (maxDischargeDepth := 60))⟩
  case round =>
    obtain ⟨k, hk, rfl, o, m, rfl⟩ := hrel
    by_cases hlt : k < n1
    · obtain ⟨p1, o1, u1, rfl, x1, g1⟩ := G1.out.get hlt
      obtain ⟨p2, o2, u2, rfl, x2, g2⟩ := G3.out.get hlt
      have d1 := at8 g1
      have d2 := at8 g2
      have y1 := cell_lt d1.1
      have y2 := cell_lt d2.1
      obtain ⟨t, ⟨ci, ⟨cx, cy, cz⟩⟩, ⟨h0, h1, h2⟩⟩ := u1
      obtain ⟨t', ⟨ci', ⟨cx', cy', cz'⟩⟩, ⟨h0', h1', h2'⟩⟩ := u2
      dsimp only at d1 d2
      have hkj : (k : Int) < (n1 : Int) := by omega
      clear g1 g2 x1 x2
      cases hb : decide ((⟨t, ⟨ci, ⟨cx, cy, cz⟩⟩, ⟨h0, h1, h2⟩⟩ : Ch.Stay) = ⟨t', ⟨ci', ⟨cx', cy', cz'⟩⟩, ⟨h0', h1', h2'⟩⟩)
      · have hq : ∀ w, (Go.binOp .neq 60 (.agg #[vi t, vi ci, vi cx, vi cy, vi cz, vi h0, vi h1, vi h2]) (.agg #[vi t', vi ci', vi cx', vi cy', vi cz', vi h0', vi h1', vi h2'])).run Tryd.prog w = .ok (.bool true) w := fun w => by
          rw [neqStruct w (eqStay w 9996 ⟨t, ⟨ci, ⟨cx, cy, cz⟩⟩, ⟨h0, h1, h2⟩⟩ ⟨t', ⟨ci', ⟨cx', cy', cz'⟩⟩, ⟨h0', h1', h2'⟩⟩), hb]; rfl
        clear hb
        go_upto_region 6 with fail
        (refine wp_region_ext (by kernel_rfl) (by kernel_rfl) ?_; (repeat (first | go_big_quiet_step (fail) | quiet_step (fail))); refine wpQuiet_nil ?_; intro _ hw'; obtain ⟨oq, nq, hw''⟩ := hw'; subst hw'')
        go_wp2
        go_ret
        exact ⟨⟨_, rfl⟩, HX.out.trans (by simp (maxDischargeDepth := 60))⟩
      · have hq : ∀ w, (Go.binOp .neq 60 (.agg #[vi t, vi ci, vi cx, vi cy, vi cz, vi h0, vi h1, vi h2]) (.agg #[vi t', vi ci', vi cx', vi cy', vi cz', vi h0', vi h1', vi h2'])).run Tryd.prog w = .ok (.bool false) w := fun w => by
          rw [neqStruct w (eqStay w 9996 ⟨t, ⟨ci, ⟨cx, cy, cz⟩⟩, ⟨h0, h1, h2⟩⟩ ⟨t', ⟨ci', ⟨cx', cy', cz'⟩⟩, ⟨h0', h1', h2'⟩⟩), hb]; rfl
        clear hb
        go_upto_region 6 with fail
        (refine wp_region_ext (by kernel_rfl) (by kernel_rfl) ?_; (repeat (first | go_big_quiet_step (fail) | quiet_step (fail))); refine wpQuiet_nil ?_; intro _ hw'; obtain ⟨oq, nq, hw''⟩ := hw'; subst hw'')
        go_wp2
        go_roundw
        case rel => exact ⟨k + 1, by omega, by go_num, (by simp (maxDischargeDepth := 60))⟩
        case measure => simp [intOf]; omega
    · have hkn : k = n1 := by omega
      subst hkn
      go_wp2
      go_loopw [6] (fun i wr => ∃ k : Nat, k ≤ n2 ∧ i = .int .i64 k ∧ Ext w0 wr) (fun i _ => n2 - (intOf i).toNat)
      case atStart => exact ⟨0, by omega, rfl, (by simp (maxDischargeDepth := 60))⟩
      case round =>
        obtain ⟨j, hj, rfl, o', m', rfl⟩ := hrel
        by_cases hlt : j < n2
        · obtain ⟨p1, o1, u1, rfl, x1, g1⟩ := G2.out.get hlt
          obtain ⟨p2, o2, u2, rfl, x2, g2⟩ := G4.out.get hlt
          have d1 := at2 g1
          have d2 := at2 g2
          have y1 := cell_lt d1.1
          have y2 := cell_lt d2.1
          obtain ⟨t, f⟩ := u1
          obtain ⟨t', f'⟩ := u2
          dsimp only at d1 d2
          have hkj : (j : Int) < (n2 : Int) := by omega
          clear g1 g2 x1 x2
          cases hb : decide ((⟨t, f⟩ : Ch.Job) = ⟨t', f'⟩)
          · have hq : ∀ w, (Go.binOp .neq 62 (.agg #[vi t, .bool f]) (.agg #[vi t', .bool f'])).run Tryd.prog w = .ok (.bool true) w := fun w => by
              rw [neqStruct w (eqJob w 9998 ⟨t, f⟩ ⟨t', f'⟩), hb]; rfl
            clear hb
            go_upto_region 11 with fail
            (refine wp_region_ext (by kernel_rfl) (by kernel_rfl) ?_; (repeat (first | go_big_quiet_step (fail) | quiet_step (fail))); refine wpQuiet_nil ?_; intro _ hw'; obtain ⟨oq, nq, hw''⟩ := hw'; subst hw'')
            go_wp2
            go_ret
            exact ⟨⟨_, rfl⟩, HX.out.trans (by simp (maxDischargeDepth := 60))⟩
          · have hq : ∀ w, (Go.binOp .neq 62 (.agg #[vi t, .bool f]) (.agg #[vi t', .bool f'])).run Tryd.prog w = .ok (.bool false) w := fun w => by
              rw [neqStruct w (eqJob w 9998 ⟨t, f⟩ ⟨t', f'⟩), hb]; rfl
            clear hb
            go_upto_region 11 with fail
            (refine wp_region_ext (by kernel_rfl) (by kernel_rfl) ?_; (repeat (first | go_big_quiet_step (fail) | quiet_step (fail))); refine wpQuiet_nil ?_; intro _ hw'; obtain ⟨oq, nq, hw''⟩ := hw'; subst hw'')
            go_wp2
            go_roundw
            case rel => exact ⟨j + 1, by omega, by go_num, (by simp (maxDischargeDepth := 60))⟩
            case measure => simp [intOf]; omega
        · have hjn : j = n2 := by omega
          subst hjn
          go_wp2
          go_ret
          exact ⟨⟨_, rfl⟩, HX.out.trans (by simp (maxDischargeDepth := 60))⟩
end Go.Proofs.YtplomeacjbkgnacDoor

namespace Go.Proofs.YtplomeacjbkgnacDoor
open Go.ChangeShapes Go.WideShapes Go.ChangeAt Go.RowKit

/-- these cells read as data of type t -/
def Rd {H : Type} (enc : TypeId × Value → H) (P : Program) (w : World) (t : TypeId) (cs : List Value) : Prop := ∃ fuel x, DataW.trod enc P w 0 (fun _ => true) true fuel t cs = some x

section
variable {H : Type} {enc : TypeId × Value → H} {P : Program} {w : World}

theorem rd_int {t : TypeId} {cs : List Value} (ht : P.underlying t = some (.int .i64)) (h : Rd enc P w t cs) : ∃ n, cs = [vi n] ∧ I64 n := by
  obtain ⟨fuel, x, hx⟩ := h
  obtain ⟨n, rfl, _, hw⟩ := DataW.trod_int ht hx
  refine ⟨n, rfl, ?_⟩
  simp only [Lit.wf, Bool.and_eq_true, decide_eq_true_eq] at hw
  unfold I64
  simp [IntKind.min, IntKind.max, IntKind.signed, IntKind.bits] at hw
  omega

theorem rd_bool {t : TypeId} {cs : List Value} (ht : P.underlying t = some .bool) (h : Rd enc P w t cs) : ∃ b, cs = [.bool b] := by
  obtain ⟨fuel, x, hx⟩ := h
  obtain ⟨b, rfl, _⟩ := DataW.trod_bool ht hx
  exact ⟨b, rfl⟩

theorem rd_string {t : TypeId} {cs : List Value} (ht : P.underlying t = some .string) (h : Rd enc P w t cs) : ∃ s : ByteArray, cs = [.string s] ∧ s.size ≤ maxLen := by
  obtain ⟨fuel, x, hx⟩ := h
  obtain ⟨b, rfl, _, hb⟩ := DataW.trod_string ht hx
  exact ⟨b, rfl, hb⟩

/-- a struct: its fields' cells, one behind the other -/
theorem rd_struct {t : TypeId} {cs : List Value} (fs : List (TypeId × Nat × Nat)) (n : Nat) (ht : P.underlying t = some (.struct (P.fieldsOf t))) (hf : (P.fieldsOf t).toList.map (fun f => (f.type, f.offset, P.cellsOf f.type)) = fs) (hn : P.cellsOf t = n)
    (h : Rd enc P w t cs) : cs.length = n ∧ ∀ f ∈ fs, Rd enc P w f.1 ((cs.drop f.2.1).take f.2.2) := by
  obtain ⟨fuel, x, hx⟩ := h
  obtain ⟨xs, m, rfl, _, hl, hxs, he⟩ := DataW.trod_struct ht hx
  refine ⟨by rw [hl, hn], ?_⟩
  intro f hm
  rw [← hf, List.mem_map] at hm
  obtain ⟨g, hg, rfl⟩ := hm
  obtain ⟨i, hi, hgi⟩ := List.getElem_of_mem hg
  have hi' : (P.fieldsOf t)[i]? = some g := by
    rw [← Array.getElem?_toList, List.getElem?_eq_getElem hi, hgi]
  have := he i g hi'
  have hlt : i < xs.length := by rw [hxs]; simpa using hi
  rw [List.getElem?_eq_getElem hlt] at this
  exact ⟨m, _, this⟩

/-- a slice: its elements' cells -/
theorem rd_slice {t e : TypeId} {cs : List Value} {c : Nat} (ht : P.underlying t = some (.slice e)) (hc : P.cellsOf e = c) (h : Rd enc P w t cs) :
    ∃ a len cap, cs = [.slice a len cap] ∧ len ≤ cap ∧ cap ≤ maxLen ∧ (a = none → len = 0 ∧ cap = 0) ∧
      ∀ ad, a = some ad → ∀ i, i < len → ∃ ecs : List Value, ecs.length = c ∧ Rd enc P w e ecs ∧ ∀ j y, ecs[j]? = some y → w.cell? ((ad.add (i * c)).add j) = some y := by
  obtain ⟨fuel, x, hx⟩ := h
  subst hc
  rcases DataW.trod_slice ht hx with ⟨rfl, _⟩ | ⟨a, len, cap, elems, rest, n, rfl, rfl, _, _, hl, hcap, hel, hat, _⟩
  · exact ⟨none, 0, 0, rfl, Nat.le_refl _, Nat.zero_le _, fun _ => ⟨rfl, rfl⟩, fun _ h => by cases h⟩
  · refine ⟨some a, len, cap, rfl, hl, hcap, (fun h => by cases h), ?_⟩
    intro ad had i hi
    cases had
    have hh := hat i hi
    have hlt : i < elems.length := by omega
    rw [List.getElem?_eq_getElem hlt] at hh
    simp only [Option.bind_eq_some_iff] at hh
    obtain ⟨ecs, h1, h2⟩ := hh
    obtain ⟨_, h3, h4⟩ := World.cells?_some h1
    refine ⟨ecs, h3, ⟨n, _, h2⟩, fun j y hy => ?_⟩
    have hj : j < ecs.length := by
      by_cases hj : j < ecs.length
      · exact hj
      · rw [List.getElem?_eq_none (by omega)] at hy; cases hy
    rw [h4 j (by omega), hy]
end

theorem add_add (a : Addr) (m n : Nat) (h : a.spot = none) : (a.add m).add n = ⟨a.block, a.off + m + n, none⟩ := by
  obtain ⟨b, o, s⟩ := a
  simp only at h
  subst h
  unfold Addr.add
  by_cases hm : m = 0 <;> by_cases hn : n = 0 <;> simp [hm, hn]

/-- a slice of structs, as a list -/
theorem rd_list {H : Type} {enc : TypeId × Value → H} {P : Program} {w : World} {α : Type} {t e : TypeId} {cs : List Value} {c : Nat} (cells : α → List Value) (good : α → Prop) (hc0 : 0 < c) (hlen : ∀ x, (cells x).length = c)
    (ht : P.underlying t = some (.slice e)) (hc : P.cellsOf e = c)
    (he : ∀ ecs, Rd enc P w e ecs → ∃ x : α, ecs = cells x ∧ good x) (h : Rd enc P w t cs) :
    ∃ l a n cap, cs = [.slice a n cap] ∧ Sl w c cells l a n cap ∧ ∀ x ∈ l, good x := by
  obtain ⟨a, len, cap, rfl, h1, h2, h3, h4⟩ := rd_slice ht hc h
  cases a with
  | none =>
    obtain ⟨rfl, rfl⟩ := h3 rfl
    exact ⟨[], none, 0, 0, rfl, Sl.nil w c cells, by simp⟩
  | some ad =>
    have key : ∀ m, m ≤ len → ∃ l : List α, l.length = m ∧ (∀ x ∈ l, good x) ∧ ∀ i x, l[i]? = some x → ∀ j y, (cells x)[j]? = some y → w.cell? ((ad.add (i * c)).add j) = some y := by
      intro m
      induction m with
      | zero => intro _; exact ⟨[], rfl, by simp, by intro i x hx; simp at hx⟩
      | succ m ih =>
        intro hm
        obtain ⟨l, hl, hg, hx⟩ := ih (by omega)
        obtain ⟨ecs, hel, hrd, hcell⟩ := h4 ad rfl m (by omega)
        obtain ⟨x, rfl, hgx⟩ := he ecs hrd
        refine ⟨l ++ [x], by simp [hl], by intro y hy; simp at hy; rcases hy with hy | rfl; exact hg y hy; exact hgx, ?_⟩
        intro i y hy j z hz
        by_cases hi : i < l.length
        · rw [List.getElem?_append_left hi] at hy
          exact hx i y hy j z hz
        · rw [List.getElem?_append_right (by omega)] at hy
          have : i - l.length = 0 := by
            by_cases h0 : i - l.length = 0
            · exact h0
            · rw [List.getElem?_eq_none (by simp; omega)] at hy; cases hy
          rw [this] at hy
          simp at hy
          subst hy
          have hi2 : i = m := by omega
          subst hi2
          exact hcell j z hz
    obtain ⟨l, hl, hg, hx⟩ := key len (Nat.le_refl _)
    have hspot : 0 < len → ad.spot = none := by
      intro hlen0
      have hl0 : 0 < l.length := by omega
      have h0 := hx 0 (l[0]) (by simp) 0 ((cells l[0])[0]'(by rw [hlen]; exact hc0)) (by simp)
      simp only [Nat.zero_mul, Addr.add, if_true] at h0
      obtain ⟨b, o, s⟩ := ad
      cases s with
      | none => rfl
      | some s => simp [World.cell?] at h0; split at h0 <;> simp at h0
    refine ⟨l, some ad, len, cap, rfl, ⟨hl, h1, h2, fun h0 => ⟨ad.block, ad.off, ?_, ?_⟩⟩, hg⟩
    · have := hspot h0
      cases ad; simp at this ⊢; exact this
    · intro i x hix j y hy
      have := hx i x hix j y hy
      rw [add_add _ _ _ (hspot h0)] at this
      exact this

/-! ### the types of this program -/
section
variable {H : Type} {enc : TypeId × Value → H} {w : World}

def I64S (s : Ch.Size) : Prop := I64 s.long ∧ I64 s.high ∧ I64 s.heavy

def I64C (c : Ch.Car) : Prop := I64 c.id ∧ I64S c.size

def I64P (p : Ch.Place) : Prop := I64 p.level ∧ I64 p.side ∧ I64 p.depth

def I64Y (s : Ch.Stay) : Prop := I64 s.ticket ∧ I64C s.car ∧ I64P s.home

def I64J (j : Ch.Job) : Prop := I64 j.ticket

theorem take_drop_cons {α : Type} {l : List α} {n : Nat} {x : α} (h : (l.drop n).take 1 = [x]) : l[n]? = some x := by
  have : ((l.drop n).take 1)[0]? = some x := by rw [h]; rfl
  simpa using this

theorem list3 {l : List Value} {a b c : Value} (hl : l.length = 3) (h0 : (l.drop 0).take 1 = [a]) (h1 : (l.drop 1).take 1 = [b]) (h2 : (l.drop 2).take 1 = [c]) : l = [a, b, c] := by
  match l, hl with
  | [x, y, z], _ => simp at h0 h1 h2; simp [h0, h1, h2]

theorem rd_size {cs : List Value} (h : Rd enc Tryd.prog w 45 cs) : ∃ s : Ch.Size, cs = sizeCells s ∧ I64S s := by
  obtain ⟨hl, hf⟩ := rd_struct [(3, 0, 1), (3, 1, 1), (3, 2, 1)] 3 (by kernel_rfl) (by kernel_rfl) (by kernel_rfl) h
  obtain ⟨a, ha, wa⟩ := rd_int Tryd.underlying3 (hf (3, 0, 1) (by simp))
  obtain ⟨b, hb, wb⟩ := rd_int Tryd.underlying3 (hf (3, 1, 1) (by simp))
  obtain ⟨c, hc, wc⟩ := rd_int Tryd.underlying3 (hf (3, 2, 1) (by simp))
  exact ⟨⟨a, b, c⟩, list3 hl ha hb hc, wa, wb, wc⟩

theorem rd_place {cs : List Value} (h : Rd enc Tryd.prog w 58 cs) : ∃ p : Ch.Place, cs = placeCells p ∧ I64P p := by
  obtain ⟨hl, hf⟩ := rd_struct [(3, 0, 1), (3, 1, 1), (3, 2, 1)] 3 (by kernel_rfl) (by kernel_rfl) (by kernel_rfl) h
  obtain ⟨a, ha, wa⟩ := rd_int Tryd.underlying3 (hf (3, 0, 1) (by simp))
  obtain ⟨b, hb, wb⟩ := rd_int Tryd.underlying3 (hf (3, 1, 1) (by simp))
  obtain ⟨c, hc, wc⟩ := rd_int Tryd.underlying3 (hf (3, 2, 1) (by simp))
  exact ⟨⟨a, b, c⟩, list3 hl ha hb hc, wa, wb, wc⟩


theorem rd_job {cs : List Value} (h : Rd enc Tryd.prog w 62 cs) : ∃ j : Ch.Job, cs = jobCells j ∧ I64J j := by
  obtain ⟨hl, hf⟩ := rd_struct [(3, 0, 1), (4, 1, 1)] 2 (by kernel_rfl) (by kernel_rfl) (by kernel_rfl) h
  obtain ⟨a, ha, wa⟩ := rd_int Tryd.underlying3 (hf (3, 0, 1) (by simp))
  obtain ⟨b, hb⟩ := rd_bool Tryd.underlying4 (hf (4, 1, 1) (by simp))
  refine ⟨⟨a, b⟩, ?_, wa⟩
  match cs, hl with
  | [x, y], _ => simp at ha hb; simp [jobCells, ha, hb]

theorem rd_car {cs : List Value} (h : Rd enc Tryd.prog w 47 cs) : ∃ c : Ch.Car, cs = carCells c ∧ I64C c := by
  obtain ⟨hl, hf⟩ := rd_struct [(3, 0, 1), (45, 1, 3)] 4 (by kernel_rfl) (by kernel_rfl) (by kernel_rfl) h
  obtain ⟨a, ha, wa⟩ := rd_int Tryd.underlying3 (hf (3, 0, 1) (by simp))
  obtain ⟨s, hs, ws⟩ := rd_size (hf (45, 1, 3) (by simp))
  refine ⟨⟨a, s⟩, ?_, wa, ws⟩
  match cs, hl with
  | [x, y, z, u], _ => simp [sizeCells] at ha hs; simp [carCells, ha, hs]

theorem rd_stay {cs : List Value} (h : Rd enc Tryd.prog w 60 cs) : ∃ s : Ch.Stay, cs = stayCells s ∧ I64Y s := by
  obtain ⟨hl, hf⟩ := rd_struct [(3, 0, 1), (47, 1, 4), (58, 5, 3)] 8 (by kernel_rfl) (by kernel_rfl) (by kernel_rfl) h
  obtain ⟨a, ha, wa⟩ := rd_int Tryd.underlying3 (hf (3, 0, 1) (by simp))
  obtain ⟨c, hc, wc⟩ := rd_car (hf (47, 1, 4) (by simp))
  obtain ⟨p, hp, wp⟩ := rd_place (hf (58, 5, 3) (by simp))
  refine ⟨⟨a, c, p⟩, ?_, wa, wc, wp⟩
  match cs, hl with
  | [x0, x1, x2, x3, x4, x5, x6, x7], _ => simp [carCells, placeCells] at ha hc hp; simp [stayCells, ha, hc, hp]

end

/-- an argument that is a struct -/
theorem arg_struct {P : Program} {w : World} {r : Reach} {b0 : Nat} {t : TypeId} {v : Value} {cs : List Value} (ht : P.underlying t = some (.struct (P.fieldsOf t))) (hv : Value.okWide P w r b0 t v) (h : v.cells.toList = cs) : v = .agg cs.toArray := by
  simp only [Value.okWide, ht] at hv
  obtain ⟨ds, rfl, _, _⟩ := hv
  subst h
  simp [Value.cells]

/-- an argument's cells -/
theorem rd_of_trod {H : Type} {enc : TypeId × Value → H} {P : Program} {w : World} {t : TypeId} {v : Value} {d : DataW H} {p : List MemPlace} (h : DataW.Trod enc P w 0 (fun _ => true) true t v d p) : Rd enc P w t v.cells.toList := by
  obtain ⟨fuel, hf⟩ := h
  exact ⟨fuel, _, hf⟩
end Go.Proofs.YtplomeacjbkgnacDoor

namespace Go.Proofs.YtplomeacjbkgnacDoor
open Go.ChangeShapes Go.WideShapes Go.ChangeAt Go.RowKit

/-- an act as it lies in memory: its book by its headers -/
structure RAct where
  kind : ByteArray
  a : Int
  b : Int
  car : Ch.Car
  s : ByteArray
  k : Int
  last : Int
  a1 : Option Addr
  n1 : Nat
  c1 : Nat
  a2 : Option Addr
  n2 : Nat
  c2 : Nat

def ractCells (x : RAct) : List Value := [.string x.kind, vi x.a, vi x.b, vi x.car.id, vi x.car.size.long, vi x.car.size.high, vi x.car.size.heavy, .string x.s, .int .u64 x.k, vi x.last, .slice x.a1 x.n1 x.c1, .slice x.a2 x.n2 x.c2]

/-- the act, without its book -/
def RAct.act (x : RAct) : Ch.Act := ⟨x.kind, x.a, x.b, x.car, x.s, x.k, ⟨x.last, [], []⟩⟩

structure RAct.Good (x : RAct) : Prop where
  kind : x.kind.size ≤ maxLen
  s : x.s.size ≤ maxLen
  a : I64 x.a
  b : I64 x.b
  car : I64C x.car
  last : I64 x.last
  k0 : 0 ≤ x.k
  k1 : x.k < 18446744073709551616
  l1 : x.n1 ≤ x.c1 ∧ x.c1 ≤ maxLen
  l2 : x.n2 ≤ x.c2 ∧ x.c2 ≤ maxLen

section
variable {H : Type} {enc : TypeId × Value → H} {w : World}

theorem rd_u64 {P : Program} {t : TypeId} {cs : List Value} (ht : P.underlying t = some (.int .u64)) (h : Rd enc P w t cs) : ∃ n, cs = [.int .u64 n] ∧ 0 ≤ n ∧ n < 18446744073709551616 := by
  obtain ⟨fuel, x, hx⟩ := h
  obtain ⟨n, rfl, _, hw⟩ := DataW.trod_int ht hx
  refine ⟨n, rfl, ?_⟩
  simp only [Lit.wf, Bool.and_eq_true, decide_eq_true_eq] at hw
  simp [IntKind.min, IntKind.max, IntKind.signed, IntKind.bits] at hw
  omega

theorem rd_act {cs : List Value} (h : Rd enc Tryd.prog w 49 cs) : ∃ x : RAct, cs = ractCells x ∧ x.Good := by
  obtain ⟨hl, hf⟩ := rd_struct [(9, 0, 1), (3, 1, 1), (3, 2, 1), (47, 3, 4), (9, 7, 1), (36, 8, 1), (25, 9, 3)] 12 (by kernel_rfl) (by kernel_rfl) (by kernel_rfl) h
  obtain ⟨kd, h0, g0⟩ := rd_string (by kernel_rfl) (hf (9, 0, 1) (by simp))
  obtain ⟨a, h1, g1⟩ := rd_int Tryd.underlying3 (hf (3, 1, 1) (by simp))
  obtain ⟨b, h2, g2⟩ := rd_int Tryd.underlying3 (hf (3, 2, 1) (by simp))
  obtain ⟨c, h3, g3⟩ := rd_car (hf (47, 3, 4) (by simp))
  obtain ⟨s, h4, g4⟩ := rd_string (by kernel_rfl) (hf (9, 7, 1) (by simp))
  obtain ⟨k, h5, g5, g5'⟩ := rd_u64 (by kernel_rfl) (hf (36, 8, 1) (by simp))
  obtain ⟨hl', hf'⟩ := rd_struct [(3, 0, 1), (22, 1, 1), (23, 2, 1)] 3 (by kernel_rfl) (by kernel_rfl) (by kernel_rfl) (hf (25, 9, 3) (by simp))
  obtain ⟨l, h6, g6⟩ := rd_int Tryd.underlying3 (hf' (3, 0, 1) (by simp))
  obtain ⟨a1, n1, c1, h7, g7, g7', _⟩ := rd_slice Tryd.underlying22 rfl (hf' (22, 1, 1) (by simp))
  obtain ⟨a2, n2, c2, h8, g8, g8', _⟩ := rd_slice Tryd.underlying23 rfl (hf' (23, 2, 1) (by simp))
  refine ⟨⟨kd, a, b, c, s, k, l, a1, n1, c1, a2, n2, c2⟩, ?_, ⟨g0, g4, g1, g2, g3, g6, g5, g5', ⟨g7, g7'⟩, ⟨g8, g8'⟩⟩⟩
  match cs, hl with
  | [x0, x1, x2, x3, x4, x5, x6, x7, x8, x9, x10, x11], _ => simp [carCells] at h0 h1 h2 h3 h4 h5 h6 h7 h8; simp [ractCells, h0, h1, h2, h3, h4, h5, h6, h7, h8]
end

theorem at12 {w : World} {b p : Nat} {x0 x1 x2 x3 x4 x5 x6 x7 x8 x9 x10 x11 : Value} (h : ∀ j y, ([x0, x1, x2, x3, x4, x5, x6, x7, x8, x9, x10, x11] : List Value)[j]? = some y → w.cell? ⟨b, p + j, none⟩ = some y) :
    w.cell? ⟨b, p, none⟩ = some x0 ∧ w.cell? ⟨b, p + 1, none⟩ = some x1 ∧ w.cell? ⟨b, p + 2, none⟩ = some x2 ∧ w.cell? ⟨b, p + 3, none⟩ = some x3 ∧
    w.cell? ⟨b, p + 4, none⟩ = some x4 ∧ w.cell? ⟨b, p + 5, none⟩ = some x5 ∧ w.cell? ⟨b, p + 6, none⟩ = some x6 ∧ w.cell? ⟨b, p + 7, none⟩ = some x7 ∧
    w.cell? ⟨b, p + 8, none⟩ = some x8 ∧ w.cell? ⟨b, p + 9, none⟩ = some x9 ∧ w.cell? ⟨b, p + 10, none⟩ = some x10 ∧ w.cell? ⟨b, p + 11, none⟩ = some x11 :=
  ⟨h 0 _ rfl, h 1 _ rfl, h 2 _ rfl, h 3 _ rfl, h 4 _ rfl, h 5 _ rfl, h 6 _ rfl, h 7 _ rfl, h 8 _ rfl, h 9 _ rfl, h 10 _ rfl, h 11 _ rfl⟩

/-- a list of acts is light, or not: it is told -/
def Told (w : World) (e : Ending) (w' : World) : Prop := ∃ b, e = .returned (.bool b) ∧ Ext w w'

set_option maxRecDepth 100000 in
set_option maxHeartbeats 2000000 in
theorem lightActs_any (m : Int) (a : Option Addr) (n cap : Nat) (l : List RAct) (w : World) (h : Sl w 12 ractCells l a n cap) (hg : ∀ x ∈ l, x.Good) :
    Calls Tryd.prog 12 #[.slice a n cap, vi m] w (Told w) := by
  have hb := h.bound
  have HS := Lib.hid h
  have HG := Lib.hid hg
  clear h hg
  go_enter Tryd.func12, Tryd.ntmps12
  go_wp2
  · go_ret
    exact ⟨_, rfl, (by simp (maxDischargeDepth := 60))⟩
  · go_loop [5] (fun i => ∃ k : Nat, k ≤ n ∧ i = .int .i64 k) (fun i => n - (intOf i).toNat)
    case atStart => exact ⟨0, by omega, rfl⟩
    case round =>
      obtain ⟨k, hk, rfl⟩ := hrel
      by_cases hlt : k < n
      · obtain ⟨b, q, x, rfl, hx, dx⟩ := HS.out.get hlt
        have dx := at12 dx
        have gx := HG.out x (List.mem_of_getElem? hx)
        have l1 := gx.s
        have l2 := gx.l1
        have l3 := gx.l2
        unfold maxLen at l1 l2 l3
        clear gx hx
        go_wp2
        all_goals
          first
          | (go_ret; exact ⟨_, rfl, (by simp (maxDischargeDepth := 60))⟩)
          | (go_round
             case rel => exact ⟨k + 1, by omega, by go_num⟩
             case measure => simp [intOf]; omega)
      · go_wp2
        go_ret
        exact ⟨_, rfl, (by simp (maxDischargeDepth := 60))⟩

end Go.Proofs.YtplomeacjbkgnacDoor

namespace Go.Proofs.YtplomeacjbkgnacDoor
open Go.RowKit

/-- a list of acts is light, or not: it is told; a light one is short -/
def ToldN (w : World) (n : Nat) (m : Int) (e : Ending) (w' : World) : Prop := ∃ b, e = .returned (.bool b) ∧ (b = true → (n : Int) ≤ m) ∧ Ext w w'

set_option maxRecDepth 100000 in
set_option maxHeartbeats 2000000 in
theorem lightActs_len (m : Int) (a : Option Addr) (n cap : Nat) (l : List RAct) (w : World) (h : Sl w 12 ractCells l a n cap) (hg : ∀ x ∈ l, x.Good) :
    Calls Tryd.prog 12 #[.slice a n cap, vi m] w (ToldN w n m) := by
  by_cases hm : (n : Int) ≤ m
  · refine (lightActs_any m a n cap l w h hg).mono ?_
    rintro e w' ⟨b, rfl, hx⟩
    exact ⟨b, rfl, fun _ => hm, hx⟩
  · have hm' : m < (n : Int) := by omega
    clear h hg hm
    go_enter Tryd.func12, Tryd.ntmps12
    go_wp2
    go_ret
    exact ⟨false, rfl, (fun h => by cases h), (by simp (maxDischargeDepth := 60))⟩

end Go.Proofs.YtplomeacjbkgnacDoor
