/-
  The walks of package plant: cars are grabbed, and put down.
-/
import Derived.Test.YtplomeacjbkgnaaPlantDo
import Derived.RegionTactic
import Derived.BigRegion
namespace Go.Proofs.Ytplomeacjbkgnaa
open Go.RowKit

theorem PlantAt.map {w : World} {pb mb : Nat} {p : Ch.Plant} (h : PlantAt w pb mb p) {l : List Slot} {clock : Nat} {f : Ch.Place → Int} (hs : Slots (ChangeMaps.setBlock w mb (.map (l.map ent).toArray clock)) mb l clock f) :
    PlantAt (ChangeMaps.setBlock w mb (.map (l.map ent).toArray clock)) pb mb { p with slots := f } := by
  refine ⟨?_, l, clock, hs⟩
  have : mb ≠ pb := fun e => h.ne e.symm
  simp only [ChangeMaps.setBlock]
  rw [Array.getElem?_setIfInBounds_ne this]
  exact h.blk

theorem grab_none {p : Ch.Plant} (h : p.place p.ext = none) : p.grab = p := by unfold Ch.Plant.grab; rw [h]

theorem grab_not {p : Ch.Plant} {x : Ch.Place} (h : p.place p.ext = some x) (hn : p.lift ≠ 0 ∨ p.slots x = 0) : p.grab = p := by
  unfold Ch.Plant.grab; rw [h]; dsimp only; rw [if_neg (by omega)]

theorem grab_yes {p : Ch.Plant} {x : Ch.Place} (h : p.place p.ext = some x) (hl : p.lift = 0) (hn : p.slots x ≠ 0) : p.grab = { p with lift := p.slots x, slots := Ch.setSlot p.slots x 0 } := by
  unfold Ch.Plant.grab; rw [h]; dsimp only; rw [if_pos ⟨hl, hn⟩]

set_option maxRecDepth 100000 in
set_option maxHeartbeats 2000000 in
theorem grab_any {pb mb : Nat} {p : Ch.Plant} {w : World} (h : PlantAt w pb mb p) (hp : p.WF) :
    Calls Try.prog 146 #[.pointer (some ⟨pb, 0, none⟩)] w (Did pb mb w p.grab (.tuple #[])) := by
  obtain ⟨c0, c1, c2, c3, c4, c5, c6, c7, c8, c9⟩ := h.cells
  have hb := cell_lt c1
  have HP := Lib.hid h
  have fz := block_free h.blk
  have h1 := hp.ht1
  have h2 : p.height ≤ 12 := by have := hp.ht2; have := hp.lv2; omega
  have h3 := hp.ex1
  have h4 := hp.ex2
  clear h
  cases hx : placeAt p.height p.ext with
  | none =>
    have HX := Lib.hid hx
    have HG : Hid (p.grab = p) := by unfold Hid; exact grab_none hx
    clear hx
    go_enter Try.func146, Try.ntmps146
    go_wp2_with (go_at_call 158; (with_reducible refine (at_none _ _ _ _ (by assumption) (by omega) (by omega) (by omega) (by omega) HX.out).mono ?_); rintro e w1 ⟨rfl, o1, n1, rfl⟩)
    (refine wp_region_ext (by kernel_rfl) (by kernel_rfl) ?_; (repeat (first | go_big_quiet_step (fail) | quiet_step (fail))); refine wpQuiet_nil ?_; intro _ hw'; obtain ⟨oq, nq, hw''⟩ := hw'; subst hw'')
    go_wp2
    go_end0
    rw [HG.out]
    exact ⟨rfl, HP.out.ext (by simp (maxDischargeDepth := 60)), Kept.of_ext (by simp (maxDischargeDepth := 60))⟩
  | some x =>
    obtain ⟨a, b, c⟩ := x
    have HX := Lib.hid hx
    have hl : ∀ o1 n1 o n, (Instr.lookup 163 (.map (some mb)) (.agg #[vi a, vi b, vi c]) false).run Try.prog (World.plus ((w.plus o1 n1).alloc (.cells #[vi a, vi b, vi c] 23)) o n) = .ok (vi (p.slots ⟨a, b, c⟩)) (World.plus ((w.plus o1 n1).alloc (.cells #[vi a, vi b, vi c] 23)) o n) := fun o1 n1 o n => by
      obtain ⟨l, k, hs⟩ := (HP.out.ext (w' := World.plus ((w.plus o1 n1).alloc (.cells #[vi a, vi b, vi c] 23)) o n) (by simp (maxDischargeDepth := 60))).slots
      exact hs.look ⟨a, b, c⟩
    by_cases g1 : p.lift = 0
    · have e1 : (p.lift == 0) = true := by simpa using g1
      by_cases g2 : p.slots ⟨a, b, c⟩ = 0
      · have e2 : (p.slots ⟨a, b, c⟩ != 0) = false := by simpa using g2
        have HG : Hid (p.grab = p) := by unfold Hid; exact grab_not hx (Or.inr g2)
        clear hx g1 g2
        go_enter Try.func146, Try.ntmps146
        go_wp2_with (go_at_call 158; (with_reducible refine (at_some _ _ _ a b c _ (by assumption) (by omega) (by omega) (by omega) (by omega) HX.out).mono ?_); rintro e w1 ⟨rfl, o1, n1, rfl⟩)
        (refine wp_region_ext (by kernel_rfl) (by kernel_rfl) ?_; (repeat (first | go_big_quiet_step (fail) | quiet_step (fail))); refine wpQuiet_nil ?_; intro _ hw'; obtain ⟨oq, nq, hw''⟩ := hw'; subst hw'')
        go_wp2
        go_end0
        rw [HG.out]
        exact ⟨rfl, HP.out.ext (by simp (maxDischargeDepth := 60)), Kept.of_ext (by simp (maxDischargeDepth := 60))⟩
      · have e2 : (p.slots ⟨a, b, c⟩ != 0) = true := by simpa using g2
        have HG : Hid (p.grab = { p with lift := p.slots ⟨a, b, c⟩, slots := Ch.setSlot p.slots ⟨a, b, c⟩ 0 }) := by unfold Hid; exact grab_yes hx g1 g2
        clear hx g1 g2
        go_enter Try.func146, Try.ntmps146
        go_wp2_with (go_at_call 158; (with_reducible refine (at_some _ _ _ a b c _ (by assumption) (by omega) (by omega) (by omega) (by omega) HX.out).mono ?_); rintro e w1 ⟨rfl, o1, n1, rfl⟩)
        (refine wp_region_ext (by kernel_rfl) (by kernel_rfl) ?_; (repeat (first | go_big_quiet_step (fail) | quiet_step (fail))); refine wpQuiet_nil ?_; intro _ hw'; obtain ⟨oq, nq, hw''⟩ := hw'; subst hw'')
        go_wp2
        (refine wp_region_tail_ext 9 (by kernel_rfl) (by kernel_rfl) ?_; (simp only [List.take_succ_cons, List.take_zero, List.drop_succ_cons, List.drop_zero]); (repeat (first | go_big_quiet_step (fail) | quiet_step (fail))); refine wpQuiet_nil ?_; intro _ hw'; obtain ⟨oq, nq, hw''⟩ := hw'; subst hw'')
        go_wp2
        generalize hW : World.setCell _ _ _ = wq
        have P1 : PlantAt wq pb mb { p with lift := p.slots ⟨a, b, c⟩ } := by
          rw [← hW]
          exact (HP.out.ext (by simp (maxDischargeDepth := 60))).set 5 _ (by simp) rfl
        have K1 : Kept (Own pb mb) w wq := by
          rw [← hW]
          exact (Kept.of_ext (by simp (maxDischargeDepth := 60))).setCell (Or.inl (Or.inl rfl)) _
        have x0 : wq.cell? ⟨w.heap.size + o1.size, 0, none⟩ = some (vi a) := by rw [← hW]; simp [go_sem]
        have x1 : wq.cell? ⟨w.heap.size + o1.size, 1, none⟩ = some (vi b) := by rw [← hW]; simp [go_sem]
        have x2 : wq.cell? ⟨w.heap.size + o1.size, 2, none⟩ = some (vi c) := by rw [← hW]; simp [go_sem]
        clear hW
        obtain ⟨d0, d1, d2, d3, d4, d5, d6, d7, d8, d9⟩ := P1.cells
        have hb' := cell_lt d1
        have hx' := cell_lt x1
        have HP1 := Lib.hid P1
        have HK1 := Lib.hid K1
        clear P1 K1 c0 c1 c2 c3 c4 c5 c6 c7 c8 c9 hl e1 e2
        (refine wp_region_tail_ext 5 (by kernel_rfl) (by kernel_rfl) ?_; (simp only [List.take_succ_cons, List.take_zero, List.drop_succ_cons, List.drop_zero]); (repeat (first | go_big_quiet_step (fail) | quiet_step (fail))); refine wpQuiet_nil ?_; intro _ hw'; obtain ⟨oq, nq, hw''⟩ := hw'; subst hw'')
        obtain ⟨l0, k0, hs⟩ := (HP1.out.ext (w' := wq.plus oq nq) (by simp (maxDischargeDepth := 60))).slots
        obtain ⟨l1, hrun, hs1⟩ := hs.drop ⟨a, b, c⟩
        have HS := Lib.hid hs1
        clear hs hs1
        go_wp2
        go_end0
        rw [HG.out]
        exact ⟨rfl, PlantAt.map (HP1.out.ext (by simp (maxDischargeDepth := 60))) HS.out, (HK1.out.ext (by simp (maxDischargeDepth := 60))).setBlock (Or.inr rfl) _⟩
    · have e1 : (p.lift == 0) = false := by simpa using g1
      have HG : Hid (p.grab = p) := by unfold Hid; exact grab_not hx (Or.inl g1)
      clear hx g1
      go_enter Try.func146, Try.ntmps146
      go_wp2_with (go_at_call 158; (with_reducible refine (at_some _ _ _ a b c _ (by assumption) (by omega) (by omega) (by omega) (by omega) HX.out).mono ?_); rintro e w1 ⟨rfl, o1, n1, rfl⟩)
      (refine wp_region_ext (by kernel_rfl) (by kernel_rfl) ?_; (repeat (first | go_big_quiet_step (fail) | quiet_step (fail))); refine wpQuiet_nil ?_; intro _ hw'; obtain ⟨oq, nq, hw''⟩ := hw'; subst hw'')
      go_wp2
      go_end0
      rw [HG.out]
      exact ⟨rfl, HP.out.ext (by simp (maxDischargeDepth := 60)), Kept.of_ext (by simp (maxDischargeDepth := 60))⟩

theorem put_none {p : Ch.Plant} (h : p.place p.ext = none) : p.put = p := by unfold Ch.Plant.put; rw [h]

theorem put_not {p : Ch.Plant} {x : Ch.Place} (h : p.place p.ext = some x) (hn : p.lift = 0 ∨ p.slots x ≠ 0) : p.put = p := by
  unfold Ch.Plant.put; rw [h]; dsimp only; rw [if_neg (by omega)]

theorem put_yes {p : Ch.Plant} {x : Ch.Place} (h : p.place p.ext = some x) (hl : p.lift ≠ 0) (hn : p.slots x = 0) : p.put = { p with slots := Ch.setSlot p.slots x p.lift, lift := 0 } := by
  unfold Ch.Plant.put; rw [h]; dsimp only; rw [if_pos ⟨hl, hn⟩]

/-- a store into a place that is free, in the model's two steps -/
theorem Slots.store {w : World} {mb : Nat} {l : List Slot} {clock : Nat} {f : Ch.Place → Int} (h : Slots w mb l clock f) {x : Ch.Place} {v : Int} (hx : f x = 0) (hv : v ≠ 0) :
    ∃ m1 m2 : Obj, ((Instr.mapEntry 163 (.map (some mb)) (placeA x)).run Try.prog w = .ok (.tuple #[vi 0, vi clock]) (ChangeMaps.setBlock w mb m1)) ∧
      ((Instr.entryStore 163 (.map (some mb)) (vi clock) (vi v)).run Try.prog (ChangeMaps.setBlock w mb m1) = .ok () (ChangeMaps.setBlock (ChangeMaps.setBlock w mb m1) mb m2)) ∧
      ∃ l' c', m2 = .map (l'.map ent).toArray c' ∧ Slots (ChangeMaps.setBlock (ChangeMaps.setBlock w mb m1) mb m2) mb l' c' (Ch.setSlot f x v) := by
  have hne : ∀ e ∈ l, e.1 ≠ x := by
    rcases findIn_get x l 0 with ⟨_, _, h3⟩ | ⟨j, e, h1, h2, _, h4⟩
    · exact h3
    · exfalso
      apply h.full e (List.mem_of_getElem? h1)
      rw [← h4, h.is]; exact hx
  have h1 := run_mapEntry_place h.heap x hne
  have hb := ChangeMaps.heap_setBlock_same h.heap (.map ((l ++ [(x, 0, clock)]).map ent).toArray (clock + 1))
  refine ⟨_, _, h1, run_entryStore_place (v := v) hb h.clock, _, _, rfl, ?_⟩
  exact h.stored hx hv (ChangeMaps.heap_setBlock_same hb _)

@[go_sem] theorem setBlock_cell (w : World) (mb b i : Nat) (s : Option Nat) (o : Obj) (h : b ≠ mb) : (ChangeMaps.setBlock w mb o).cell? ⟨b, i, s⟩ = w.cell? ⟨b, i, s⟩ := by
  have hne : mb ≠ b := fun e => h e.symm
  simp only [World.cell?, ChangeMaps.setBlock, Array.getElem?_setIfInBounds_ne hne]

set_option maxRecDepth 100000 in
set_option maxHeartbeats 2000000 in
theorem put_any {pb mb : Nat} {p : Ch.Plant} {w : World} (h : PlantAt w pb mb p) (hp : p.WF) :
    Calls Try.prog 147 #[.pointer (some ⟨pb, 0, none⟩)] w (Did pb mb w p.put (.tuple #[])) := by
  obtain ⟨c0, c1, c2, c3, c4, c5, c6, c7, c8, c9⟩ := h.cells
  have hb := cell_lt c1
  have HP := Lib.hid h
  have fz := block_free h.blk
  have h1 := hp.ht1
  have h2 : p.height ≤ 12 := by have := hp.ht2; have := hp.lv2; omega
  have h3 := hp.ex1
  have h4 := hp.ex2
  clear h
  cases hx : placeAt p.height p.ext with
  | none =>
    have HX := Lib.hid hx
    have HG : Hid (p.put = p) := by unfold Hid; exact put_none hx
    clear hx
    go_enter Try.func147, Try.ntmps147
    go_wp2_with (go_at_call 158; (with_reducible refine (at_none _ _ _ _ (by assumption) (by omega) (by omega) (by omega) (by omega) HX.out).mono ?_); rintro e w1 ⟨rfl, o1, n1, rfl⟩)
    (refine wp_region_ext (by kernel_rfl) (by kernel_rfl) ?_; (repeat (first | go_big_quiet_step (fail) | quiet_step (fail))); refine wpQuiet_nil ?_; intro _ hw'; obtain ⟨oq, nq, hw''⟩ := hw'; subst hw'')
    go_wp2
    go_end0
    rw [HG.out]
    exact ⟨rfl, HP.out.ext (by simp (maxDischargeDepth := 60)), Kept.of_ext (by simp (maxDischargeDepth := 60))⟩
  | some x =>
    obtain ⟨a, b, c⟩ := x
    have HX := Lib.hid hx
    have hl : ∀ o1 n1 o n, (Instr.lookup 163 (.map (some mb)) (.agg #[vi a, vi b, vi c]) false).run Try.prog (World.plus ((w.plus o1 n1).alloc (.cells #[vi a, vi b, vi c] 23)) o n) = .ok (vi (p.slots ⟨a, b, c⟩)) (World.plus ((w.plus o1 n1).alloc (.cells #[vi a, vi b, vi c] 23)) o n) := fun o1 n1 o n => by
      obtain ⟨l, k, hs⟩ := (HP.out.ext (w' := World.plus ((w.plus o1 n1).alloc (.cells #[vi a, vi b, vi c] 23)) o n) (by simp (maxDischargeDepth := 60))).slots
      exact hs.look ⟨a, b, c⟩
    by_cases g1 : p.lift = 0
    · have e1 : (p.lift != 0) = false := by simpa using g1
      have HG : Hid (p.put = p) := by unfold Hid; exact put_not hx (Or.inl g1)
      clear hx g1
      go_enter Try.func147, Try.ntmps147
      go_wp2_with (go_at_call 158; (with_reducible refine (at_some _ _ _ a b c _ (by assumption) (by omega) (by omega) (by omega) (by omega) HX.out).mono ?_); rintro e w1 ⟨rfl, o1, n1, rfl⟩)
      (refine wp_region_ext (by kernel_rfl) (by kernel_rfl) ?_; (repeat (first | go_big_quiet_step (fail) | quiet_step (fail))); refine wpQuiet_nil ?_; intro _ hw'; obtain ⟨oq, nq, hw''⟩ := hw'; subst hw'')
      go_wp2
      go_end0
      rw [HG.out]
      exact ⟨rfl, HP.out.ext (by simp (maxDischargeDepth := 60)), Kept.of_ext (by simp (maxDischargeDepth := 60))⟩
    · have e1 : (p.lift != 0) = true := by simpa using g1
      by_cases g2 : p.slots ⟨a, b, c⟩ = 0
      · have e2 : (p.slots ⟨a, b, c⟩ == 0) = true := by simpa using g2
        have HG : Hid (p.put = { p with slots := Ch.setSlot p.slots ⟨a, b, c⟩ p.lift, lift := 0 }) := by unfold Hid; exact put_yes hx g1 g2
        have G1 := Lib.hid g1
        have G2 := Lib.hid g2
        clear hx g1 g2
        go_enter Try.func147, Try.ntmps147
        go_wp2_with (go_at_call 158; (with_reducible refine (at_some _ _ _ a b c _ (by assumption) (by omega) (by omega) (by omega) (by omega) HX.out).mono ?_); rintro e w1 ⟨rfl, o1, n1, rfl⟩)
        (refine wp_region_ext (by kernel_rfl) (by kernel_rfl) ?_; (repeat (first | go_big_quiet_step (fail) | quiet_step (fail))); refine wpQuiet_nil ?_; intro _ hw'; obtain ⟨oq, nq, hw''⟩ := hw'; subst hw'')
        go_wp2
        generalize hW : World.plus _ _ _ = wq
        have P0 : PlantAt wq pb mb p := by rw [← hW]; exact HP.out.ext (by simp (maxDischargeDepth := 60))
        have K0 : Kept (Own pb mb) w wq := by rw [← hW]; exact Kept.of_ext (by simp (maxDischargeDepth := 60))
        have x0 : wq.cell? ⟨w.heap.size + o1.size, 0, none⟩ = some (vi a) := by rw [← hW]; simp [go_sem]
        have x1 : wq.cell? ⟨w.heap.size + o1.size, 1, none⟩ = some (vi b) := by rw [← hW]; simp [go_sem]
        have x2 : wq.cell? ⟨w.heap.size + o1.size, 2, none⟩ = some (vi c) := by rw [← hW]; simp [go_sem]
        have hmb := P0.lt.2
        have n1' : pb ≠ mb := P0.ne
        have n2' : w.heap.size + o1.size ≠ mb := by have := HP.out.lt.2; omega
        clear hW
        have P1 : PlantAt wq.drew pb mb p := P0.same rfl rfl
        have K1 : Kept (Own pb mb) w wq.drew := K0.trans ⟨rfl, rfl, rfl, Nat.le_refl _, fun _ _ _ => rfl⟩
        obtain ⟨l0, k0, hs⟩ := P1.slots
        obtain ⟨m1, m2, r1, r2, l1, k1, hm, hs1⟩ := hs.store (x := ⟨a, b, c⟩) G2.out G1.out
        subst hm
        have P2 : PlantAt (ChangeMaps.setBlock (ChangeMaps.setBlock wq.drew mb m1) mb (.map (l1.map ent).toArray k1)) pb mb { p with slots := Ch.setSlot p.slots ⟨a, b, c⟩ p.lift } := by
          refine ⟨?_, l1, k1, hs1⟩
          have : mb ≠ pb := fun e => P1.ne e.symm
          simp only [ChangeMaps.setBlock]
          rw [Array.getElem?_setIfInBounds_ne this, Array.getElem?_setIfInBounds_ne this]
          exact P1.blk
        have K2 : Kept (Own pb mb) w (ChangeMaps.setBlock (ChangeMaps.setBlock wq.drew mb m1) mb (.map (l1.map ent).toArray k1)) := (K1.setBlock (Or.inr rfl) _).setBlock (Or.inr rfl) _
        have hz := block_free P2.blk
        obtain ⟨y0, y1, y2, y3, y4, y5, y6, y7, y8, y9⟩ := P0.cells
        have HP2 := Lib.hid P2
        have HK2 := Lib.hid K2
        clear P1 P2 P0 K0 K1 K2 hs hs1 hl e1 e2 c0 c1 c2 c3 c4 c5 c6 c7 c8 c9
        go_region
        go_end0
        rw [HG.out]
        exact ⟨rfl, HP2.out.set 5 _ (by simp) rfl, HK2.out.setCell (Or.inl (Or.inl rfl)) _⟩
      · have e2 : (p.slots ⟨a, b, c⟩ == 0) = false := by simpa using g2
        have HG : Hid (p.put = p) := by unfold Hid; exact put_not hx (Or.inr g2)
        clear hx g1 g2
        go_enter Try.func147, Try.ntmps147
        go_wp2_with (go_at_call 158; (with_reducible refine (at_some _ _ _ a b c _ (by assumption) (by omega) (by omega) (by omega) (by omega) HX.out).mono ?_); rintro e w1 ⟨rfl, o1, n1, rfl⟩)
        (refine wp_region_ext (by kernel_rfl) (by kernel_rfl) ?_; (repeat (first | go_big_quiet_step (fail) | quiet_step (fail))); refine wpQuiet_nil ?_; intro _ hw'; obtain ⟨oq, nq, hw''⟩ := hw'; subst hw'')
        go_wp2
        go_end0
        rw [HG.out]
        exact ⟨rfl, HP.out.ext (by simp (maxDischargeDepth := 60)), Kept.of_ext (by simp (maxDischargeDepth := 60))⟩

end Go.Proofs.Ytplomeacjbkgnaa
