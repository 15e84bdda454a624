/-
  The walk of plant.Step.
-/
import Derived.Test.YtplomeacjbkgnaaPlantDo4
namespace Go.Proofs.Ytplomeacjbkgnaa
open Go.RowKit Go.MapKept

abbrev vb (n : Int) : Value := .int .u8 n

theorem byteMapType : Try.prog.underlying 190 = some (.map 5 3) := by kernel_rfl

theorem byte_set (w : World) (o o' : Obj) : ({ w.alloc o with heap := (w.alloc o).heap.setIfInBounds w.heap.size o' } : World) = w.alloc o' := by
  show ({ w with heap := (w.heap.push o).setIfInBounds w.heap.size o' } : World) = { w with heap := w.heap.push o' }
  congr 1
  apply Array.ext_getElem?
  intro i
  by_cases h : i = w.heap.size
  · subst h; simp
  · rw [Array.getElem?_setIfInBounds_ne (fun e => h e.symm)]
    simp [Array.getElem?_push, h]

theorem byte_key (e : Bool) (k : Int) (w : World) : (Instr.checkKey e 10000 5 (vb k)).run Try.prog w = .ok () w := by kernel_rfl

theorem byte_insert (w : World) (es : Array MapEntry) (clock : Nat) (k v : Int) (h : Instr.findNow (.int .u8) (vb k) es.toList 0 = some none) :
    (Instr.mapUpdate 190 (.map (some w.heap.size)) (vb k) (vi v)).run Try.prog (w.alloc (.map es clock)) = .ok () (w.alloc (.map (es.push { key := vb k, val := vi v, born := clock }) (clock + 1))) := by
  have hb : (w.alloc (.map es clock)).heap[w.heap.size]? = some (.map es clock) := heap_alloc_new w _
  have hk : Try.prog.underlying 5 = some (.int .u8) := by kernel_rfl
  have hc : (Instr.checkKey false 10000 5 (vb k)).run Try.prog (w.alloc (.map es clock)) = .ok () (w.alloc (.map es clock)) := byte_key _ _ _
  have hf : (Instr.findKey 5 (vb k) es.toList).run Try.prog (w.alloc (.map es clock)) = .ok none (w.alloc (.map es clock)) := run_findKey hk h
  simp [Instr.mapUpdate, run_underlying byteMapType, MapKept.run_getObj_map hb, hc, hf, run_setObj_map _ hb, Result.andThen]
  exact byte_set w _ _

theorem byte_look (w : World) (es : Array MapEntry) (clock : Nat) (k v : Int) (i : Nat) (h : Instr.findNow (.int .u8) (vb k) es.toList 0 = some (some (i, vi v))) :
    (Instr.lookup 190 (.map (some w.heap.size)) (vb k) false).run Try.prog (w.alloc (.map es clock)) = .ok (vi v) (w.alloc (.map es clock)) := by
  have hb : (w.alloc (.map es clock)).heap[w.heap.size]? = some (.map es clock) := heap_alloc_new w _
  have hk : Try.prog.underlying 5 = some (.int .u8) := by kernel_rfl
  have hc : ∀ b, (Instr.checkKey b 10000 5 (vb k)).run Try.prog (w.alloc (.map es clock)) = .ok () (w.alloc (.map es clock)) := fun b => byte_key _ _ _
  have hf : (Instr.findKey 5 (vb k) es.toList).run Try.prog (w.alloc (.map es clock)) = .ok (some (i, vi v)) (w.alloc (.map es clock)) := run_findKey hk h
  simp [Instr.lookup, run_underlying byteMapType, MapKept.run_getObj_map hb, hc, hf, Result.andThen]

abbrev twoMap (k1 v1 k2 v2 : Int) : Obj := .map #[{ key := vb k1, val := vi v1, born := 0 }, { key := vb k2, val := vi v2, born := 1 }] 2

theorem byte_one (w : World) (k1 v1 : Int) : (Instr.mapUpdate 190 (.map (some w.heap.size)) (vb k1) (vi v1)).run Try.prog (w.alloc (.map #[] 0)) = .ok () (w.alloc (.map #[{ key := vb k1, val := vi v1, born := 0 }] 1)) :=
  byte_insert w #[] 0 k1 v1 rfl

theorem byte_two (w : World) (k1 v1 k2 v2 : Int) (h : (k2 == k1) = false) : (Instr.mapUpdate 190 (.map (some w.heap.size)) (vb k2) (vi v2)).run Try.prog (w.alloc (.map #[{ key := vb k1, val := vi v1, born := 0 }] 1)) = .ok () (w.alloc (twoMap k1 v1 k2 v2)) :=
  byte_insert w #[{ key := vb k1, val := vi v1, born := 0 }] 1 k2 v2 (by simp [Instr.findNow, Instr.sameNow, h])

theorem byte_get1 (w : World) (k1 v1 k2 v2 : Int) : (Instr.lookup 190 (.map (some w.heap.size)) (vb k1) false).run Try.prog (w.alloc (twoMap k1 v1 k2 v2)) = .ok (vi v1) (w.alloc (twoMap k1 v1 k2 v2)) :=
  byte_look w _ 2 k1 v1 0 (by simp [Instr.findNow, Instr.sameNow])

theorem byte_get2 (w : World) (k1 v1 k2 v2 : Int) (h : (k2 == k1) = false) : (Instr.lookup 190 (.map (some w.heap.size)) (vb k2) false).run Try.prog (w.alloc (twoMap k1 v1 k2 v2)) = .ok (vi v2) (w.alloc (twoMap k1 v1 k2 v2)) :=
  byte_look w _ 2 k2 v2 1 (by simp [Instr.findNow, Instr.sameNow, h])

set_option maxRecDepth 100000 in
set_option maxHeartbeats 2000000 in
theorem step_117 {pb mb : Nat} {p : Ch.Plant} {w : World} (h : PlantAt w pb mb p) (hp : p.WF) (hs : decide (0 < p.stall) = false) :
    Calls Try.prog 115 #[.pointer (some ⟨pb, 0, none⟩), vb 117] w (Did pb mb w (p.rise 1) (.tuple #[])) := by
  obtain ⟨c0, c1, c2, c3, c4, c5, c6, c7, c8, c9⟩ := h.cells
  have hb := cell_lt c1
  have HP := Lib.hid h
  have fz := block_free h.blk
  clear h
  have m0 := @run_makeMap Try.prog
  have m1 := fun w => byte_one w 117 1
  have m2 := fun w => byte_two w 117 1 100 (-1) rfl
  have m3 := fun w => byte_get1 w 117 1 100 (-1)
  have m4 := fun w => byte_get2 w 117 1 100 (-1) rfl
  go_enter Try.func115, Try.ntmps115
  go_wp2_with (go_at_call 144; (with_reducible refine (rise_any (HP.out.ext (by simp (maxDischargeDepth := 60))) hp 1 (Or.inl rfl)).mono ?_); rintro e w1 ⟨rfl, hq, hk⟩)
  go_end0
  exact ⟨rfl, hq, (Kept.of_ext (by simp (maxDischargeDepth := 60))).trans hk⟩

set_option maxRecDepth 100000 in
set_option maxHeartbeats 2000000 in
theorem step_100 {pb mb : Nat} {p : Ch.Plant} {w : World} (h : PlantAt w pb mb p) (hp : p.WF) (hs : decide (0 < p.stall) = false) :
    Calls Try.prog 115 #[.pointer (some ⟨pb, 0, none⟩), vb 100] w (Did pb mb w (p.rise (-1)) (.tuple #[])) := by
  obtain ⟨c0, c1, c2, c3, c4, c5, c6, c7, c8, c9⟩ := h.cells
  have hb := cell_lt c1
  have HP := Lib.hid h
  have fz := block_free h.blk
  clear h
  have m0 := @run_makeMap Try.prog
  have m1 := fun w => byte_one w 117 1
  have m2 := fun w => byte_two w 117 1 100 (-1) rfl
  have m3 := fun w => byte_get1 w 117 1 100 (-1)
  have m4 := fun w => byte_get2 w 117 1 100 (-1) rfl
  go_enter Try.func115, Try.ntmps115
  go_wp2_with (go_at_call 144; (with_reducible refine (rise_any (HP.out.ext (by simp (maxDischargeDepth := 60))) hp (-1) (Or.inr rfl)).mono ?_); rintro e w1 ⟨rfl, hq, hk⟩)
  go_end0
  exact ⟨rfl, hq, (Kept.of_ext (by simp (maxDischargeDepth := 60))).trans hk⟩

set_option maxRecDepth 100000 in
set_option maxHeartbeats 2000000 in
theorem step_108 {pb mb : Nat} {p : Ch.Plant} {w : World} (h : PlantAt w pb mb p) (hp : p.WF) (hs : decide (0 < p.stall) = false) :
    Calls Try.prog 115 #[.pointer (some ⟨pb, 0, none⟩), vb 108] w (Did pb mb w (p.stretch (-1)) (.tuple #[])) := by
  obtain ⟨c0, c1, c2, c3, c4, c5, c6, c7, c8, c9⟩ := h.cells
  have hb := cell_lt c1
  have HP := Lib.hid h
  have fz := block_free h.blk
  clear h
  have m0 := @run_makeMap Try.prog
  have m1 := fun w => byte_one w 108 (-1)
  have m2 := fun w => byte_two w 108 (-1) 114 1 rfl
  have m3 := fun w => byte_get1 w 108 (-1) 114 1
  have m4 := fun w => byte_get2 w 108 (-1) 114 1 rfl
  go_enter Try.func115, Try.ntmps115
  go_wp2_with (go_at_call 145; (with_reducible refine (stretch_any (HP.out.ext (by simp (maxDischargeDepth := 60))) hp (-1) (Or.inr rfl)).mono ?_); rintro e w1 ⟨rfl, hq, hk⟩)
  go_end0
  exact ⟨rfl, hq, (Kept.of_ext (by simp (maxDischargeDepth := 60))).trans hk⟩

set_option maxRecDepth 100000 in
set_option maxHeartbeats 2000000 in
theorem step_114 {pb mb : Nat} {p : Ch.Plant} {w : World} (h : PlantAt w pb mb p) (hp : p.WF) (hs : decide (0 < p.stall) = false) :
    Calls Try.prog 115 #[.pointer (some ⟨pb, 0, none⟩), vb 114] w (Did pb mb w (p.stretch 1) (.tuple #[])) := by
  obtain ⟨c0, c1, c2, c3, c4, c5, c6, c7, c8, c9⟩ := h.cells
  have hb := cell_lt c1
  have HP := Lib.hid h
  have fz := block_free h.blk
  clear h
  have m0 := @run_makeMap Try.prog
  have m1 := fun w => byte_one w 108 (-1)
  have m2 := fun w => byte_two w 108 (-1) 114 1 rfl
  have m3 := fun w => byte_get1 w 108 (-1) 114 1
  have m4 := fun w => byte_get2 w 108 (-1) 114 1 rfl
  go_enter Try.func115, Try.ntmps115
  go_wp2_with (go_at_call 145; (with_reducible refine (stretch_any (HP.out.ext (by simp (maxDischargeDepth := 60))) hp 1 (Or.inl rfl)).mono ?_); rintro e w1 ⟨rfl, hq, hk⟩)
  go_end0
  exact ⟨rfl, hq, (Kept.of_ext (by simp (maxDischargeDepth := 60))).trans hk⟩

set_option maxRecDepth 100000 in
set_option maxHeartbeats 2000000 in
theorem step_103 {pb mb : Nat} {p : Ch.Plant} {w : World} (h : PlantAt w pb mb p) (hp : p.WF) (hs : decide (0 < p.stall) = false) :
    Calls Try.prog 115 #[.pointer (some ⟨pb, 0, none⟩), vb 103] w (Did pb mb w (p.grab) (.tuple #[])) := by
  obtain ⟨c0, c1, c2, c3, c4, c5, c6, c7, c8, c9⟩ := h.cells
  have hb := cell_lt c1
  have HP := Lib.hid h
  have fz := block_free h.blk
  clear h
  go_enter Try.func115, Try.ntmps115
  go_wp2_with (go_at_call 146; (with_reducible refine (grab_any (HP.out.ext (by simp (maxDischargeDepth := 60))) hp).mono ?_); rintro e w1 ⟨rfl, hq, hk⟩)
  go_end0
  exact ⟨rfl, hq, (Kept.of_ext (by simp (maxDischargeDepth := 60))).trans hk⟩

set_option maxRecDepth 100000 in
set_option maxHeartbeats 2000000 in
theorem step_112 {pb mb : Nat} {p : Ch.Plant} {w : World} (h : PlantAt w pb mb p) (hp : p.WF) (hs : decide (0 < p.stall) = false) :
    Calls Try.prog 115 #[.pointer (some ⟨pb, 0, none⟩), vb 112] w (Did pb mb w (p.put) (.tuple #[])) := by
  obtain ⟨c0, c1, c2, c3, c4, c5, c6, c7, c8, c9⟩ := h.cells
  have hb := cell_lt c1
  have HP := Lib.hid h
  have fz := block_free h.blk
  clear h
  go_enter Try.func115, Try.ntmps115
  go_wp2_with (go_at_call 147; (with_reducible refine (put_any (HP.out.ext (by simp (maxDischargeDepth := 60))) hp).mono ?_); rintro e w1 ⟨rfl, hq, hk⟩)
  go_end0
  exact ⟨rfl, hq, (Kept.of_ext (by simp (maxDischargeDepth := 60))).trans hk⟩

set_option maxRecDepth 100000 in
set_option maxHeartbeats 2000000 in
theorem step_111 {pb mb : Nat} {p : Ch.Plant} {w : World} (h : PlantAt w pb mb p) (hp : p.WF) (hs : decide (0 < p.stall) = false) :
    Calls Try.prog 115 #[.pointer (some ⟨pb, 0, none⟩), vb 111] w (Did pb mb w (p.swing true) (.tuple #[])) := by
  obtain ⟨c0, c1, c2, c3, c4, c5, c6, c7, c8, c9⟩ := h.cells
  have hb := cell_lt c1
  have HP := Lib.hid h
  have fz := block_free h.blk
  clear h
  go_enter Try.func115, Try.ntmps115
  go_wp2_with (go_at_call 148; (with_reducible refine (swing_any (HP.out.ext (by simp (maxDischargeDepth := 60))) true).mono ?_); rintro e w1 ⟨rfl, hq, hk⟩)
  go_end0
  exact ⟨rfl, hq, (Kept.of_ext (by simp (maxDischargeDepth := 60))).trans hk⟩

set_option maxRecDepth 100000 in
set_option maxHeartbeats 2000000 in
theorem step_99 {pb mb : Nat} {p : Ch.Plant} {w : World} (h : PlantAt w pb mb p) (hp : p.WF) (hs : decide (0 < p.stall) = false) :
    Calls Try.prog 115 #[.pointer (some ⟨pb, 0, none⟩), vb 99] w (Did pb mb w (p.swing false) (.tuple #[])) := by
  obtain ⟨c0, c1, c2, c3, c4, c5, c6, c7, c8, c9⟩ := h.cells
  have hb := cell_lt c1
  have HP := Lib.hid h
  have fz := block_free h.blk
  clear h
  go_enter Try.func115, Try.ntmps115
  go_wp2_with (go_at_call 148; (with_reducible refine (swing_any (HP.out.ext (by simp (maxDischargeDepth := 60))) false).mono ?_); rintro e w1 ⟨rfl, hq, hk⟩)
  go_end0
  exact ⟨rfl, hq, (Kept.of_ext (by simp (maxDischargeDepth := 60))).trans hk⟩

set_option maxRecDepth 100000 in
set_option maxHeartbeats 2000000 in
theorem step_110 {pb mb : Nat} {p : Ch.Plant} {w : World} (h : PlantAt w pb mb p) (hp : p.WF) (hs : decide (0 < p.stall) = false) :
    Calls Try.prog 115 #[.pointer (some ⟨pb, 0, none⟩), vb 110] w (Did pb mb w (p.pass true) (.tuple #[])) := by
  obtain ⟨c0, c1, c2, c3, c4, c5, c6, c7, c8, c9⟩ := h.cells
  have hb := cell_lt c1
  have HP := Lib.hid h
  have fz := block_free h.blk
  clear h
  go_enter Try.func115, Try.ntmps115
  go_wp2_with (go_at_call 149; (with_reducible refine (pass_any (HP.out.ext (by simp (maxDischargeDepth := 60))) true).mono ?_); rintro e w1 ⟨rfl, hq, hk⟩)
  go_end0
  exact ⟨rfl, hq, (Kept.of_ext (by simp (maxDischargeDepth := 60))).trans hk⟩

set_option maxRecDepth 100000 in
set_option maxHeartbeats 2000000 in
theorem step_120 {pb mb : Nat} {p : Ch.Plant} {w : World} (h : PlantAt w pb mb p) (hp : p.WF) (hs : decide (0 < p.stall) = false) :
    Calls Try.prog 115 #[.pointer (some ⟨pb, 0, none⟩), vb 120] w (Did pb mb w (p.pass false) (.tuple #[])) := by
  obtain ⟨c0, c1, c2, c3, c4, c5, c6, c7, c8, c9⟩ := h.cells
  have hb := cell_lt c1
  have HP := Lib.hid h
  have fz := block_free h.blk
  clear h
  go_enter Try.func115, Try.ntmps115
  go_wp2_with (go_at_call 149; (with_reducible refine (pass_any (HP.out.ext (by simp (maxDischargeDepth := 60))) false).mono ?_); rintro e w1 ⟨rfl, hq, hk⟩)
  go_end0
  exact ⟨rfl, hq, (Kept.of_ext (by simp (maxDischargeDepth := 60))).trans hk⟩

set_option maxRecDepth 100000 in
set_option maxHeartbeats 2000000 in
theorem step_none {pb mb : Nat} {p : Ch.Plant} {w : World} (h : PlantAt w pb mb p) (hs : decide (0 < p.stall) = false) (c : Int) (h117 : (c == 117) = false) (h100 : (c == 100) = false) (h108 : (c == 108) = false) (h114 : (c == 114) = false) (h103 : (c == 103) = false) (h112 : (c == 112) = false) (h111 : (c == 111) = false) (h99 : (c == 99) = false) (h110 : (c == 110) = false) (h120 : (c == 120) = false) :
    Calls Try.prog 115 #[.pointer (some ⟨pb, 0, none⟩), vb c] w (Did pb mb w p (.tuple #[])) := by
  obtain ⟨c0, c1, c2, c3, c4, c5, c6, c7, c8, c9⟩ := h.cells
  have hb := cell_lt c1
  have HP := Lib.hid h
  have fz := block_free h.blk
  clear h
  go_enter Try.func115, Try.ntmps115
  go_wp2
  all_goals
    go_end0
    exact ⟨rfl, HP.out, Kept.refl _ _⟩

set_option maxRecDepth 100000 in
set_option maxHeartbeats 2000000 in
theorem step_rest {pb mb : Nat} {p : Ch.Plant} {w : World} (h : PlantAt w pb mb p) :
    Calls Try.prog 115 #[.pointer (some ⟨pb, 0, none⟩), vb 45] w (Did pb mb w p (.tuple #[])) := by
  obtain ⟨c0, c1, c2, c3, c4, c5, c6, c7, c8, c9⟩ := h.cells
  have hb := cell_lt c1
  have HP := Lib.hid h
  have fz := block_free h.blk
  clear h
  go_enter Try.func115, Try.ntmps115
  go_wp2
  all_goals
    go_end0
    exact ⟨rfl, HP.out, Kept.refl _ _⟩

set_option maxRecDepth 100000 in
set_option maxHeartbeats 2000000 in
theorem step_stalled {pb mb : Nat} {p : Ch.Plant} {w : World} (h : PlantAt w pb mb p) (hp : p.WF) (c : Int) (hs : 0 < p.stall) (hc : (c == 45) = false) :
    Calls Try.prog 115 #[.pointer (some ⟨pb, 0, none⟩), vb c] w (Did pb mb w { p with stall := p.stall - 1 } (.tuple #[])) := by
  have hc' : (c != 45) = true := by simpa using hc
  have h2 := hp.st2
  have i1 : IntKind.i64.wrap (p.stall - 1) = p.stall - 1 := IntWalk.i64_in _ (by omega)
  obtain ⟨c0, c1, c2, c3, c4, c5, c6, c7, c8, c9⟩ := h.cells
  have hb := cell_lt c1
  have HP := Lib.hid h
  have fz := block_free h.blk
  clear h
  go_enter Try.func115, Try.ntmps115
  go_wp2
  refine bodyPost_ret (results_none rfl _ _ _) rfl ?_
  exact ⟨rfl, HP.out.set 8 _ (by simp) rfl, (Kept.refl _ _).setCell (Or.inl (Or.inl rfl)) _⟩

theorem step_any {pb mb : Nat} {p : Ch.Plant} {w : World} (h : PlantAt w pb mb p) (hp : p.WF) (c : Int) :
    Calls Try.prog 115 #[.pointer (some ⟨pb, 0, none⟩), vb c] w (Did pb mb w (p.step c) (.tuple #[])) := by
  by_cases h45 : c = 45
  · subst h45
    have : p.step 45 = p := by unfold Ch.Plant.step; rw [if_neg (by simp)]; rfl
    rw [this]; exact step_rest h
  by_cases hs : 0 < p.stall
  · have : p.step c = { p with stall := p.stall - 1 } := by unfold Ch.Plant.step; rw [if_pos ⟨hs, h45⟩]
    rw [this]; exact step_stalled h hp c hs (by simpa using h45)
  have hd : decide (0 < p.stall) = false := by simpa using hs
  have : p.step c = p.act c := by unfold Ch.Plant.step; rw [if_neg (by omega)]
  rw [this]
  by_cases h117 : c = 117
  · subst h117; exact step_117 h hp hd
  by_cases h100 : c = 100
  · subst h100; exact step_100 h hp hd
  by_cases h108 : c = 108
  · subst h108; exact step_108 h hp hd
  by_cases h114 : c = 114
  · subst h114; exact step_114 h hp hd
  by_cases h103 : c = 103
  · subst h103; exact step_103 h hp hd
  by_cases h112 : c = 112
  · subst h112; exact step_112 h hp hd
  by_cases h111 : c = 111
  · subst h111; exact step_111 h hp hd
  by_cases h99 : c = 99
  · subst h99; exact step_99 h hp hd
  by_cases h110 : c = 110
  · subst h110; exact step_110 h hp hd
  by_cases h120 : c = 120
  · subst h120; exact step_120 h hp hd
  have : p.act c = p := by
    unfold Ch.Plant.act
    rw [if_neg h117, if_neg h100, if_neg h108, if_neg h114, if_neg h103, if_neg h112, if_neg h111, if_neg h99, if_neg h110, if_neg h120]
  rw [this]
  exact step_none h hd c (by simpa using h117) (by simpa using h100) (by simpa using h108) (by simpa using h114) (by simpa using h103) (by simpa using h112) (by simpa using h111) (by simpa using h99) (by simpa using h110) (by simpa using h120)
end Go.Proofs.Ytplomeacjbkgnaa
