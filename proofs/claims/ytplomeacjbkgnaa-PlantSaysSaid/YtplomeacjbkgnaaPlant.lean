/-
  The walks of package plant: what looks at the machine.
-/
import Derived.Test.YtplomeacjbkgnaaSlots
import Derived.Test.YtplomeacjbkgnaaRegion
import Derived.Test.YtplomeacjbkgnaaTower
import Derived.IntWalk
namespace Go.Proofs.Ytplomeacjbkgnaa
open Go.RowKit

/-- the machine's cells -/
abbrev plantCells (p : Ch.Plant) (mb : Nat) : Array Value := #[vi p.levels, vi p.height, vi p.ext, .bool p.door, vi p.people, vi p.lift, vi p.bay, .map (some mb), vi p.stall, .bool p.hurt]

/-- a machine in memory: its block, and its map's -/
structure PlantAt (w : World) (pb mb : Nat) (p : Ch.Plant) : Prop where
  blk : w.heap[pb]? = some (.cells (plantCells p mb) 165 (0, 0))
  slots : ∃ l clock, Slots w mb l clock p.slots

theorem PlantAt.ne {w : World} {pb mb : Nat} {p : Ch.Plant} (h : PlantAt w pb mb p) : pb ≠ mb := by
  rintro rfl
  obtain ⟨l, c, hs⟩ := h.slots
  have := hs.heap
  rw [h.blk] at this
  cases this

theorem PlantAt.same {w w' : World} {pb mb : Nat} {p : Ch.Plant} (h : PlantAt w pb mb p) (h1 : w'.heap[pb]? = w.heap[pb]?) (h2 : w'.heap[mb]? = w.heap[mb]?) : PlantAt w' pb mb p :=
  ⟨h1.trans h.blk, let ⟨l, c, hs⟩ := h.slots; ⟨l, c, hs.same h2⟩⟩

theorem PlantAt.lt {w : World} {pb mb : Nat} {p : Ch.Plant} (h : PlantAt w pb mb p) : pb < w.heap.size ∧ mb < w.heap.size := by
  obtain ⟨l, c, hs⟩ := h.slots
  refine ⟨?_, hs.lt⟩
  by_cases hb : pb < w.heap.size
  · exact hb
  · have := h.blk
    rw [Array.getElem?_eq_none (Nat.le_of_not_lt hb)] at this
    cases this

theorem PlantAt.ext {w w' : World} {pb mb : Nat} {p : Ch.Plant} (h : PlantAt w pb mb p) (e : Ext w w') : PlantAt w' pb mb p := by
  obtain ⟨o, n, rfl⟩ := e
  exact h.same (plus_heap w o n pb h.lt.1) (plus_heap w o n mb h.lt.2)

theorem block_cell {w : World} {b : Nat} {cs : Array Value} {t : TypeId} {i : Nat} {v : Value} (h : w.heap[b]? = some (.cells cs t (0, 0))) (hi : cs[i]? = some v) : w.cell? ⟨b, i, none⟩ = some v := by
  simp [World.cell?, h, hi]

theorem block_free {w : World} {b : Nat} {cs : Array Value} {t : TypeId} (h : w.heap[b]? = some (.cells cs t (0, 0))) (i : Nat) : w.frozen? ⟨b, i, none⟩ = false := by
  simp [World.frozen?, h]

theorem PlantAt.cells {w : World} {pb mb : Nat} {p : Ch.Plant} (h : PlantAt w pb mb p) :
    w.cell? ⟨pb, 0, none⟩ = some (vi p.levels) ∧ w.cell? ⟨pb, 1, none⟩ = some (vi p.height) ∧ w.cell? ⟨pb, 2, none⟩ = some (vi p.ext) ∧ w.cell? ⟨pb, 3, none⟩ = some (.bool p.door) ∧
    w.cell? ⟨pb, 4, none⟩ = some (vi p.people) ∧ w.cell? ⟨pb, 5, none⟩ = some (vi p.lift) ∧ w.cell? ⟨pb, 6, none⟩ = some (vi p.bay) ∧ w.cell? ⟨pb, 7, none⟩ = some (.map (some mb)) ∧
    w.cell? ⟨pb, 8, none⟩ = some (vi p.stall) ∧ w.cell? ⟨pb, 9, none⟩ = some (.bool p.hurt) :=
  ⟨block_cell h.blk rfl, block_cell h.blk rfl, block_cell h.blk rfl, block_cell h.blk rfl, block_cell h.blk rfl, block_cell h.blk rfl, block_cell h.blk rfl, block_cell h.blk rfl, block_cell h.blk rfl, block_cell h.blk rfl⟩

/-- where the shuttle's end is, by the height alone -/
def placeAt (h e : Int) : Option Ch.Place := Ch.Plant.place { (default : Ch.Plant) with height := h } e

theorem place_at (p : Ch.Plant) (e : Int) : p.place e = placeAt p.height e := rfl

theorem placeAt_none {h e : Int} (hx : placeAt h e = none) : h % 3 ≠ 0 ∨ h = 0 ∨ e = 0 ∨ e < -2 ∨ 2 < e := by
  unfold placeAt Ch.Plant.place at hx
  dsimp only at hx
  split at hx
  · assumption
  · split at hx <;> cases hx

theorem placeAt_some {h e : Int} {x : Ch.Place} (hx : placeAt h e = some x) : h % 3 = 0 ∧ h ≠ 0 ∧ e ≠ 0 ∧ -2 ≤ e ∧ e ≤ 2 ∧ ((e < 0 ∧ x = ⟨h / 3, 0, -e - 1⟩) ∨ (¬ e < 0 ∧ x = ⟨h / 3, 1, e - 1⟩)) := by
  unfold placeAt Ch.Plant.place at hx
  dsimp only at hx
  split at hx
  · cases hx
  · rename_i hc
    refine ⟨by omega, by omega, by omega, by omega, by omega, ?_⟩
    split at hx
    · cases hx; rename_i h; exact Or.inl ⟨h, rfl⟩
    · cases hx; rename_i h; exact Or.inr ⟨h, rfl⟩

set_option maxRecDepth 100000 in
set_option maxHeartbeats 1000000 in
theorem at_none (pb : Nat) (h e : Int) (w : World) (hc : w.cell? ⟨pb, 1, none⟩ = some (vi h)) (h0 : 0 ≤ h) (h1 : h ≤ 12) (e0 : -3 ≤ e) (e1 : e ≤ 3) (hx : placeAt h e = none) :
    Calls Try.prog 158 #[.pointer (some ⟨pb, 0, none⟩), vi e] w fun r w' => r = .returned (.tuple #[.agg #[vi 0, vi 0, vi 0], .bool false]) ∧ Ext w w' := by
  have hb := cell_lt hc
  have HX := placeAt_none hx
  clear hx
  go_enter Try.func158, Try.ntmps158
  go_wp2
  all_goals
    first
    | (exfalso; go_light; omega)
    | exact bodyPost_ret (v := .tuple #[.agg #[vi 0, vi 0, vi 0], .bool false]) (by simp [results, Try.results158, go_sem]) rfl ⟨rfl, (by simp (maxDischargeDepth := 60))⟩

set_option maxRecDepth 100000 in
set_option maxHeartbeats 1000000 in
theorem at_some (pb : Nat) (h e : Int) (a b c : Int) (w : World) (hc : w.cell? ⟨pb, 1, none⟩ = some (vi h)) (h0 : 0 ≤ h) (h1 : h ≤ 12) (e0 : -3 ≤ e) (e1 : e ≤ 3) (hx : placeAt h e = some ⟨a, b, c⟩) :
    Calls Try.prog 158 #[.pointer (some ⟨pb, 0, none⟩), vi e] w fun r w' => r = .returned (.tuple #[.agg #[vi a, vi b, vi c], .bool true]) ∧ Ext w w' := by
  have hb := cell_lt hc
  have HX := placeAt_some hx
  simp only [Ch.Place.mk.injEq] at HX
  have HX := Lib.hid HX
  clear hx
  go_enter Try.func158, Try.ntmps158
  go_wp2
  all_goals
    have HX := HX.out
    first
    | (exfalso; go_light; (try simp only [beq_iff_eq] at *); omega)
    | (obtain ⟨_, _, _, _, _, ⟨hl, rfl, rfl, rfl⟩ | ⟨hl, rfl, rfl, rfl⟩⟩ := HX
       · first
         | (exfalso; go_light; omega)
         | exact bodyPost_ret (v := .tuple #[.agg #[vi (h / 3), vi 0, vi (-e - 1)], .bool true]) (by simp [results, Try.results158, go_sem]) rfl ⟨rfl, (by simp (maxDischargeDepth := 60))⟩
       · first
         | (exfalso; go_light; omega)
         | exact bodyPost_ret (v := .tuple #[.agg #[vi (h / 3), vi 1, vi (e - 1)], .bool true]) (by simp [results, Try.results158, go_sem]) rfl ⟨rfl, (by simp (maxDischargeDepth := 60))⟩)

theorem openB_false {p : Ch.Plant} (h : p.openB = false) : p.door = false ∧ ¬ 0 < p.people := by
  unfold Ch.Plant.openB at h; simp at h; exact ⟨h.1, by omega⟩

set_option maxRecDepth 100000 in
set_option maxHeartbeats 1000000 in
theorem open_any (pb : Nat) (d : Bool) (n : Int) (w : World) (h3 : w.cell? ⟨pb, 3, none⟩ = some (.bool d)) (h4 : w.cell? ⟨pb, 4, none⟩ = some (vi n)) :
    Calls Try.prog 157 #[.pointer (some ⟨pb, 0, none⟩)] w fun r w' => r = .returned (.bool (d || decide (0 < n))) ∧ Ext w w' := by
  have hb := cell_lt h3
  cases d
  all_goals
    go_enter Try.func157, Try.ntmps157
    go_wp2
    all_goals
      go_ret
      exact ⟨by simp, (by simp (maxDischargeDepth := 60))⟩

set_option maxRecDepth 100000 in
set_option maxHeartbeats 2000000 in
theorem full_any {pb mb : Nat} {p : Ch.Plant} {w : World} (h : PlantAt w pb mb p) (e : Int) (h0 : 0 ≤ p.height) (h1 : p.height ≤ 12) (e0 : -3 ≤ e) (e1 : e ≤ 3) :
    Calls Try.prog 150 #[.pointer (some ⟨pb, 0, none⟩), vi e] w fun r w' => r = .returned (.bool (p.full e)) ∧ Ext w w' := by
  obtain ⟨c0, c1, c2, c3, c4, c5, c6, c7, c8, c9⟩ := h.cells
  have hb := cell_lt c1
  cases hx : placeAt p.height e with
  | none =>
    have HF : Hid (p.full e = false) := by unfold Hid Ch.Plant.full; rw [place_at, hx]
    have HX := Lib.hid hx
    clear hx
    go_enter Try.func150, Try.ntmps150
    go_wp2_with (go_at_call 158; (with_reducible refine (at_none _ _ _ _ (by assumption) (by omega) (by omega) (by omega) (by omega) HX.out).mono ?_); rintro e w1 ⟨rfl, o1, n1, rfl⟩)
    (refine wp_region_ext (by kernel_rfl) (by kernel_rfl) ?_; (repeat (first | go_big_quiet_step (fail) | quiet_step (fail))); refine wpQuiet_nil ?_; intro _ hw'; obtain ⟨oq, nq, hw''⟩ := hw'; subst hw'')
    go_wp2
    go_ret
    exact ⟨by rw [HF.out]; rfl, (by simp (maxDischargeDepth := 60))⟩
  | some x =>
    obtain ⟨a, b, c⟩ := x
    have HF : Hid (p.full e = (p.slots ⟨a, b, c⟩ != 0)) := by unfold Hid Ch.Plant.full; rw [place_at, hx]
    have HX := Lib.hid hx
    have HP := Lib.hid h
    clear hx
    go_enter Try.func150, Try.ntmps150
    go_wp2_with (go_at_call 158; (with_reducible refine (at_some _ _ _ a b c _ (by assumption) (by omega) (by omega) (by omega) (by omega) HX.out).mono ?_); rintro e w1 ⟨rfl, o1, n1, rfl⟩)
    have hl : ∀ o n, (Instr.lookup 163 (.map (some mb)) (.agg #[vi a, vi b, vi c]) false).run Try.prog (World.plus ((w.plus o1 n1).alloc (.cells #[vi a, vi b, vi c] 23)) o n) = .ok (vi (p.slots ⟨a, b, c⟩)) (World.plus ((w.plus o1 n1).alloc (.cells #[vi a, vi b, vi c] 23)) o n) := fun o n => by
      obtain ⟨l, k, hs⟩ := (HP.out.ext (w' := World.plus ((w.plus o1 n1).alloc (.cells #[vi a, vi b, vi c] 23)) o n) (by simp (maxDischargeDepth := 60))).slots
      exact hs.look ⟨a, b, c⟩
    (refine wp_region_ext (by kernel_rfl) (by kernel_rfl) ?_; (repeat (first | go_big_quiet_step (fail) | quiet_step (fail))); refine wpQuiet_nil ?_; intro _ hw'; obtain ⟨oq, nq, hw''⟩ := hw'; subst hw'')
    go_wp2
    go_ret
    exact ⟨by rw [HF.out]; rfl, (by simp (maxDischargeDepth := 60))⟩

/-- what is seen -/
abbrev senseA (p : Ch.Plant) : Value := .agg #[vi p.height, vi p.ext, .bool p.door, vi p.people, vi p.lift, vi p.bay, .bool (p.full p.ext), .bool (p.full (p.ext - 1)), .bool (p.full (p.ext + 1))]

set_option maxRecDepth 100000 in
set_option maxHeartbeats 4000000 in
theorem sense_any {pb mb : Nat} {p : Ch.Plant} {w : World} (h : PlantAt w pb mb p) (hp : p.WF) :
    Calls Try.prog 116 #[.pointer (some ⟨pb, 0, none⟩)] w fun r w' => r = .returned (senseA p) ∧ Ext w w' := by
  obtain ⟨c0, c1, c2, c3, c4, c5, c6, c7, c8, c9⟩ := h.cells
  have hb := cell_lt c1
  have HP := Lib.hid h
  have h1 := hp.ht1
  have h2 : p.height ≤ 12 := by have := hp.ht2; have := hp.lv2; omega
  have h3 := hp.ex1
  have h4 := hp.ex2
  have i1 : IntKind.i64.wrap (p.ext - 1) = p.ext - 1 := IntWalk.i64_in _ (by omega)
  have i2 : IntKind.i64.wrap (p.ext + 1) = p.ext + 1 := IntWalk.i64_in _ (by omega)
  clear h
  go_enter Try.func116, Try.ntmps116
  go_wp2
  (refine wp_region_tail_ext 45 (by kernel_rfl) (by kernel_rfl) ?_; (simp only [List.take_succ_cons, List.take_zero, List.drop_succ_cons, List.drop_zero]); (repeat (first | go_big_quiet_step ((intro _; go_at_call 150; exact ext_callG (full_any (HP.out.ext (by simp (maxDischargeDepth := 60))) _ h1 h2 (by omega) (by omega)) (by rintro w' ⟨o', n', rfl⟩; exact ⟨_, n', by first | (simp only [plus_plus]; rfl) | (simp only [plus_plus, Array.append_assoc]; rfl) | rfl⟩))) | quiet_step ((intro _; go_at_call 150; exact ext_callG (full_any (HP.out.ext (by simp (maxDischargeDepth := 60))) _ h1 h2 (by omega) (by omega)) (by rintro w' ⟨o', n', rfl⟩; exact ⟨_, n', by first | (simp only [plus_plus]; rfl) | (simp only [plus_plus, Array.append_assoc]; rfl) | rfl⟩))))); refine wpQuiet_nil ?_; intro _ hw'; obtain ⟨oq, nq, hw''⟩ := hw'; subst hw'')
  go_wp2
  exact bodyPost_ret (v := senseA p) (by simp [results, Try.results116, go_sem]) rfl ⟨rfl, (by simp (maxDischargeDepth := 60))⟩

set_option maxRecDepth 100000 in
set_option maxHeartbeats 1000000 in
theorem at_any {pb mb : Nat} {p : Ch.Plant} {w : World} (h : PlantAt w pb mb p) (a b c : Int) :
    Calls Try.prog 127 #[.pointer (some ⟨pb, 0, none⟩), .agg #[vi a, vi b, vi c]] w fun r w' => r = .returned (vi (p.slots ⟨a, b, c⟩)) ∧ Ext w w' := by
  obtain ⟨c0, c1, c2, c3, c4, c5, c6, c7, c8, c9⟩ := h.cells
  have hb := cell_lt c1
  have hl : ∀ o n, (Instr.lookup 163 (.map (some mb)) (.agg #[vi a, vi b, vi c]) false).run Try.prog (World.plus (w.alloc (.cells #[vi a, vi b, vi c] 23)) o n) = .ok (vi (p.slots ⟨a, b, c⟩)) (World.plus (w.alloc (.cells #[vi a, vi b, vi c] 23)) o n) := fun o n => by
    obtain ⟨l, k, hs⟩ := (h.ext (w' := World.plus (w.alloc (.cells #[vi a, vi b, vi c] 23)) o n) (by simp (maxDischargeDepth := 60))).slots
    exact hs.look ⟨a, b, c⟩
  clear h
  go_enter Try.func127, Try.ntmps127
  go_wp2
  (refine wp_region_ext (by kernel_rfl) (by kernel_rfl) ?_; (repeat (first | go_big_quiet_step (fail) | quiet_step (fail))); refine wpQuiet_nil ?_; intro _ hw'; obtain ⟨oq, nq, hw''⟩ := hw'; subst hw'')
  go_wp2
  go_ret
  exact ⟨rfl, (by simp (maxDischargeDepth := 60))⟩

theorem hurt_any {pb mb : Nat} {p : Ch.Plant} {w : World} (h : PlantAt w pb mb p) :
    Calls Try.prog 117 #[.pointer (some ⟨pb, 0, none⟩)] w fun r w' => r = .returned (.bool p.hurt) ∧ Ext w w' := by
  obtain ⟨c0, c1, c2, c3, c4, c5, c6, c7, c8, c9⟩ := h.cells
  clear h
  go_enter Try.func117, Try.ntmps117
  go_wp2
  go_ret
  exact ⟨rfl, (by simp (maxDischargeDepth := 60))⟩

end Go.Proofs.Ytplomeacjbkgnaa
