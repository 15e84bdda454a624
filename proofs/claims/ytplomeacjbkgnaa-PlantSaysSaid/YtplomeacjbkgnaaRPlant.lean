/-
  The walks of the reference's machine: what looks at it.
-/
import Derived.Test.YtplomeacjbkgnaaPlant
import Derived.Test.YtplomeacjbkgnaaKept
namespace Go.Proofs.Ytplomeacjbkgnaa
open Go.RowKit

/-- the reference machine's cells -/
abbrev rCells (p : Ch.Plant) : Array Value := #[vi p.levels, vi p.height, vi p.ext, .bool p.door, vi p.people, vi p.lift, vi p.bay,
  vi (p.slots ⟨0, 0, 0⟩), vi (p.slots ⟨0, 0, 1⟩), vi (p.slots ⟨0, 1, 0⟩), vi (p.slots ⟨0, 1, 1⟩),
  vi (p.slots ⟨1, 0, 0⟩), vi (p.slots ⟨1, 0, 1⟩), vi (p.slots ⟨1, 1, 0⟩), vi (p.slots ⟨1, 1, 1⟩),
  vi (p.slots ⟨2, 0, 0⟩), vi (p.slots ⟨2, 0, 1⟩), vi (p.slots ⟨2, 1, 0⟩), vi (p.slots ⟨2, 1, 1⟩),
  vi (p.slots ⟨3, 0, 0⟩), vi (p.slots ⟨3, 0, 1⟩), vi (p.slots ⟨3, 1, 0⟩), vi (p.slots ⟨3, 1, 1⟩),
  vi (p.slots ⟨4, 0, 0⟩), vi (p.slots ⟨4, 0, 1⟩), vi (p.slots ⟨4, 1, 0⟩), vi (p.slots ⟨4, 1, 1⟩),
  vi p.stall, .bool p.hurt]

/-- the reference's machine in memory -/
structure RPlantAt (w : World) (rb : Nat) (p : Ch.Plant) : Prop where
  blk : w.heap[rb]? = some (.cells (rCells p) 170 (0, 0))

theorem RPlantAt.lt {w : World} {rb : Nat} {p : Ch.Plant} (h : RPlantAt w rb p) : rb < w.heap.size := by
  by_cases hb : rb < w.heap.size
  · exact hb
  · have := h.blk
    rw [Array.getElem?_eq_none (Nat.le_of_not_lt hb)] at this
    cases this

theorem RPlantAt.same {w w' : World} {rb : Nat} {p : Ch.Plant} (h : RPlantAt w rb p) (h1 : w'.heap[rb]? = w.heap[rb]?) : RPlantAt w' rb p := ⟨h1.trans h.blk⟩

theorem RPlantAt.ext {w w' : World} {rb : Nat} {p : Ch.Plant} (h : RPlantAt w rb p) (e : Ext w w') : RPlantAt w' rb p := by
  obtain ⟨o, n, rfl⟩ := e
  exact h.same (plus_heap w o n rb h.lt)

theorem RPlantAt.kept {S : Nat → Prop} {w w' : World} {rb : Nat} {p : Ch.Plant} (h : RPlantAt w rb p) (k : Kept S w w') (hn : ¬ S rb) : RPlantAt w' rb p := h.same (k.block rb h.lt hn)

theorem RPlantAt.cells {w : World} {rb : Nat} {p : Ch.Plant} (h : RPlantAt w rb p) :
    w.cell? ⟨rb, 0, none⟩ = some (vi p.levels) ∧ w.cell? ⟨rb, 1, none⟩ = some (vi p.height) ∧ w.cell? ⟨rb, 2, none⟩ = some (vi p.ext) ∧ w.cell? ⟨rb, 3, none⟩ = some (.bool p.door) ∧
    w.cell? ⟨rb, 4, none⟩ = some (vi p.people) ∧ w.cell? ⟨rb, 5, none⟩ = some (vi p.lift) ∧ w.cell? ⟨rb, 6, none⟩ = some (vi p.bay) ∧
    w.cell? ⟨rb, 27, none⟩ = some (vi p.stall) ∧ w.cell? ⟨rb, 28, none⟩ = some (.bool p.hurt) :=
  ⟨block_cell h.blk rfl, block_cell h.blk rfl, block_cell h.blk rfl, block_cell h.blk rfl, block_cell h.blk rfl, block_cell h.blk rfl, block_cell h.blk rfl, block_cell h.blk rfl, block_cell h.blk rfl⟩

/-- where a place lies in the block -/
def slotOff (a b c : Int) : Nat := 7 + a.toNat * 4 + b.toNat * 2 + c.toNat

theorem slot_cell (p : Ch.Plant) {a b c : Int} (a0 : 0 ≤ a) (a1 : a ≤ 4) (b0 : 0 ≤ b) (b1 : b ≤ 1) (c0 : 0 ≤ c) (c1 : c ≤ 1) : (rCells p)[slotOff a b c]? = some (vi (p.slots ⟨a, b, c⟩)) := by
  have ha : a = 0 ∨ a = 1 ∨ a = 2 ∨ a = 3 ∨ a = 4 := by omega
  have hb : b = 0 ∨ b = 1 := by omega
  have hc : c = 0 ∨ c = 1 := by omega
  rcases ha with rfl | rfl | rfl | rfl | rfl <;> rcases hb with rfl | rfl <;> rcases hc with rfl | rfl <;> rfl

theorem RPlantAt.slot {w : World} {rb : Nat} {p : Ch.Plant} (h : RPlantAt w rb p) {a b c : Int} (a0 : 0 ≤ a) (a1 : a ≤ 4) (b0 : 0 ≤ b) (b1 : b ≤ 1) (c0 : 0 ≤ c) (c1 : c ≤ 1) :
    w.cell? ⟨rb, slotOff a b c, none⟩ = some (vi (p.slots ⟨a, b, c⟩)) := block_cell h.blk (slot_cell p a0 a1 b0 b1 c0 c1)

theorem slotNat (w : World) {rb : Nat} {p : Ch.Plant} (h : RPlantAt w rb p) {a b c : Nat} (ha : a ≤ 4) (hb : b ≤ 1) (hc : c ≤ 1) : w.cell? ⟨rb, 7 + a * 4 + b * 2 + c, none⟩ = some (vi (p.slots ⟨(a : Int), (b : Int), (c : Int)⟩)) := by
  have := h.slot (a := (a : Int)) (b := (b : Int)) (c := (c : Int)) (by omega) (by omega) (by omega) (by omega) (by omega) (by omega)
  simpa [slotOff] using this

set_option maxRecDepth 100000 in
set_option maxHeartbeats 1000000 in
theorem rplace_none (rb : Nat) (h e : Int) (w : World) (hc : w.cell? ⟨rb, 1, none⟩ = some (vi h)) (h0 : 0 ≤ h) (h1 : h ≤ 12) (e0 : -3 ≤ e) (e1 : e ≤ 3) (hx : placeAt h e = none) :
    Calls Try.prog 151 #[.pointer (some ⟨rb, 0, none⟩), vi e] w fun r w' => r = .returned (.tuple #[.agg #[vi 0, vi 0, vi 0], .bool false]) ∧ Ext w w' := by
  have hb := cell_lt hc
  have HX := placeAt_none hx
  clear hx
  go_enter Try.func151, Try.ntmps151
  go_wp2
  all_goals
    first
    | (exfalso; go_light; (try simp only [beq_iff_eq] at *); omega)
    | exact bodyPost_ret (v := .tuple #[.agg #[vi 0, vi 0, vi 0], .bool false]) (by simp [results, Try.results151, go_sem]) rfl ⟨rfl, (by simp (maxDischargeDepth := 60))⟩

set_option maxRecDepth 100000 in
set_option maxHeartbeats 1000000 in
theorem rplace_some (rb : Nat) (h e : Int) (a b c : Int) (w : World) (hc : w.cell? ⟨rb, 1, none⟩ = some (vi h)) (h0 : 0 ≤ h) (h1 : h ≤ 12) (e0 : -3 ≤ e) (e1 : e ≤ 3) (hx : placeAt h e = some ⟨a, b, c⟩) :
    Calls Try.prog 151 #[.pointer (some ⟨rb, 0, none⟩), vi e] w fun r w' => r = .returned (.tuple #[.agg #[vi a, vi b, vi c], .bool true]) ∧ Ext w w' := by
  have hb := cell_lt hc
  have HX := placeAt_some hx
  simp only [Ch.Place.mk.injEq] at HX
  have he : e = -2 ∨ e = -1 ∨ e = 1 ∨ e = 2 := by omega
  clear hx
  rcases he with rfl | rfl | rfl | rfl
  all_goals
    have HX := Lib.hid HX
    obtain ⟨k1, k2⟩ : h % 3 = 0 ∧ ¬ h = 0 := ⟨HX.out.1, HX.out.2.1⟩
    go_enter Try.func151, Try.ntmps151
    go_wp2
    all_goals
      have HX := HX.out
      first
      | (exfalso; go_light; (try simp only [beq_iff_eq] at *); omega)
      | (obtain ⟨_, _, _, _, _, ⟨hl, rfl, rfl, rfl⟩ | ⟨hl, rfl, rfl, rfl⟩⟩ := HX
         · first
           | (exfalso; go_light; omega)
           | exact bodyPost_ret (by first | (simp [results, Try.results151, go_sem]; done) | (simp [results, Try.results151, go_sem]; rfl)) rfl ⟨rfl, (by simp (maxDischargeDepth := 60))⟩
         · first
           | (exfalso; go_light; omega)
           | exact bodyPost_ret (by first | (simp [results, Try.results151, go_sem]; done) | (simp [results, Try.results151, go_sem]; rfl)) rfl ⟨rfl, (by simp (maxDischargeDepth := 60))⟩)

set_option maxRecDepth 100000 in
set_option maxHeartbeats 1000000 in
theorem rat_in {rb : Nat} {p : Ch.Plant} {w : World} (h : RPlantAt w rb p) (a b c : Nat) (a1 : 1 ≤ a) (a4 : a ≤ 4) (hb : b ≤ 1) (hc : c ≤ 1) :
    Calls Try.prog 128 #[.pointer (some ⟨rb, 0, none⟩), .agg #[vi (a : Int), vi (b : Int), vi (c : Int)]] w fun r w' => r = .returned (vi (p.slots ⟨(a : Int), (b : Int), (c : Int)⟩)) ∧ Ext w w' := by
  have hs := slotNat w h a4 hb hc
  have hlt := h.lt
  have hf : Hid (Ch.placeFault ⟨(a : Int), (b : Int), (c : Int)⟩ 4 = 0) := Ch.placeFault_iff.2 ⟨by dsimp only; omega, by dsimp only; omega, by dsimp only; omega, by dsimp only; omega, by dsimp only; omega, by dsimp only; omega⟩
  have j0 : (0 : Int) ≤ (a : Int) := by omega
  have j1 : (a : Int) < 5 := by omega
  have j2 : (0 : Int) ≤ (b : Int) := by omega
  have j3 : (b : Int) < 2 := by omega
  have j4 : (0 : Int) ≤ (c : Int) := by omega
  have j5 : (c : Int) < 2 := by omega
  clear h
  go_enter Try.func128, Try.ntmps128
  go_upto_region 3 with (go_at_call 20; refine (rplaceFault_f _ _ _ _ _).mono ?_; rintro e w1 ⟨he, o1, n1, rfl⟩; rw [hf.out] at he; subst he)
  (refine wp_region_ext (by kernel_rfl) (by kernel_rfl) ?_; (repeat (first | go_big_quiet_step (fail) | quiet_step (fail))); refine wpQuiet_nil ?_; intro _ hw'; obtain ⟨oq, nq, hw''⟩ := hw'; subst hw'')
  go_wp2
  go_ret
  exact ⟨rfl, (by simp (maxDischargeDepth := 60))⟩

set_option maxRecDepth 100000 in
set_option maxHeartbeats 1000000 in
theorem rat_out {rb : Nat} {p : Ch.Plant} {w : World} (a b c : Int) (hx : ¬ Ch.placeFault ⟨a, b, c⟩ 4 = 0) :
    Calls Try.prog 128 #[.pointer (some ⟨rb, 0, none⟩), .agg #[vi a, vi b, vi c]] w fun r w' => r = .returned (vi 0) ∧ Ext w w' := by
  have hf : Hid (Ch.placeFault ⟨a, b, c⟩ 4 = 1) := by
    unfold Hid
    unfold Ch.placeFault at hx ⊢
    split <;> simp_all
  clear hx
  go_enter Try.func128, Try.ntmps128
  go_wp2_with (go_at_call 20; refine (rplaceFault_f _ _ _ _ _).mono ?_; rintro e w1 ⟨he, o1, n1, rfl⟩; rw [hf.out] at he; subst he)
  go_ret
  exact ⟨rfl, (by simp (maxDischargeDepth := 60))⟩
end Go.Proofs.Ytplomeacjbkgnaa
