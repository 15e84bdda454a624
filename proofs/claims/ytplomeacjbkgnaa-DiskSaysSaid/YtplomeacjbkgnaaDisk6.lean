/-
  The walks of disk.New, and of the library's slices.Repeat, slices.Clone at strings.
-/
import Derived.Test.YtplomeacjbkgnaaDisk5
import Derived.Laws.Bits64b
import Derived.WalkSpells
namespace Go.Proofs.Ytplomeacjbkgnaa
open Go.RowKit
variable {T TT : TypeId}

theorem mask_nat (a : Nat) (ha : a ≤ 40) : bits .and .u64 (a : Int) 4294967295 = (a : Int) := by
  have h := bits_and_u64_nat a 4294967295 (by omega) (by decide)
  have e : a &&& 4294967295 = a % 4294967296 := Nat.and_two_pow_sub_one_eq_mod a 32
  rw [e, Nat.mod_eq_of_lt (by omega)] at h
  exact h

set_option maxRecDepth 100000 in
set_option maxHeartbeats 1000000 in
theorem mul64_one (n : Nat) (hn : n ≤ 40) (w : World) : Calls Try.prog 156 #[.int .u64 1, .int .u64 (n : Int)] w fun e w' => e = .returned (.tuple #[.int .u64 0, .int .u64 (n : Int)]) ∧ w' = w := by
  have m1 : bits .and .u64 1 4294967295 = 1 := mask_nat 1 (by omega)
  have m2 := mask_nat n hn
  have m3 : bits .and .u64 0 4294967295 = 0 := mask_nat 0 (by omega)
  have d1 : (n : Int) / 4294967296 = 0 := by omega
  have w1 : IntKind.u64.wrap (n : Int) = (n : Int) := by rw [IntKind.wrap_u64]; omega
  have w0 : IntKind.u64.wrap 0 = 0 := by rw [IntKind.wrap_u64]; rfl
  go_enter Try.func156, Try.ntmps156
  go_wp2
  try simp only [m1, m2, m3, d1, w1, w0, Int.one_mul, Int.zero_mul, Int.mul_zero, Int.zero_add, Int.add_zero, Int.zero_ediv, Int.mul_one, Int.one_ediv, show (1 : Int) / 4294967296 = 0 by decide]
  go_ret2
  exact ⟨rfl, rfl⟩

set_option maxRecDepth 100000 in
set_option maxHeartbeats 1000000 in
theorem mul_one (n : Nat) (hn : n ≤ 40) (w : World) : Calls Try.prog 135 #[.int .u64 1, .int .u64 (n : Int)] w fun e w' => e = .returned (.tuple #[.int .u64 0, .int .u64 (n : Int)]) ∧ w' = w := by
  go_enter Try.func135, Try.ntmps135
  go_wp2_with (go_at_call 156; (with_reducible refine (mul64_one n hn _).mono ?_); rintro e w1 ⟨rfl, hw⟩; rw [hw])
  go_ret2
  exact ⟨rfl, rfl⟩

theorem infoStr3 : (Try.prog.info? 9).map (fun i => (i.zero, i.size, i.bytes)) = some (some (vs ⟨#[]⟩), 1, 16) := by kernel_rfl

/-- a row that is filled up to m -/
def repCells (s : ByteArray) (m n : Nat) : Array Value := (List.replicate m (vs s) ++ List.replicate (n - m) (vs ⟨#[]⟩)).toArray

theorem rep_size {s : ByteArray} {m n : Nat} (h : m ≤ n) : (repCells s m n).size = n := by simp [repCells]; omega

theorem rep_made (s : ByteArray) (n : Nat) : madeCells #[vs ⟨#[]⟩] n = repCells s 0 n := by
  apply Array.ext
  · simp [madeCells, repCells]
  · intro i h1 h2
    simp [madeCells, Nat.mod_one, repCells]

theorem make_strs (n : Nat) (hn : n ≤ 1000) (s : ByteArray) (w : World) : (Instr.makeSlice 87 (vi (n : Int)) (vi (n : Int))).run Try.prog w = .ok (.slice (some ⟨w.heap.size, 0, none⟩) n n) (w.alloc (.cells (repCells s 0 n) 9)) := by
  obtain ⟨i0, hi, hz0, hz1, hz2⟩ := info_parts infoStr3
  have hr := run_make (P := Try.prog) w 87 9 i0 _ Try.underlying87 hi hz0 .i64 .i64 (n : Int) (n : Int) (by omega) (by omega) (by rw [hz2]; omega) (by omega)
  rw [hr]
  simp [hz1, Value.cells, rep_made s n]

theorem rep_copy (s : ByteArray) {m k n : Nat} (h : m + k ≤ n) : ((repCells s m n).toList.take m ++ (List.replicate k (vs s) ++ (repCells s m n).toList.drop (m + (List.replicate k (vs s)).length))).toArray = repCells s (m + k) n := by
  apply Array.ext'
  simp only [repCells, List.length_replicate]
  have e1 : (List.replicate m (vs s) ++ List.replicate (n - m) (vs ⟨#[]⟩)).take m = List.replicate m (vs s) := by
    rw [List.take_append_of_le_length (by simp)]; simp
  have e2 : (List.replicate m (vs s) ++ List.replicate (n - m) (vs ⟨#[]⟩)).drop (m + k) = List.replicate (n - (m + k)) (vs ⟨#[]⟩) := by
    rw [List.drop_append]; simp; omega
  rw [e1, e2, ← List.append_assoc, List.replicate_append_replicate]

/-- so far: the new row holds m of them -/
structure Filled (w wr : World) (g m n : Nat) (s : ByteArray) : Prop where
  heap : wr.heap[g]? = some (.cells (repCells s m n) 9 (0, 0))
  ext : Ext w wr
  m1 : 1 ≤ m
  mn : m ≤ n

theorem Filled.src {w wr : World} {g m n : Nat} {s : ByteArray} (h : Filled w wr g m n s) {k : Nat} (hk : k ≤ m) : ∀ j v, (List.replicate k (vs s))[j]? = some v → wr.cell? ((⟨g, 0, none⟩ : Addr).add j) = some v := by
  intro j v hj
  have hjk : j < k := by
    by_cases hjk : j < k
    · exact hjk
    · rw [List.getElem?_eq_none (by simp; omega)] at hj; cases hj
  have e : (⟨g, 0, none⟩ : Addr).add j = ⟨g, j, none⟩ := by unfold Addr.add; split <;> simp_all
  rw [e]
  refine blk_cell h.heap ?_
  rw [List.getElem?_replicate, if_pos hjk] at hj
  simp only [repCells, List.getElem?_toArray]
  rw [List.getElem?_append_left (by simp; omega), List.getElem?_replicate, if_pos (by omega)]
  exact hj

theorem oneRep (s : ByteArray) (k : Nat) : ∀ v ∈ List.replicate k (vs s), v.oneCell' = true := by
  intro v hv
  rw [(List.mem_replicate.1 hv).2]; rfl

theorem Filled.row {w wr : World} {g n : Nat} {s : ByteArray} (h : Filled w wr g n n s) (hn : n ≤ 1000) : StrRow wr g n n (List.replicate n s) :=
  ⟨by simp, Nat.le_refl _, by unfold maxLen; omega, _, h.heap, rep_size (Nat.le_refl _), by simp [repCells]⟩

set_option maxRecDepth 100000 in
set_option maxHeartbeats 2000000 in
theorem repeat_any (s : ByteArray) (n b : Nat) (w : World) (h0 : w.heap[b]? = some (.cells #[vs s] 9 (0, 0))) (h1 : 1 ≤ n) (h2 : n ≤ 40) :
    Calls Try.prog 95 #[.slice (some ⟨b, 0, none⟩) 1 1, vi (n : Int)] w fun e w' => ∃ g, e = .returned (.slice (some ⟨g, 0, none⟩) n n) ∧ w.heap.size ≤ g ∧ StrRow w' g n n (List.replicate n s) ∧ Ext w w' := by
  have hb := blk_lt h0
  have mk := fun w => make_strs n (by omega) s w
  have H0 := Lib.hid h0
  clear h0
  go_enter Try.func95, Try.ntmps95
  go_upto_region 7 with (go_at_call 135; (with_reducible refine (mul_one n h2 _).mono ?_); rintro e w1 ⟨rfl, hw⟩; rw [hw])
  have rz := rep_size (s := s) (m := 0) (n := n) (by omega)
  have hsrc : ∀ j v, ([vs s] : List Value)[j]? = some v → (w.alloc (.cells (repCells s 0 n) 9)).cell? ((⟨b, 0, none⟩ : Addr).add j) = some v := by
    intro j v hj
    match j, hj with
    | 0, hj =>
      obtain rfl : vs s = v := by simpa using hj
      exact xcell (w := w) (by simp (maxDischargeDepth := 60)) (blk_cell H0.out rfl)
  have HSRC := Lib.hid hsrc
  clear hsrc
  have hcp := run_copy_row (P := Try.prog) (w.alloc (.cells (repCells s 0 n) 9)) 87 87 3 9 w.heap.size 0 n n ⟨b, 0, none⟩ 1 1 (repCells s 0 n) 9 [vs s] Try.underlying87 infoStr (heap_alloc_new w _) (show 1 = min 1 n by omega) HSRC.out (show 0 + 1 ≤ (repCells s 0 n).size by rw [rz]; omega) (by simp [Value.oneCell'])
  generalize hW : World.setRow _ _ _ = w2 at hcp
  have e1 := rep_copy s (m := 0) (k := 1) (n := n) (by omega)
  have F0 : Filled w w2 w.heap.size 1 n s := by
    refine ⟨?_, ?_, by omega, h1⟩
    · rw [← hW, setRow_heap _ _ (repCells s 0 n) _ 9 _ (heap_alloc_new w _), ← e1]
      congr 2
    · rw [← hW]
      exact Ext.of_below (below_setRow (Ext.below (by simp (maxDischargeDepth := 60))) (Nat.le_refl _) _)
  have HF := Lib.hid F0
  clear F0 hW HSRC rz e1
  go_wp2
  go_loopw [8] (fun i wr => ∃ m : Nat, i = .int .i64 m ∧ Filled w wr w.heap.size m n s) (fun i _ => n - (intOf i).toNat)
  case atStart => exact ⟨1, rfl, HF.out⟩
  case round =>
    obtain ⟨m, rfl, hf⟩ := hrel
    have hm1 := hf.m1
    have hmn := hf.mn
    have HR := Lib.hid hf
    by_cases hlt : m < n
    · have hne : ¬ m = n := by omega
      clear hf
      go_upto_region 9 with fail
      have hq : Filled w wr.drew w.heap.size m n s := ⟨HR.out.heap, HR.out.ext.drew, hm1, hmn⟩
      have hk : m + min m (n - m) ≤ n := by omega
      have e1 := rep_copy s (m := m) (k := min m (n - m)) (n := n) hk
      have hcp2 := run_copy_row (P := Try.prog) wr.drew 87 87 3 9 w.heap.size m (n - m) (n - m) ⟨w.heap.size, 0, none⟩ m n (repCells s m n) 9 (List.replicate (min m (n - m)) (vs s)) Try.underlying87 infoStr hq.heap (by rw [List.length_replicate]) (hq.src (by omega)) (by rw [List.length_replicate, rep_size hmn]; exact hk) (oneRep _ _)
      rw [List.append_assoc, e1, List.length_replicate] at hcp2
      have hq2 : Filled w (wr.drew.setRow w.heap.size (repCells s (m + min m (n - m)) n)) w.heap.size (m + min m (n - m)) n s := ⟨setRow_heap _ _ _ _ 9 _ hq.heap, Ext.of_below (below_setRow hq.ext.below (Nat.le_refl _) _), by omega, hk⟩
      generalize wr.drew.setRow w.heap.size (repCells s (m + min m (n - m)) n) = w4 at hcp2 hq2
      have hwr : IntKind.i64.wrap ((m : Int) + ((min m (n - m) : Nat) : Int)) = (m : Int) + ((min m (n - m) : Nat) : Int) := IntWalk.i64_in _ (by omega)
      clear hq e1
      go_region_held3 (fun _ => True) (first | exact trivial) (first | fail)
      have HQ2 := Lib.hid hq2
      clear hq2
      go_wp2
      go_roundw
      case rel => exact ⟨m + min m (n - m), by go_num, HQ2.out⟩
      case measure => simp [intOf]; omega
    · obtain rfl : m = n := by omega
      clear hf
      go_wp2
      go_ret
      exact ⟨w.heap.size, rfl, Nat.le_refl _, HR.out.row (by omega), HR.out.ext⟩

end Go.Proofs.Ytplomeacjbkgnaa
