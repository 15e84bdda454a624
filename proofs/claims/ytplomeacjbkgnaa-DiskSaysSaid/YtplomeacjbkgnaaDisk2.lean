/-
  The walks of package disk: what is read, what is written.
-/
import Derived.Test.YtplomeacjbkgnaaDisk
namespace Go.Proofs.Ytplomeacjbkgnaa
open Go.RowKit
variable {T TT : TypeId}

theorem infoByte : (Try.prog.info? 5).map (fun i => (i.zero, i.size, i.bytes)) = some (some (.int .u8 0), 1, 1) := by kernel_rfl

theorem zero_cells (k : Nat) : madeCells #[.int .u8 0] k = (List.replicate k (Value.int .u8 0)).toArray := by
  apply Array.ext
  · simp [madeCells]
  · intro i h1 h2
    simp [madeCells, Nat.mod_one]

/-- a row of noughts, as a string -/
theorem zeros_back (k c : Nat) (w : World) (g : Nat) (h : w.heap[g]? = some (.cells (madeCells #[.int .u8 0] k) 5 (0, 0))) :
    (Go.convert 184 9 (.slice (some ⟨g, 0, none⟩) k c)).run Try.prog w = .ok (vs (Ch.zeros k)) w := by
  have := run_convert_bytes_back (P := Try.prog) w 184 9 5 ⟨g, 0, none⟩ c (List.replicate k 0) Try.underlying184 (by kernel_rfl) (by kernel_rfl) (fun j hj => by
    have hj' : j < k := by simpa using hj
    have e : (⟨g, 0, none⟩ : Addr).add j = ⟨g, j, none⟩ := by unfold Addr.add; split <;> simp_all
    rw [e, zero_cells] at *
    simp [World.cell?, h, hj'])
  simp only [List.length_replicate] at this
  rw [this]
  congr 3

theorem make_zeros (k : Nat) (hk : k ≤ 1000) (w : World) : (Instr.makeSlice 184 (vi (k : Int)) (vi (k : Int))).run Try.prog w = .ok (.slice (some ⟨w.heap.size, 0, none⟩) k k) (w.alloc (.cells (madeCells #[.int .u8 0] k) 5)) := by
  obtain ⟨i0, hi, hz0, hz1, hz2⟩ := info_parts infoByte
  have hr := run_make (P := Try.prog) w 184 5 i0 _ Try.underlying184 hi hz0 .i64 .i64 (k : Int) (k : Int) (by omega) (by omega) (by rw [hz2]; omega) (by omega)
  rw [hr]
  simp [hz1, Value.cells]

set_option maxRecDepth 100000 in
set_option maxHeartbeats 1000000 in
theorem dfull_any (s : ByteArray) (w : World) (hs : s.size ≤ 64) :
    Calls Try.prog 96 #[vs s] w fun e w' => e = .returned (vs (Ch.fullS s)) ∧ Ext w w' := by
  have e1 : (64 : Int) - (s.size : Int) = ((64 - s.size : Nat) : Int) := by omega
  have m1 : ∀ wx, (Instr.makeSlice 184 (vi ((64 : Int) - (s.size : Int))) (vi ((64 : Int) - (s.size : Int)))).run Try.prog wx = .ok (.slice (some ⟨wx.heap.size, 0, none⟩) (64 - s.size) (64 - s.size)) (wx.alloc (.cells (madeCells #[.int .u8 0] (64 - s.size)) 5)) := fun wx => by rw [e1]; exact make_zeros _ (by omega) wx
  have m2 := zeros_back (64 - s.size) (64 - s.size) (w.alloc (.cells (madeCells #[.int .u8 0] (64 - s.size)) 5)) w.heap.size (heap_alloc_new w _)
  have i1 : IntKind.i64.wrap ((64 : Int) - (s.size : Int)) = (64 : Int) - (s.size : Int) := IntWalk.i64_in _ (by omega)
  have m3 : ¬ 9223372036854775807 < s.size + (Ch.zeros (64 - s.size)).size := by rw [Ch.zeros_size]; omega
  clear e1
  go_enter Try.func96, Try.ntmps96
  go_wp2
  go_ret
  exact ⟨rfl, (by simp (maxDischargeDepth := 60))⟩

set_option maxRecDepth 100000 in
theorem sectors_any {F : Nat → Prop} {db kb kc nb nc n : Nat} {wv : Value} {d : Ch.Disk} {w : World} (h : DiskIn w F db kb kc nb nc n wv d) :
    Calls Try.prog 52 #[.pointer (some ⟨db, 0, none⟩)] w fun e w' => e = .returned (vi (n : Int)) ∧ Ext w w' := by
  obtain ⟨c0, c1, c2, c3, c4⟩ := h.cells
  have hb := cell_lt c1
  clear h
  go_enter Try.func52, Try.ntmps52
  go_wp2
  go_ret
  exact ⟨rfl, (by simp (maxDischargeDepth := 60))⟩

set_option maxRecDepth 100000 in
set_option maxHeartbeats 1000000 in
theorem read_any {F : Nat → Prop} {db kb kc nb nc n : Nat} {wv : Value} {d : Ch.Disk} {w : World} (h : DiskIn w F db kb kc nb nc n wv d) (k : Int) :
    Calls Try.prog 55 #[.pointer (some ⟨db, 0, none⟩), vi k] w fun e w' => e = .returned (.tuple #[vs (d.read k).1, errV (d.read k).2]) ∧ Ext w w' := by
  obtain ⟨c0, c1, c2, c3, c4⟩ := h.cells
  have hb := cell_lt c1
  have hn := h.wf.now
  have hnc := h.now.nc
  have hcm := h.now.cm
  unfold maxLen at hcm
  cases hd : d.down
  · rw [hd] at c4
    by_cases hk : k < 0 ∨ (n : Int) ≤ k
    · have HR : Hid (d.read k = (⟨#[]⟩, 1)) := by unfold Hid Ch.Disk.read; rw [hd, if_neg (by simp), hn, if_pos hk]
      clear h hd hn
      rcases hk with hk | hk
      · go_enter Try.func55, Try.ntmps55
        go_wp2
        go_ret2
        exact ⟨by rw [HR.out]; rfl, (by simp (maxDischargeDepth := 60))⟩
      · have hk0 : 0 ≤ k := by omega
        go_enter Try.func55, Try.ntmps55
        go_wp2
        go_ret2
        exact ⟨by rw [HR.out]; rfl, (by simp (maxDischargeDepth := 60))⟩
    · obtain ⟨j, rfl⟩ : ∃ j : Nat, k = (j : Int) := ⟨k.toNat, by omega⟩
      have hj : j < n := by omega
      obtain ⟨s, hs⟩ : ∃ s, d.now[j]? = some s := ⟨d.now[j]'(by omega), by simp⟩
      have hc := h.now.cell hs
      have hbn := cell_lt hc
      have HR : Hid (d.read (j : Int) = (s, 0)) := by unfold Hid Ch.Disk.read; rw [hd, if_neg (by simp), hn, if_neg hk]; simp [List.getD, hs]
      clear h hd hn hk hs
      go_enter Try.func55, Try.ntmps55
      go_wp2
      go_ret2
      exact ⟨by rw [HR.out]; rfl, (by simp (maxDischargeDepth := 60))⟩
  · rw [hd] at c4
    have HR : Hid (d.read k = (⟨#[]⟩, 9)) := by unfold Hid Ch.Disk.read; rw [hd, if_pos rfl]
    clear h hd hn
    go_enter Try.func55, Try.ntmps55
    go_wp2
    go_ret2
    exact ⟨by rw [HR.out]; rfl, (by simp (maxDischargeDepth := 60))⟩

end Go.Proofs.Ytplomeacjbkgnaa
