/-
  The walks of disk.Down, disk.Arm.
-/
import Derived.Test.YtplomeacjbkgnaaDisk2
namespace Go.Proofs.Ytplomeacjbkgnaa
open Go.RowKit
variable {T TT : TypeId}

set_option maxRecDepth 100000 in
theorem down_any {F : Nat → Prop} {db kb kc nb nc n : Nat} {wv : Value} {d : Ch.Disk} {w : World} (h : DiskIn w F db kb kc nb nc n wv d) :
    Calls Try.prog 62 #[.pointer (some ⟨db, 0, none⟩)] w fun e w' => e = .returned (.bool d.down) ∧ Ext w w' := by
  obtain ⟨c0, c1, c2, c3, c4⟩ := h.cells
  have hb := cell_lt c1
  clear h
  go_enter Try.func62, Try.ntmps62
  go_wp2
  go_ret
  exact ⟨rfl, (by simp (maxDischargeDepth := 60))⟩

set_option maxRecDepth 100000 in
theorem arm_any {F : Nat → Prop} {db kb kc nb nc n : Nat} {wv : Value} {d : Ch.Disk} {w : World} (h : DiskIn w F db kb kc nb nc n wv d) (k : Int) (hk : k ≤ 9223372036854775807) :
    Calls Try.prog 59 #[.pointer (some ⟨db, 0, none⟩), vi k] w (DDid F db n w (d.arm k) (.tuple #[])) := by
  obtain ⟨c0, c1, c2, c3, c4⟩ := h.cells
  have HD := Lib.hid h
  have HW := Lib.hid (h.wf.arm k hk)
  have fz := blk_free h.blk
  have hb := cell_lt c1
  have f1 := h.f1
  clear h
  go_enter Try.func59, Try.ntmps59
  go_wp2
  all_goals
    go_end0
    exact DiskInT.did (HD.out.put 3 _ (by simp [Ch.Disk.arm]; omega) rfl rfl rfl HW.out) ((Kept.refl _ _).setCell (Or.inl f1) _)

end Go.Proofs.Ytplomeacjbkgnaa
