/-
  The walk of asPlant: a machine held against the reference's.
-/
import Derived.Test.YtplomeacjbkgnaaLOut
namespace Go.Proofs.Ytplomeacjbkgnaa
open Go.RowKit

theorem neqSensed (w : World) (p : Ch.Plant) : (Go.binOp .neq 33 (senseA p) (senseA p)).run Try.prog w = .ok (.bool false) w := by
  refine neqStruct w (r := true) ?_
  have h := eqStruct (P := Try.prog) (r := p.height == p.height && (p.ext == p.ext && (p.door == p.door && (p.people == p.people && (p.lift == p.lift && (p.bay == p.bay && (p.full p.ext == p.full p.ext && (p.full (p.ext - 1) == p.full (p.ext - 1) && (p.full (p.ext + 1) == p.full (p.ext + 1) && true)))))))))
    (xs := #[vi p.height, vi p.ext, .bool p.door, vi p.people, vi p.lift, vi p.bay, .bool (p.full p.ext), .bool (p.full (p.ext - 1)), .bool (p.full (p.ext + 1))]) (ys := #[vi p.height, vi p.ext, .bool p.door, vi p.people, vi p.lift, vi p.bay, .bool (p.full p.ext), .bool (p.full (p.ext - 1)), .bool (p.full (p.ext + 1))]) w (d := 9999) (t := 33)
    [(true, 3, 0), (true, 3, 1), (true, 4, 2), (true, 3, 3), (true, 3, 4), (true, 3, 5), (true, 4, 6), (true, 4, 7), (true, 4, 8)] (by kernel_rfl) (by kernel_rfl) (by kernel_rfl)
    (eqShapeI Try.underlying3 (by kernel_rfl) (by kernel_rfl) (eqShapeI Try.underlying3 (by kernel_rfl) (by kernel_rfl) (eqShapeB Try.underlying4 (by kernel_rfl) (by kernel_rfl) (eqShapeI Try.underlying3 (by kernel_rfl) (by kernel_rfl) (eqShapeI Try.underlying3 (by kernel_rfl) (by kernel_rfl) (eqShapeI Try.underlying3 (by kernel_rfl) (by kernel_rfl) (eqShapeB Try.underlying4 (by kernel_rfl) (by kernel_rfl) (eqShapeB Try.underlying4 (by kernel_rfl) (by kernel_rfl) (eqShapeB Try.underlying4 (by kernel_rfl) (by kernel_rfl) (eqShape_nil w))))))))))
  simpa using h

set_option maxRecDepth 100000 in
set_option maxHeartbeats 4000000 in
theorem asPlant_any {pb mb rb : Nat} {p : Ch.Plant} {w : World} (h : Both w pb mb rb p) (hp : p.WF) :
    Calls Try.prog 79 #[.pointer (some ⟨pb, 0, none⟩), .pointer (some ⟨rb, 0, none⟩)] w fun e w' => e = .returned (.bool true) ∧ Ext w w' := by
  have HB := Lib.hid h
  have hqs := fun w => neqSensed w p
  obtain ⟨c0, c1, c2, c3, c4, c5, c6, c7, c8⟩ := h.b.cells
  have hlt := h.b.lt
  clear c0 c1 c2 c3 c4 c5 c6 c7 h
  go_enter Try.func79, Try.ntmps79
  go_wp2
  (refine wp_region_ext (by kernel_rfl) (by kernel_rfl) ?_; (repeat (first | go_big_quiet_step ((first | (intro _; go_at_call 116; exact ext_callG (sense_any (HB.out.a.ext (by simp (maxDischargeDepth := 60))) hp) (by rintro w' ⟨o', n', rfl⟩; exact ⟨_, n', by first | (simp only [plus_plus]; rfl) | (simp only [plus_plus, Array.append_assoc]; rfl) | rfl⟩)) | (intro _; go_at_call 126; exact ext_callG (rsense_any (HB.out.b.ext (by simp (maxDischargeDepth := 60))) hp) (by rintro w' ⟨o', n', rfl⟩; exact ⟨_, n', by first | (simp only [plus_plus]; rfl) | (simp only [plus_plus, Array.append_assoc]; rfl) | rfl⟩)) | (intro _; go_at_call 117; exact ext_callG (hurt_any (HB.out.a.ext (by simp (maxDischargeDepth := 60)))) (by rintro w' ⟨o', n', rfl⟩; exact ⟨_, n', by first | (simp only [plus_plus]; rfl) | (simp only [plus_plus, Array.append_assoc]; rfl) | rfl⟩)))) | quiet_step ((first | (intro _; go_at_call 116; exact ext_callG (sense_any (HB.out.a.ext (by simp (maxDischargeDepth := 60))) hp) (by rintro w' ⟨o', n', rfl⟩; exact ⟨_, n', by first | (simp only [plus_plus]; rfl) | (simp only [plus_plus, Array.append_assoc]; rfl) | rfl⟩)) | (intro _; go_at_call 126; exact ext_callG (rsense_any (HB.out.b.ext (by simp (maxDischargeDepth := 60))) hp) (by rintro w' ⟨o', n', rfl⟩; exact ⟨_, n', by first | (simp only [plus_plus]; rfl) | (simp only [plus_plus, Array.append_assoc]; rfl) | rfl⟩)) | (intro _; go_at_call 117; exact ext_callG (hurt_any (HB.out.a.ext (by simp (maxDischargeDepth := 60)))) (by rintro w' ⟨o', n', rfl⟩; exact ⟨_, n', by first | (simp only [plus_plus]; rfl) | (simp only [plus_plus, Array.append_assoc]; rfl) | rfl⟩)))))); refine wpQuiet_nil ?_; intro _ hw'; obtain ⟨oq, nq, hw''⟩ := hw'; subst hw'')
  go_wp2
  go_loopw [5] (fun i wr => ∃ n : Int, 0 ≤ n ∧ n ≤ 6 ∧ i = .int .i64 n ∧ Ext w wr) (fun i _ => (6 - intOf i).toNat)
  case atStart => exact ⟨0, by omega, by omega, rfl, (by simp (maxDischargeDepth := 60))⟩
  case round =>
    obtain ⟨n, n0, n6, rfl, hxr⟩ := hrel
    have HXR := Lib.hid hxr
    clear hxr
    by_cases hn : n ≤ 5
    · go_wp2
      go_loopw [6] (fun i wr => ∃ s : Int, -1 ≤ s ∧ s ≤ 3 ∧ i = .int .i64 s ∧ Ext w wr) (fun i _ => (3 - intOf i).toNat)
      case atStart => exact ⟨-1, by omega, by omega, rfl, HXR.out.trans (by simp (maxDischargeDepth := 60))⟩
      case round =>
        obtain ⟨s, s0, s3, rfl, hxr⟩ := hrel
        have HXR := Lib.hid hxr
        clear hxr
        by_cases hs : s < 3
        · go_wp2
          go_loopw [7] (fun i wr => ∃ d : Int, -1 ≤ d ∧ d ≤ 3 ∧ i = .int .i64 d ∧ Ext w wr) (fun i _ => (3 - intOf i).toNat)
          case atStart => exact ⟨-1, by omega, by omega, rfl, HXR.out.trans (by simp (maxDischargeDepth := 60))⟩
          case round =>
            obtain ⟨d, d0, d3, rfl, hxr⟩ := hrel
            have HXR := Lib.hid hxr
            have HBR := Lib.hid (HB.out.ext hxr)
            clear hxr
            by_cases hd : d < 3
            · go_upto_region 13 with fail
              (refine wp_region_ext (by kernel_rfl) (by kernel_rfl) ?_; (repeat (first | go_big_quiet_step ((first | (intro _; go_at_call 127; exact ext_callG (at_any (HBR.out.a.ext (by simp (maxDischargeDepth := 60))) n s d) (by rintro w' ⟨o', n', rfl⟩; exact ⟨_, n', by first | (simp only [plus_plus]; rfl) | (simp only [plus_plus, Array.append_assoc]; rfl) | rfl⟩)) | (intro _; go_at_call 128; exact ext_callG (rat_any (HBR.out.b.ext (by simp (maxDischargeDepth := 60))) hp n s d) (by rintro w' ⟨o', n', rfl⟩; exact ⟨_, n', by first | (simp only [plus_plus]; rfl) | (simp only [plus_plus, Array.append_assoc]; rfl) | rfl⟩)))) | quiet_step ((first | (intro _; go_at_call 127; exact ext_callG (at_any (HBR.out.a.ext (by simp (maxDischargeDepth := 60))) n s d) (by rintro w' ⟨o', n', rfl⟩; exact ⟨_, n', by first | (simp only [plus_plus]; rfl) | (simp only [plus_plus, Array.append_assoc]; rfl) | rfl⟩)) | (intro _; go_at_call 128; exact ext_callG (rat_any (HBR.out.b.ext (by simp (maxDischargeDepth := 60))) hp n s d) (by rintro w' ⟨o', n', rfl⟩; exact ⟨_, n', by first | (simp only [plus_plus]; rfl) | (simp only [plus_plus, Array.append_assoc]; rfl) | rfl⟩)))))); refine wpQuiet_nil ?_; intro _ hw'; obtain ⟨oq, nq, hw''⟩ := hw'; subst hw'')
              go_wp2
              go_roundw
              case rel => first | exact ⟨d + 1, by omega, by omega, by go_num, HXR.out.trans (by simp (maxDischargeDepth := 60))⟩ | (repeat apply Exists.intro; refine ⟨?_, rfl⟩; exact ⟨d + 1, by omega, by omega, by go_num, HXR.out.trans (by simp (maxDischargeDepth := 60))⟩)
              case measure => simp [intOf]; omega
            · go_wp2
              go_roundw
              case rel => first | exact ⟨s + 1, by omega, by omega, by go_num, HXR.out.trans (by simp (maxDischargeDepth := 60))⟩ | (repeat apply Exists.intro; refine ⟨?_, rfl⟩; exact ⟨s + 1, by omega, by omega, by go_num, HXR.out.trans (by simp (maxDischargeDepth := 60))⟩)
              case measure => simp [intOf]; omega
        · go_wp2
          go_roundw
          case rel => first | exact ⟨n + 1, by omega, by omega, by go_num, HXR.out.trans (by simp (maxDischargeDepth := 60))⟩ | (repeat apply Exists.intro; refine ⟨?_, rfl⟩; exact ⟨n + 1, by omega, by omega, by go_num, HXR.out.trans (by simp (maxDischargeDepth := 60))⟩)
          case measure => simp [intOf]; omega
    · go_wp2
      go_ret
      exact ⟨rfl, HXR.out.trans (by simp (maxDischargeDepth := 60))⟩
end Go.Proofs.Ytplomeacjbkgnaa
