/-
  The walk of TopFree.
-/
import Derived.Test.YtplomeacjbkgnabLists
import Derived.Test.YtplomeacjbkgnabGuard
import Derived.Deep.RegionHeld3
namespace Go.Proofs.Ytplomeacjbkgnab
open Go.RowKit

/-- how it stands with the machine at a round's head -/
structure FreeAt (w wr : World) (pb mb : Nat) (p : Ch.Plant) : Prop where
  at_ : PlantAt wr pb mb p
  wf : p.WF
  st : p.stall = 0
  below : Below w.heap.size w wr

theorem FreeAt.next {w wr w' : World} {pb mb : Nat} {p q : Ch.Plant} (h : FreeAt w wr pb mb p) (h1 : PlantAt w' pb mb q) (h2 : q.WF) (h3 : q.stall = 0) (k : Kept (Own pb mb) wr w') (hb1 : w.heap.size ≤ pb) (hb2 : w.heap.size ≤ mb) : FreeAt w w' pb mb q :=
  ⟨h1, h2, h3, below_kept h.below (Nat.le_refl _) k (fun i hi => by rcases hi with rfl | rfl <;> omega)⟩

theorem FreeAt.ext {w wr w' : World} {pb mb : Nat} {p : Ch.Plant} (h : FreeAt w wr pb mb p) (x : Ext wr w') (hb1 : w.heap.size ≤ pb) (hb2 : w.heap.size ≤ mb) : FreeAt w w' pb mb p :=
  h.next (h.at_.ext x) h.wf h.st (Kept.of_ext x) hb1 hb2

theorem eqlSensed (w : World) (p : Ch.Plant) : (Go.binOp .eql 88 (senseA p) (senseA p)).run Try.prog w = .ok (.bool true) w := by
  refine eqlStruct w ?_
  have h := eqStruct (P := Try.prog) (r := p.height == p.height && (p.ext == p.ext && (p.door == p.door && (p.people == p.people && (p.lift == p.lift && (p.bay == p.bay && (p.full p.ext == p.full p.ext && (p.full (p.ext - 1) == p.full (p.ext - 1) && (p.full (p.ext + 1) == p.full (p.ext + 1) && true)))))))))
    (xs := #[vi p.height, vi p.ext, .bool p.door, vi p.people, vi p.lift, vi p.bay, .bool (p.full p.ext), .bool (p.full (p.ext - 1)), .bool (p.full (p.ext + 1))]) (ys := #[vi p.height, vi p.ext, .bool p.door, vi p.people, vi p.lift, vi p.bay, .bool (p.full p.ext), .bool (p.full (p.ext - 1)), .bool (p.full (p.ext + 1))]) w (d := 9999) (t := 88)
    [(true, 3, 0), (true, 3, 1), (true, 4, 2), (true, 3, 3), (true, 3, 4), (true, 3, 5), (true, 4, 6), (true, 4, 7), (true, 4, 8)] (by kernel_rfl) (by kernel_rfl) (by kernel_rfl)
    (eqShapeI Try.underlying3 (by kernel_rfl) (by kernel_rfl) (eqShapeI Try.underlying3 (by kernel_rfl) (by kernel_rfl) (eqShapeB Try.underlying4 (by kernel_rfl) (by kernel_rfl) (eqShapeI Try.underlying3 (by kernel_rfl) (by kernel_rfl) (eqShapeI Try.underlying3 (by kernel_rfl) (by kernel_rfl) (eqShapeI Try.underlying3 (by kernel_rfl) (by kernel_rfl) (eqShapeB Try.underlying4 (by kernel_rfl) (by kernel_rfl) (eqShapeB Try.underlying4 (by kernel_rfl) (by kernel_rfl) (eqShapeB Try.underlying4 (by kernel_rfl) (by kernel_rfl) (eqShape_nil w))))))))))
  simpa using h

theorem NewInts.sl {w : World} {l : List Int} {e : Ending} {w' : World} (h : NewInts w l e w') : ∃ a n cap, e = .returned (.slice a n cap) ∧ Sl w' 1 intCells l a n cap ∧ (∀ b o, a = some ⟨b, o, none⟩ → w.heap.size ≤ b) ∧ Ext w w' := by
  obtain ⟨v, rfl, ho, hx⟩ := h
  obtain ⟨a, cap, rfl, hs⟩ := Sl.of_owns ho (by decide) (fun _ => rfl)
  refine ⟨a, _, cap, rfl, hs, ?_, hx⟩
  rintro b o rfl
  exact (ho.lt b rfl).1

theorem sl_kept {α : Type} {w w' : World} {c : Nat} {enc : α → List Value} {l : List α} {a : Option Addr} {n cap : Nat} {S : Nat → Prop} (h : Sl w c enc l a n cap) (k : Kept S w w') (hs : ∀ b o, a = some ⟨b, o, none⟩ → ¬ S b) : Sl w' c enc l a n cap := by
  refine ⟨h.1, h.2.1, h.2.2.1, fun h0 => ?_⟩
  obtain ⟨b, o, rfl, hc⟩ := h.2.2.2 h0
  refine ⟨b, o, rfl, fun i x hx j y hy => ?_⟩
  have h1 := hc i x hx j y hy
  have hlt := cell_lt h1
  have h2 := k.block b hlt (hs b o rfl)
  simp only [World.cell?, h2]
  simpa only [World.cell?] using h1

set_option maxRecDepth 100000 in
set_option maxHeartbeats 8000000 in
theorem topFree_ok (L c : Int) (a : Option Addr) (n cap : Nat) (l : List RAct) (w : World) (h : Sl w 12 ractCells l a n cap) (hg : ∀ x ∈ l, x.Good) (L1 : 1 ≤ L) (L2 : L ≤ 4) :
    Calls Try.prog 10 #[vi L, .slice a n cap, vb c] w fun e w' => e = .returned (.bool true) ∧ Ext w w' := by
  have HS := Lib.hid h
  have HG := Lib.hid hg
  have hb := h.bound
  clear h hg
  go_enter Try.func10, Try.ntmps10
  go_wp2_with (first
    | (go_at_call 26; (with_reducible refine (moved_any _).mono ?_); rintro e w1 ⟨rfl, o1, n1, rfl⟩)
    | (go_at_call 22; (with_reducible refine (lightActs_any _ _ _ _ l _ (Sl.below HS.out (Ext.below (by simp (maxDischargeDepth := 60)))) HG.out).mono ?_); rintro e w2 ⟨lb, rfl, o2, n2, rfl⟩; cases lb)
    | (go_at_call 27; (with_reducible refine (new_any L _ L1 L2).mono ?_); rintro e w3 ⟨pb, mb, rfl, hq, hx, hb1, hb2⟩))
  · go_ret
    exact ⟨rfl, (by simp (maxDischargeDepth := 60))⟩
  have b1 : w.heap.size ≤ pb := by simp at hb1; omega
  have b2 : w.heap.size ≤ mb := by simp at hb2; omega
  have hx0 : Ext w w3 := Ext.trans (by simp (maxDischargeDepth := 60)) hx
  have S0 : FreeAt w w3 pb mb (Ch.Plant.new L) := ⟨hq, Ch.Plant.WF.new L1 L2, rfl, hx0.below⟩
  have HS0 := Lib.hid S0
  clear hq hx hx0 hb1 hb2 S0
  go_loopw [10] (fun i wr => ∃ (k : Nat) (p : Ch.Plant), k ≤ n ∧ i = .int .i64 k ∧ FreeAt w wr pb mb p) (fun i _ => n - (intOf i).toNat)
  case atStart => exact ⟨0, _, by omega, rfl, HS0.out⟩
  case round =>
    obtain ⟨k, p, hk, rfl, hp⟩ := hrel
    have hwf := hp.wf
    have HST := Lib.hid hp.st
    have HP := Lib.hid hp
    by_cases hlt : k < n
    · obtain ⟨b, q, x, rfl, hx, dx⟩ := (Sl.below HS.out hp.below).get hlt
      have dx := at12 dx
      have hbl := cell_lt dx.1
      have gx := HG.out x (List.mem_of_getElem? hx)
      have l1 := gx.s
      unfold maxLen at l1
      have GX := Lib.hid gx
      clear hp gx hx
      by_cases hk1 : x.kind = Ch.kStep
      · have e1 : (x.kind.toList == [115, 116, 101, 112]) = true := kind_is hk1
        clear hk1
        by_cases hz : 0 < x.s.size
        · have z1 : decide (0 < x.s.size) = true := by simpa using hz
          cases hm : Ch.may (x.s[0].toNat : Int) p.sense
          · have hm' : Ch.may (x.s[0].toNat : Int) ⟨p.height, p.ext, p.door, p.people, p.lift, p.bay, p.full p.ext, p.full (p.ext - 1), p.full (p.ext + 1)⟩ = false := hm
            clear hm
            go_wp2
            (refine wp_region_ext (by kernel_rfl) (by kernel_rfl) ?_; (repeat (first | go_big_quiet_step ((first | (intro _; go_at_call 42; exact ext_callG (sense_any (HP.out.at_.ext (by simp (maxDischargeDepth := 60))) hwf) (by rintro w' ⟨o', n', rfl⟩; exact ⟨_, n', by first | (simp only [plus_plus]; rfl) | (simp only [plus_plus, Array.append_assoc]; rfl) | rfl⟩)) | (intro _; go_at_call 41; exact ext_callG (may_f _ _ _ _ _ _ _ _ _ _ _) (by rintro w' ⟨o', n', rfl⟩; exact ⟨_, n', by first | (simp only [plus_plus]; rfl) | (simp only [plus_plus, Array.append_assoc]; rfl) | rfl⟩)))) | quiet_step ((first | (intro _; go_at_call 42; exact ext_callG (sense_any (HP.out.at_.ext (by simp (maxDischargeDepth := 60))) hwf) (by rintro w' ⟨o', n', rfl⟩; exact ⟨_, n', by first | (simp only [plus_plus]; rfl) | (simp only [plus_plus, Array.append_assoc]; rfl) | rfl⟩)) | (intro _; go_at_call 41; exact ext_callG (may_f _ _ _ _ _ _ _ _ _ _ _) (by rintro w' ⟨o', n', rfl⟩; exact ⟨_, n', by first | (simp only [plus_plus]; rfl) | (simp only [plus_plus, Array.append_assoc]; rfl) | rfl⟩)))))); refine wpQuiet_nil ?_; intro _ hw'; obtain ⟨oq, nq, hw''⟩ := hw'; subst hw'')
            go_wp2
            go_roundw
            case rel => exact ⟨k + 1, _, by omega, by go_num, HP.out.ext (by simp (maxDischargeDepth := 60)) b1 b2⟩
            case measure => simp [intOf]; omega
          · have hm' : Ch.may (x.s[0].toNat : Int) ⟨p.height, p.ext, p.door, p.people, p.lift, p.bay, p.full p.ext, p.full (p.ext - 1), p.full (p.ext + 1)⟩ = true := hm
            clear hm
            go_wp2
            (refine wp_region_ext (by kernel_rfl) (by kernel_rfl) ?_; (repeat (first | go_big_quiet_step ((first | (intro _; go_at_call 42; exact ext_callG (sense_any (HP.out.at_.ext (by simp (maxDischargeDepth := 60))) hwf) (by rintro w' ⟨o', n', rfl⟩; exact ⟨_, n', by first | (simp only [plus_plus]; rfl) | (simp only [plus_plus, Array.append_assoc]; rfl) | rfl⟩)) | (intro _; go_at_call 41; exact ext_callG (may_f _ _ _ _ _ _ _ _ _ _ _) (by rintro w' ⟨o', n', rfl⟩; exact ⟨_, n', by first | (simp only [plus_plus]; rfl) | (simp only [plus_plus, Array.append_assoc]; rfl) | rfl⟩)))) | quiet_step ((first | (intro _; go_at_call 42; exact ext_callG (sense_any (HP.out.at_.ext (by simp (maxDischargeDepth := 60))) hwf) (by rintro w' ⟨o', n', rfl⟩; exact ⟨_, n', by first | (simp only [plus_plus]; rfl) | (simp only [plus_plus, Array.append_assoc]; rfl) | rfl⟩)) | (intro _; go_at_call 41; exact ext_callG (may_f _ _ _ _ _ _ _ _ _ _ _) (by rintro w' ⟨o', n', rfl⟩; exact ⟨_, n', by first | (simp only [plus_plus]; rfl) | (simp only [plus_plus, Array.append_assoc]; rfl) | rfl⟩)))))); refine wpQuiet_nil ?_; intro _ hw'; obtain ⟨oq, nq, hw''⟩ := hw'; subst hw'')
            go_wp2_with (go_at_call 43; (with_reducible refine (step_any (HP.out.at_.ext (by simp (maxDischargeDepth := 60))) hwf _).mono ?_); rintro e w4 ⟨rfl, hq4, hk4⟩)
            have HN := Lib.hid (HP.out.next hq4 (hwf.step _) (Ch.step_stall HST.out _) ((Kept.of_ext (by simp (maxDischargeDepth := 60))).trans hk4) b1 b2)
            clear hq4 hk4
            go_roundw
            case rel => exact ⟨k + 1, _, by omega, by go_num, HN.out⟩
            case measure => simp [intOf]; omega
        · have z1 : decide (0 < x.s.size) = false := by simpa using hz
          go_wp2
          (refine wp_region_ext (by kernel_rfl) (by kernel_rfl) ?_; (repeat (first | go_big_quiet_step ((first | (intro _; go_at_call 42; exact ext_callG (sense_any (HP.out.at_.ext (by simp (maxDischargeDepth := 60))) hwf) (by rintro w' ⟨o', n', rfl⟩; exact ⟨_, n', by first | (simp only [plus_plus]; rfl) | (simp only [plus_plus, Array.append_assoc]; rfl) | rfl⟩)) | (intro _; go_at_call 41; exact ext_callG (may_f _ _ _ _ _ _ _ _ _ _ _) (by rintro w' ⟨o', n', rfl⟩; exact ⟨_, n', by first | (simp only [plus_plus]; rfl) | (simp only [plus_plus, Array.append_assoc]; rfl) | rfl⟩)))) | quiet_step ((first | (intro _; go_at_call 42; exact ext_callG (sense_any (HP.out.at_.ext (by simp (maxDischargeDepth := 60))) hwf) (by rintro w' ⟨o', n', rfl⟩; exact ⟨_, n', by first | (simp only [plus_plus]; rfl) | (simp only [plus_plus, Array.append_assoc]; rfl) | rfl⟩)) | (intro _; go_at_call 41; exact ext_callG (may_f _ _ _ _ _ _ _ _ _ _ _) (by rintro w' ⟨o', n', rfl⟩; exact ⟨_, n', by first | (simp only [plus_plus]; rfl) | (simp only [plus_plus, Array.append_assoc]; rfl) | rfl⟩)))))); refine wpQuiet_nil ?_; intro _ hw'; obtain ⟨oq, nq, hw''⟩ := hw'; subst hw'')
          go_wp2
          go_roundw
          case rel => exact ⟨k + 1, _, by omega, by go_num, HP.out.ext (by simp (maxDischargeDepth := 60)) b1 b2⟩
          case measure => simp [intOf]; omega
      · have e1 : (x.kind.toList == [115, 116, 101, 112]) = false := str_ne hk1
        by_cases hk5 : x.kind = Ch.kStall
        · have e5 : (x.kind.toList == [115, 116, 97, 108, 108]) = true := kind_is hk5
          clear hk1 hk5
          go_wp2
          go_roundw
          case rel => exact ⟨k + 1, _, by omega, by go_num, HP.out⟩
          case measure => simp [intOf]; omega
        · have e5 : (x.kind.toList == [115, 116, 97, 108, 108]) = false := str_ne hk5
          have HQ : Hid ((p.outside x.act).stall = 0) := by unfold Hid; exact Ch.outside_stall HST.out hk5
          clear hk1 hk5
          go_wp2_with (go_at_call 32; (with_reducible refine (outside_any HP.out.at_ hwf x GX.out).mono ?_); rintro e w4 ⟨rfl, hq4, hk4⟩)
          have HN := Lib.hid (HP.out.next hq4 (hwf.outside _) HQ.out hk4 b1 b2)
          clear hq4 hk4
          go_roundw
          case rel => exact ⟨k + 1, _, by omega, by go_num, HN.out⟩
          case measure => simp [intOf]; omega
    · go_upto_region 19 with (first
        | (go_at_call 42; (with_reducible refine (sense_any (HP.out.at_.ext (by simp (maxDischargeDepth := 60))) hwf).mono ?_); rintro e ws ⟨rfl, oS, nS, rfl⟩)
        | (go_at_call 28; refine (cars_any (HP.out.at_.ext (by simp (maxDischargeDepth := 60))) hwf).mono ?_; rintro e wc hc; obtain ⟨ca, cn, cc, rfl, hcl, hcb, oC, nC, rfl⟩ := NewInts.sl hc; clear hc))
      generalize hW : World.plus _ _ _ = w5
      have hB : w5.heap[wr.heap.size + oS.size]? = some (.cells #[vi p.height, vi p.ext, .bool p.door, vi p.people, vi p.lift, vi p.bay, .bool (p.full p.ext), .bool (p.full (p.ext - 1)), .bool (p.full (p.ext + 1))] 88 (0, 0)) := by
        rw [← hW, plus_heap _ _ _ _ (by simp)]
        have : wr.heap.size + oS.size = (wr.plus oS nS).heap.size := by simp
        rw [this]; exact heap_alloc_new _ _
      have HP5 : Hid (FreeAt w w5 pb mb p) := by unfold Hid; rw [← hW]; exact HP.out.ext (by simp (maxDischargeDepth := 60)) b1 b2
      have hcl5 : Hid (Sl w5 1 intCells p.cars ca cn cc) := by unfold Hid; rw [← hW]; exact hcl
      have hBO : ¬ Own pb mb (wr.heap.size + oS.size) := by
        have := hp.at_.lt
        intro hc
        rcases hc with hc | hc <;> omega
      generalize wr.heap.size + oS.size = B at hB hBO
      have hcO : ∀ b o, ca = some ⟨b, o, none⟩ → ¬ Own pb mb b := by
        intro b o e hc
        have h1 := hcb b o e
        have h2 := hp.at_.lt
        simp at h1
        rcases hc with rfl | rfl <;> omega
      have HCO := Lib.hid hcO
      clear hW hcl hcb hcO hp HP
      have s0 := block_cell (i := 0) hB rfl
      have s1 := block_cell (i := 1) hB rfl
      have s2 := block_cell (i := 2) hB rfl
      have s3 := block_cell (i := 3) hB rfl
      have s4 := block_cell (i := 4) hB rfl
      have s5 := block_cell (i := 5) hB rfl
      have s6 := block_cell (i := 6) hB rfl
      have s7 := block_cell (i := 7) hB rfl
      have s8 := block_cell (i := 8) hB rfl
      have zB := cell_lt s0
      clear hB
      cases hm : Ch.may c p.sense
      · have hm' : Ch.may c ⟨p.height, p.ext, p.door, p.people, p.lift, p.bay, p.full p.ext, p.full (p.ext - 1), p.full (p.ext + 1)⟩ = false := hm
        have HN := Lib.hid (Ch.step_not hwf HST.out c hm)
        clear hm
        go_upto_region 22 with (first
          | (go_at_call 41; (with_reducible refine (may_f _ _ _ _ _ _ _ _ _ _ _).mono ?_); rintro e wm ⟨rfl, oM, nM, rfl⟩)
          | (go_at_call 43; (with_reducible refine (step_any (HP5.out.at_.ext (by simp (maxDischargeDepth := 60))) hwf _).mono ?_); rintro e w6 ⟨rfl, hq6, hk6'⟩; have hk6 : Kept (Own pb mb) w5 w6 := (Kept.of_ext (by simp (maxDischargeDepth := 60))).trans hk6'))
        have HB6 := Lib.hid (below_kept HP5.out.below (Nat.le_refl _) hk6 (fun i hi => by rcases hi with rfl | rfl <;> omega))
        have t0 := cell_kept hk6 s0 hBO
        have t1 := cell_kept hk6 s1 hBO
        have t2 := cell_kept hk6 s2 hBO
        have t3 := cell_kept hk6 s3 hBO
        have t4 := cell_kept hk6 s4 hBO
        have t5 := cell_kept hk6 s5 hBO
        have t6 := cell_kept hk6 s6 hBO
        have t7 := cell_kept hk6 s7 hBO
        have t8 := cell_kept hk6 s8 hBO
        have uB := cell_lt t0
        have hcl6 : Hid (Sl w6 1 intCells p.cars ca cn cc) := by
          unfold Hid
          exact sl_kept hcl5.out hk6 HCO.out
        rcases HN.out with hh | hh
        · have HQ6 := Lib.hid hq6
          clear hq6 hk6 hk6'
          (refine wp_region_ext (by kernel_rfl) (by kernel_rfl) ?_; (repeat (first | go_big_quiet_step ((intro _; go_at_call 44; exact ext_callG (hurt_any (HQ6.out.ext (by simp (maxDischargeDepth := 60)))) (by rintro w' ⟨o', n', rfl⟩; exact ⟨_, n', by first | (simp only [plus_plus]; rfl) | (simp only [plus_plus, Array.append_assoc]; rfl) | rfl⟩))) | quiet_step ((intro _; go_at_call 44; exact ext_callG (hurt_any (HQ6.out.ext (by simp (maxDischargeDepth := 60)))) (by rintro w' ⟨o', n', rfl⟩; exact ⟨_, n', by first | (simp only [plus_plus]; rfl) | (simp only [plus_plus, Array.append_assoc]; rfl) | rfl⟩))))); refine wpQuiet_nil ?_; intro _ hw'; obtain ⟨oq, nq, hw''⟩ := hw'; subst hw'')
          go_wp2
          go_ret
          exact ⟨rfl, (Ext.of_below HB6.out).trans (by simp (maxDischargeDepth := 60))⟩
        · rw [hh] at hq6
          have HQ6 := Lib.hid hq6
          clear hq6 hk6 hk6'
          cases hhu : p.hurt
          · have hqs := fun w => eqlSensed w p
            have HHU := Lib.hid hhu
            go_region_held3 (fun w' => w'.cell? ⟨B, 0, none⟩ = some (vi p.height) ∧ w'.cell? ⟨B, 1, none⟩ = some (vi p.ext) ∧ w'.cell? ⟨B, 2, none⟩ = some (.bool p.door) ∧ w'.cell? ⟨B, 3, none⟩ = some (vi p.people) ∧ w'.cell? ⟨B, 4, none⟩ = some (vi p.lift) ∧ w'.cell? ⟨B, 5, none⟩ = some (vi p.bay) ∧ w'.cell? ⟨B, 6, none⟩ = some (.bool (p.full p.ext)) ∧ w'.cell? ⟨B, 7, none⟩ = some (.bool (p.full (p.ext - 1))) ∧ w'.cell? ⟨B, 8, none⟩ = some (.bool (p.full (p.ext + 1))))
              (first | ((try dsimp only); (repeat' apply And.intro) <;> first | assumption | exact xcell HXD.out (by assumption) | exact xcell (HXD.out.trans (by simp (maxDischargeDepth := 60))) (by assumption) | (refine xcell (w := w6) ?_ (by assumption); simp (maxDischargeDepth := 60); done)))
              (first
              | (go_at_call 44; refine (hurt_any (HQ6.out.ext (by simp (maxDischargeDepth := 60)))).mono ?_; rintro e wh ⟨he, oH, nH, rfl⟩; rw [HHU.out] at he; subst he)
              | (go_at_call 42; refine (sense_any (HQ6.out.ext (by simp (maxDischargeDepth := 60))) hwf).mono ?_; rintro e ws ⟨rfl, oT, nT, rfl⟩)
              | (go_at_call 28; refine (cars_any (HQ6.out.ext (by simp (maxDischargeDepth := 60))) hwf).mono ?_; rintro e wc hc; obtain ⟨da, dn, dc, rfl, hdl, hdb, hxd⟩ := NewInts.sl hc; have HXD : Hid (Ext w6 wc) := Ext.trans (by simp (maxDischargeDepth := 60)) hxd; have HDL := Lib.hid hdl; clear hc hdb hdl hxd)
              | (go_at_call 33; refine (alike_yes _ _ _ _ _ _ p.cars p.cars _ (Sl.below HDL.out (Ext.below (by simp (maxDischargeDepth := 60)))) (Sl.below hcl6.out (HXD.out.trans (by simp (maxDischargeDepth := 60))).below) (List.Perm.refl _)).mono ?_; rintro e wk ⟨rfl, oK, nK, rfl⟩))
            go_wp2
            go_ret
            exact ⟨rfl, (Ext.of_below HB6.out).trans (HXD.out.trans (by simp (maxDischargeDepth := 60)))⟩
          · have HHU := Lib.hid hhu
            (refine wp_region_ext (by kernel_rfl) (by kernel_rfl) ?_; (repeat (first | go_big_quiet_step ((intro _; go_at_call 44; exact ext_callG (hurt_any (HQ6.out.ext (by simp (maxDischargeDepth := 60)))) (by rintro w' ⟨o', n', rfl⟩; exact ⟨_, n', by first | (simp only [plus_plus]; rfl) | (simp only [plus_plus, Array.append_assoc]; rfl) | rfl⟩))) | quiet_step ((intro _; go_at_call 44; exact ext_callG (hurt_any (HQ6.out.ext (by simp (maxDischargeDepth := 60)))) (by rintro w' ⟨o', n', rfl⟩; exact ⟨_, n', by first | (simp only [plus_plus]; rfl) | (simp only [plus_plus, Array.append_assoc]; rfl) | rfl⟩))))); refine wpQuiet_nil ?_; intro _ hw'; obtain ⟨oq, nq, hw''⟩ := hw'; subst hw'')
            go_wp2
            go_ret
            exact ⟨rfl, (Ext.of_below HB6.out).trans (by simp (maxDischargeDepth := 60))⟩
      · have hm' : Ch.may c ⟨p.height, p.ext, p.door, p.people, p.lift, p.bay, p.full p.ext, p.full (p.ext - 1), p.full (p.ext + 1)⟩ = true := hm
        clear hm
        go_wp2_with (go_at_call 41; (with_reducible refine (may_f _ _ _ _ _ _ _ _ _ _ _).mono ?_); rintro e wm ⟨rfl, oM, nM, rfl⟩)
        go_ret
        exact ⟨rfl, Ext.of_below (HP5.out.ext (by simp (maxDischargeDepth := 60)) b1 b2).below⟩

set_option maxRecDepth 100000 in
set_option maxHeartbeats 4000000 in
theorem topFree_bad (L c : Int) (a : Option Addr) (n cap : Nat) (l : List RAct) (w : World) (h : Sl w 12 ractCells l a n cap) (hg : ∀ x ∈ l, x.Good) (hL : L < 1 ∨ 4 < L) :
    Calls Try.prog 10 #[vi L, .slice a n cap, vb c] w fun e w' => e = .returned (.bool true) ∧ Ext w w' := by
  have HS := Lib.hid h
  have HG := Lib.hid hg
  have HL := Lib.hid hL
  have hb := h.bound
  have e1 : errV 1 = .iface 100 (vi 1) := rfl
  clear h hg hL
  go_enter Try.func10, Try.ntmps10
  go_wp2_with (first
    | (go_at_call 26; (with_reducible refine (moved_any _).mono ?_); rintro e w1 ⟨rfl, o1, n1, rfl⟩)
    | (go_at_call 22; (with_reducible refine (lightActs_any _ _ _ _ l _ (Sl.below HS.out (Ext.below (by simp (maxDischargeDepth := 60)))) HG.out).mono ?_); rintro e w2 ⟨lb, rfl, o2, n2, rfl⟩; cases lb)
    | (go_at_call 27; (with_reducible refine (new_bad L _ HL.out).mono ?_); rintro e w1 ⟨rfl, o1, n1, rfl⟩))
  all_goals
    go_ret
    exact ⟨rfl, (by simp (maxDischargeDepth := 60))⟩

theorem topFree_walk (L c : Int) {a : Option Addr} {n cap : Nat} {l : List RAct} {w : World} (h : Sl w 12 ractCells l a n cap) (hg : ∀ x ∈ l, x.Good) :
    Calls Try.prog 10 #[vi L, .slice a n cap, vb c] w fun e w' => e = .returned (.bool true) ∧ Ext w w' := by
  by_cases hL : L < 1 ∨ 4 < L
  · exact topFree_bad L c a n cap l w h hg hL
  · exact topFree_ok L c a n cap l w h hg (by omega) (by omega)

end Go.Proofs.Ytplomeacjbkgnab
