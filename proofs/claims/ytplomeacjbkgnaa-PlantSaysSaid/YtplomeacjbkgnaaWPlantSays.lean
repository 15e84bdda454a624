/-
  The walk of PlantSays.
-/
import Derived.Test.YtplomeacjbkgnaaAsPlant
namespace Go.Proofs.Ytplomeacjbkgnaa
open Go.RowKit

/-! ### a closed fact: a machine that moves -/

def machP1 : Ch.Plant := { Ch.Plant.new 2 with bay := 7 }

def machP2 : Ch.Plant := machP1.step 99

def machP3 : Ch.Plant := machP2.step 110

def machP4 : Ch.Plant := machP3.step 117

theorem mach_arrive : (Ch.Plant.new 2).arrive 7 = (machP1, 0) := rfl

theorem machW1 : machP1.WF := by have := (Ch.Plant.WF.new (n := 2) (by decide) (by decide)).arrive 7; rw [mach_arrive] at this; exact this

theorem machW2 : machP2.WF := machW1.step 99

theorem machW3 : machP3.WF := machW2.step 110

theorem machW4 : machP4.WF := machW3.step 117

theorem same_nil (w : World) : Calls Try.prog 30 #[.nilIface, vi 0] w fun e w' => e = .returned (.bool true) ∧ Ext w w' := same_yes 0 w (by decide)

set_option maxRecDepth 100000 in
set_option maxHeartbeats 4000000 in
theorem machines_any (w : World) : Calls Try.prog 75 #[] w fun e w' => e = .returned (.bool true) ∧ Ext w w' := by
  have z1 : machP4.lift = 7 := rfl
  have z2 : machP4.height = 1 := rfl
  have z3 : machP4.door = false := rfl
  have z4 : machP4.hurt = false := rfl
  have M := Lib.hid mach_arrive
  go_enter Try.func75, Try.ntmps75
  go_wp2_with (go_at_call 76; (with_reducible refine (new_any 2 _ (by decide) (by decide)).mono ?_); rintro e w1 ⟨pb, mb, rfl, hq, hx, hb1, hb2⟩)
  go_at_call 114
  refine (arrive_any hq (Ch.Plant.WF.new (by decide) (by decide)) 7).mono ?_
  rintro e w2 ⟨rfl, hq2, hk2⟩
  rw [M.out] at hq2
  have H0 := Lib.hid hx
  have K2 := Lib.hid hk2
  have e0 : errV ((Ch.Plant.new 2).arrive 7).2 = .nilIface := rfl
  rw [e0]
  clear hq hx hk2 e0
  go_wp2_with fail
  go_at_call 115
  refine (step_any hq2 machW1 99).mono ?_
  rintro e w3 ⟨rfl, hq3, hk3⟩
  have K3 := Lib.hid hk3
  clear hq2 hk3
  go_wp2_with fail
  go_at_call 115
  refine (step_any hq3 machW2 110).mono ?_
  rintro e w4 ⟨rfl, hq4, hk4⟩
  have K4 := Lib.hid hk4
  clear hq3 hk4
  go_wp2_with fail
  go_at_call 115
  refine (step_any hq4 machW3 117).mono ?_
  rintro e w5 ⟨rfl, hq5, hk5⟩
  have K5 := Lib.hid hk5
  have hlt := hq5.lt.1
  have hq5 : PlantAt w5 pb mb machP4 := hq5
  have HQ := Lib.hid hq5
  clear hq4 hk5 hq5
  go_wp2_with (first | (go_at_call 116; (with_reducible refine (sense_any HQ.out machW4).mono ?_); rintro e w1 ⟨rfl, o1, n1, rfl⟩) | (go_at_call 30; (with_reducible refine (same_nil _).mono ?_); rintro e w1 ⟨rfl, o1, n1, rfl⟩) | (go_at_call 117; (with_reducible refine (hurt_any (HQ.out.ext (by simp (maxDischargeDepth := 60)))).mono ?_); rintro e w1 ⟨rfl, o1, n1, rfl⟩))
  go_ret
  go_light
  refine ⟨by simp [z1, z2, z3, z4], ?_⟩
  have hz : w.heap.size ≤ w1.heap.size := H0.out.below.size
  have own : ∀ i, Own pb mb i → w.heap.size ≤ i := fun i hi => by rcases hi with rfl | rfl <;> omega
  have b1 := below_kept (below_kept (below_kept (below_kept H0.out.below (Nat.le_refl _) K2.out own) (Nat.le_refl _) K3.out own) (Nat.le_refl _) K4.out own) (Nat.le_refl _) K5.out own
  exact (Ext.of_below b1).trans (by simp (maxDischargeDepth := 60))

/-! ### where a car is, in both -/

theorem where_at (V : Value) {pb mb : Nat} {p : Ch.Plant} {w : World} (h : PlantAt w pb mb p) (hp : p.WF) (id : Int) (hv : Hid (whereV (p.where_ id) = V)) :
    Calls Try.prog 80 #[.pointer (some ⟨pb, 0, none⟩), vi id] w fun e w' => e = .returned V ∧ Ext w w' := by
  have := where_any h hp id
  rw [hv.out] at this
  exact this

theorem rwhere_at (V : Value) {rb : Nat} {p : Ch.Plant} {w : World} (h : RPlantAt w rb p) (hp : p.WF) (id : Int) (hv : Hid (whereV (p.where_ id) = V)) :
    Calls Try.prog 81 #[.pointer (some ⟨rb, 0, none⟩), vi id] w fun e w' => e = .returned V ∧ Ext w w' := by
  have := rwhere_any h hp id
  rw [hv.out] at this
  exact this

theorem has_at (hh : Bool) {pb mb : Nat} {p : Ch.Plant} {w : World} (h : PlantAt w pb mb p) (hp : p.WF) (id : Int) (he : Hid (p.has id = hh)) :
    Calls Try.prog 82 #[.pointer (some ⟨pb, 0, none⟩), vi id] w fun e w' => e = .returned (.bool hh) ∧ Ext w w' := by
  have := has_any h hp id
  rw [he.out] at this
  exact this

/-- how it stands with both at a round's head -/
structure TwinAt (w wr : World) (pb mb rb : Nat) (p : Ch.Plant) : Prop where
  at_ : Both wr pb mb rb p
  wf : p.WF
  below : Below w.heap.size w wr

theorem TwinAt.next {w wr w' : World} {pb mb rb : Nat} {p q : Ch.Plant} (h : TwinAt w wr pb mb rb p) (h1 : Both w' pb mb rb q) (h2 : q.WF) (k : Kept (Own3 pb mb rb) wr w') (hb1 : w.heap.size ≤ pb) (hb2 : w.heap.size ≤ mb) (hb3 : w.heap.size ≤ rb) : TwinAt w w' pb mb rb q :=
  ⟨h1, h2, below_kept h.below (Nat.le_refl _) k (fun i hi => by rcases hi with (rfl | rfl) | rfl <;> omega)⟩

theorem TwinAt.ext {w wr w' : World} {pb mb rb : Nat} {p : Ch.Plant} (h : TwinAt w wr pb mb rb p) (x : Ext wr w') (hb1 : w.heap.size ≤ pb) (hb2 : w.heap.size ≤ mb) (hb3 : w.heap.size ≤ rb) : TwinAt w w' pb mb rb p :=
  h.next (h.at_.ext x) h.wf (Kept.of_ext x) hb1 hb2 hb3

set_option maxRecDepth 100000 in
set_option maxHeartbeats 4000000 in
theorem plantSays_ok (L : Int) (a : Option Addr) (n cap : Nat) (l : List RAct) (w : World) (h : Sl w 12 ractCells l a n cap) (hg : ∀ x ∈ l, x.Good) (L1 : 1 ≤ L) (L2 : L ≤ 4) :
    Calls Try.prog 9 #[vi L, .slice a n cap] w fun e w' => e = .returned (.bool true) ∧ Ext w w' := by
  have HS := Lib.hid h
  have HG := Lib.hid hg
  have hb := h.bound
  clear h hg
  go_enter Try.func9, Try.ntmps9
  go_wp2_with (first
    | (go_at_call 75; (with_reducible refine (machines_any _).mono ?_); rintro e w1 ⟨rfl, o1, n1, rfl⟩)
    | (go_at_call 49; (with_reducible refine (lightActs_any _ _ _ _ l _ (Sl.below HS.out (Ext.below (by simp (maxDischargeDepth := 60)))) HG.out).mono ?_); rintro e w2 ⟨lb, rfl, o2, n2, rfl⟩; cases lb)
    | (go_at_call 76; (with_reducible refine (new_any L _ L1 L2).mono ?_); rintro e w3 ⟨pb, mb, rfl, hq, hx, hb1, hb2⟩; have hx0 : Ext w w3 := Ext.trans (by simp (maxDischargeDepth := 60)) hx; have HQ := Lib.hid hq; have HX0 := Lib.hid hx0; have b1 : w.heap.size ≤ pb := (by simp at hb1; omega); have b2 : w.heap.size ≤ mb := (by simp at hb2; omega); clear hq hx hx0 hb1 hb2)
    | (go_at_call 77; (with_reducible refine (rnew_any L _ L1 L2).mono ?_); rintro e w4 ⟨rb, rfl, hr, hx, hb3⟩))
  · go_ret
    exact ⟨rfl, (by simp (maxDischargeDepth := 60))⟩
  have z3 := HX0.out.below.size
  have zq := HQ.out.lt
  have b3 : w.heap.size ≤ rb := by omega
  have S0 : TwinAt w w4 pb mb rb (Ch.Plant.new L) := ⟨⟨HQ.out.ext hx, hr, by omega, by omega⟩, Ch.Plant.WF.new L1 L2, (HX0.out.trans hx).below⟩
  have HS0 := Lib.hid S0
  clear hr hx hb3 S0 z3 zq
  go_loopw [10] (fun i wr => ∃ (k : Nat) (p : Ch.Plant), k ≤ n ∧ i = .int .i64 k ∧ TwinAt w wr pb mb rb p) (fun i _ => n - (intOf i).toNat)
  case atStart => exact ⟨0, _, by omega, rfl, HS0.out⟩
  case round =>
    obtain ⟨k, p, hk, rfl, hp⟩ := hrel
    have hwf := hp.wf
    have HP := Lib.hid hp
    by_cases hlt : k < n
    · obtain ⟨b, q, x, rfl, hx, dx⟩ := (Sl.below HS.out hp.below).get hlt
      have dx := at12 dx
      have hbl := cell_lt dx.1
      have gx := HG.out x (List.mem_of_getElem? hx)
      have GX := Lib.hid gx
      have HXX := Lib.hid hx
      have hkn : (k : Int) < (n : Int) := by omega
      clear hp gx hx
      go_wp2_with (first
        | (go_at_call 78; (with_reducible refine (loutside_any HP.out.at_ hwf x GX.out).mono ?_); rintro e w5 ⟨rfl, hq5, hk5⟩; have HN := Lib.hid (HP.out.next hq5 (hwf.outside x.act) hk5 b1 b2 b3); clear hq5 hk5)
        | (go_at_call 79; (with_reducible refine (asPlant_any HN.out.at_ HN.out.wf).mono ?_); rintro e w1 ⟨rfl, o1, n1, rfl⟩))
      generalize p.outside x.act = q' at HN
      have hwq := HN.out.wf
      generalize hW : World.plus _ _ _ = w6
      have HN6 := Lib.hid (HN.out.ext (w' := w6) (by rw [← hW]; exact (by simp (maxDischargeDepth := 60))) b1 b2 b3)
      clear hW HN HP dx hbl hwf
      go_loopw [12] (fun i wr => ∃ j : Int, 1 ≤ j ∧ j ≤ 4 ∧ i = .int .i64 j ∧ Ext w6 wr) (fun i _ => (4 - intOf i).toNat)
      case atStart => exact ⟨1, by omega, by omega, rfl, Ext.refl _⟩
      case round =>
        obtain ⟨j, j1, j4, rfl, hxr⟩ := hrel
        have HB := Lib.hid (HN6.out.at_.ext hxr)
        have HXR := Lib.hid hxr
        by_cases hj : j < 4
        · obtain ⟨x0, x1, x2, bb, HV⟩ : ∃ x0 x1 x2 bb, Hid (whereV (q'.where_ j) = .tuple #[.agg #[vi x0, vi x1, vi x2], .bool bb]) := ⟨_, _, _, _, rfl⟩
          obtain ⟨hh, HH⟩ : ∃ hh, Hid (q'.has j = hh) := ⟨_, rfl⟩
          have hq : ∀ w, (Go.binOp .neq 23 (.agg #[vi x0, vi x1, vi x2]) (.agg #[vi x0, vi x1, vi x2])).run Try.prog w = .ok (.bool false) w := fun w => by rw [neqStruct w (eqPlace w 9998 ⟨x0, x1, x2⟩ ⟨x0, x1, x2⟩)]; simp
          clear hxr
          go_wp2_with (first
            | (go_at_call 80; (with_reducible refine (where_at _ (HB.out.a.ext (by simp (maxDischargeDepth := 60))) hwq _ HV).mono ?_); rintro e w1 ⟨rfl, o1, n1, rfl⟩)
            | (go_at_call 81; (with_reducible refine (rwhere_at _ (HB.out.b.ext (by simp (maxDischargeDepth := 60))) hwq _ HV).mono ?_); rintro e w1 ⟨rfl, o1, n1, rfl⟩)
            | (go_at_call 82; (with_reducible refine (has_at hh (HB.out.a.ext (by simp (maxDischargeDepth := 60))) hwq _ HH).mono ?_); rintro e w1 ⟨rfl, o1, n1, rfl⟩)
            | (go_at_call 83; (with_reducible refine (rhas_at hh (HB.out.b.ext (by simp (maxDischargeDepth := 60))) hwq _ HH).mono ?_); rintro e w1 ⟨rfl, o1, n1, rfl⟩))
          all_goals
            go_roundw
            case rel => first | exact ⟨j + 1, by omega, by omega, by go_num, HXR.out.trans (by simp (maxDischargeDepth := 60))⟩ | (repeat apply Exists.intro; refine ⟨?_, rfl⟩; exact ⟨j + 1, by omega, by omega, by go_num, HXR.out.trans (by simp (maxDischargeDepth := 60))⟩)
            case measure => simp [intOf]; omega
        · obtain ⟨y, hy, dy⟩ := (Sl.below HS.out (HN6.out.ext hxr b1 b2 b3).below).get' hlt
          obtain rfl : y = x := Option.some.inj (hy.symm.trans HXX.out)
          have dy := at12 dy
          have hbl := cell_lt dy.1
          have HD := Lib.hid dy
          obtain ⟨x0, x1, x2, bb, HV⟩ : ∃ x0 x1 x2 bb, Hid (whereV (q'.where_ y.a) = .tuple #[.agg #[vi x0, vi x1, vi x2], .bool bb]) := ⟨_, _, _, _, rfl⟩
          obtain ⟨hh, HH⟩ : ∃ hh, Hid (q'.has y.a = hh) := ⟨_, rfl⟩
          have hq : ∀ w, (Go.binOp .neq 23 (.agg #[vi x0, vi x1, vi x2]) (.agg #[vi x0, vi x1, vi x2])).run Try.prog w = .ok (.bool false) w := fun w => by rw [neqStruct w (eqPlace w 9998 ⟨x0, x1, x2⟩ ⟨x0, x1, x2⟩)]; simp
          have HN7 := Lib.hid (HN6.out.ext hxr b1 b2 b3)
          clear hxr hy
          by_cases ha : 0 < y.a
          · go_upto_region 26 with (first
              | (go_at_call 80; (with_reducible refine (where_at _ (HN7.out.at_.a.ext (by simp (maxDischargeDepth := 60))) hwq _ HV).mono ?_); rintro e w1 ⟨rfl, o1, n1, rfl⟩)
              | (go_at_call 81; (with_reducible refine (rwhere_at _ (HN7.out.at_.b.ext (by simp (maxDischargeDepth := 60))) hwq _ HV).mono ?_); rintro e w1 ⟨rfl, o1, n1, rfl⟩))
            (refine wp_region_ext (by kernel_rfl) (by kernel_rfl) ?_; (repeat (first | go_big_quiet_step ((first | (intro _; go_at_call 82; exact ext_callG (has_at hh (HN7.out.at_.a.ext (by simp (maxDischargeDepth := 60))) hwq _ HH) (by rintro w' ⟨o', n', rfl⟩; exact ⟨_, n', by first | (simp only [plus_plus]; rfl) | (simp only [plus_plus, Array.append_assoc]; rfl) | rfl⟩)) | (intro _; go_at_call 83; exact ext_callG (rhas_at hh (HN7.out.at_.b.ext (by simp (maxDischargeDepth := 60))) hwq _ HH) (by rintro w' ⟨o', n', rfl⟩; exact ⟨_, n', by first | (simp only [plus_plus]; rfl) | (simp only [plus_plus, Array.append_assoc]; rfl) | rfl⟩)))) | quiet_step ((first | (intro _; go_at_call 82; exact ext_callG (has_at hh (HN7.out.at_.a.ext (by simp (maxDischargeDepth := 60))) hwq _ HH) (by rintro w' ⟨o', n', rfl⟩; exact ⟨_, n', by first | (simp only [plus_plus]; rfl) | (simp only [plus_plus, Array.append_assoc]; rfl) | rfl⟩)) | (intro _; go_at_call 83; exact ext_callG (rhas_at hh (HN7.out.at_.b.ext (by simp (maxDischargeDepth := 60))) hwq _ HH) (by rintro w' ⟨o', n', rfl⟩; exact ⟨_, n', by first | (simp only [plus_plus]; rfl) | (simp only [plus_plus, Array.append_assoc]; rfl) | rfl⟩)))))); refine wpQuiet_nil ?_; intro _ hw'; obtain ⟨oq, nq, hw''⟩ := hw'; subst hw'')
            go_wp2
            all_goals
              go_roundw
              case rel => first | exact ⟨k + 1, q', by omega, by go_num, HN7.out.ext (by simp (maxDischargeDepth := 60)) b1 b2 b3⟩ | (repeat apply Exists.intro; refine ⟨?_, rfl⟩; exact ⟨k + 1, q', by omega, by go_num, HN7.out.ext (by simp (maxDischargeDepth := 60)) b1 b2 b3⟩)
              case measure => simp [intOf]; omega
          · go_wp2
            go_roundw
            case rel => first | exact ⟨k + 1, q', by omega, by go_num, HN7.out.ext (by simp (maxDischargeDepth := 60)) b1 b2 b3⟩ | (repeat apply Exists.intro; refine ⟨?_, rfl⟩; exact ⟨k + 1, q', by omega, by go_num, HN7.out.ext (by simp (maxDischargeDepth := 60)) b1 b2 b3⟩)
            case measure => simp [intOf]; omega
    · go_wp2
      go_ret
      exact ⟨rfl, Ext.of_below HP.out.below⟩

set_option maxRecDepth 100000 in
set_option maxHeartbeats 4000000 in
theorem plantSays_bad (L : Int) (a : Option Addr) (n cap : Nat) (l : List RAct) (w : World) (h : Sl w 12 ractCells l a n cap) (hg : ∀ x ∈ l, x.Good) (hL : L < 1 ∨ 4 < L) :
    Calls Try.prog 9 #[vi L, .slice a n cap] w fun e w' => e = .returned (.bool true) ∧ Ext w w' := by
  have HS := Lib.hid h
  have HG := Lib.hid hg
  have HL := Lib.hid hL
  have hb := h.bound
  clear h hg hL
  go_enter Try.func9, Try.ntmps9
  go_wp2_with (first
    | (go_at_call 75; (with_reducible refine (machines_any _).mono ?_); rintro e w1 ⟨rfl, o1, n1, rfl⟩)
    | (go_at_call 49; (with_reducible refine (lightActs_any _ _ _ _ l _ (Sl.below HS.out (Ext.below (by simp (maxDischargeDepth := 60)))) HG.out).mono ?_); rintro e w2 ⟨lb, rfl, o2, n2, rfl⟩; cases lb)
    | (go_at_call 76; (with_reducible refine (new_bad L _ HL.out).mono ?_); rintro e w1 ⟨rfl, o1, n1, rfl⟩)
    | (go_at_call 77; (with_reducible refine (rnew_bad L _ HL.out).mono ?_); rintro e w1 ⟨rfl, o1, n1, rfl⟩)
    | (go_at_call 30; (with_reducible refine (same_yes 1 _ (by decide)).mono ?_); rintro e w1 ⟨rfl, o1, n1, rfl⟩))
  all_goals
    go_ret
    exact ⟨rfl, (by simp (maxDischargeDepth := 60))⟩

theorem plantSays_walk (L : Int) {a : Option Addr} {n cap : Nat} {l : List RAct} {w : World} (h : Sl w 12 ractCells l a n cap) (hg : ∀ x ∈ l, x.Good) :
    Calls Try.prog 9 #[vi L, .slice a n cap] w fun e w' => e = .returned (.bool true) ∧ Ext w w' := by
  by_cases hL : L < 1 ∨ 4 < L
  · exact plantSays_bad L a n cap l w h hg hL
  · exact plantSays_ok L a n cap l w h hg (by omega) (by omega)
end Go.Proofs.Ytplomeacjbkgnaa
