/-
  The walk of TopGoal.
-/
import Derived.Test.YtplomeacjbkgnabWTopSafe
import Derived.Test.YtplomeacjbkgnabGoal
namespace Go.Proofs.Ytplomeacjbkgnab
open Go.RowKit

/-- how it stands with the machine at a round's head, that nothing stalls -/
structure CalmAt (w wr : World) (pb mb : Nat) (L : Int) (p : Ch.Plant) : Prop where
  at_ : PlantAt wr pb mb p
  wf : p.WF
  st : p.stall = 0
  lv : p.levels = L
  below : Below w.heap.size w wr

theorem CalmAt.next {w wr w' : World} {pb mb : Nat} {L : Int} {p q : Ch.Plant} (h : CalmAt w wr pb mb L p) (h1 : PlantAt w' pb mb q) (h2 : q.WF) (h3 : q.stall = 0) (h4 : q.levels = p.levels) (k : Kept (Own pb mb) wr w') (hb1 : w.heap.size ≤ pb) (hb2 : w.heap.size ≤ mb) : CalmAt w w' pb mb L q :=
  ⟨h1, h2, h3, h4.trans h.lv, below_kept h.below (Nat.le_refl _) k (fun i hi => by rcases hi with rfl | rfl <;> omega)⟩

theorem cell_ext {w w' : World} (h : Ext w w') {b o : Nat} {v : Value} (hc : w.cell? ⟨b, o, none⟩ = some v) : w'.cell? ⟨b, o, none⟩ = some v := by
  obtain ⟨o', n, rfl⟩ := h
  rw [plus_cell _ _ _ _ _ _ (cell_lt hc)]; exact hc

theorem Kept.cell {S : Nat → Prop} {w w' : World} (k : Kept S w w') {b o : Nat} {v : Value} (hc : w.cell? ⟨b, o, none⟩ = some v) (hn : ¬ S b) : w'.cell? ⟨b, o, none⟩ = some v := by
  have h := k.block b (cell_lt hc) hn
  simp only [World.cell?, h]
  simpa only [World.cell?] using hc

theorem sq_bd {a : Int} (h1 : -30 ≤ a) (h2 : a ≤ 30) : 0 ≤ a * a ∧ a * a ≤ 900 := by
  have h3 : 0 ≤ (30 - a) * (30 + a) := Int.mul_nonneg (by omega) (by omega)
  have h4 : (30 - a) * (30 + a) = 900 - a * a := by grind
  have h5 : 0 ≤ a * a := by
    rcases Int.le_total 0 a with h | h
    · exact Int.mul_nonneg h h
    · have := Int.mul_nonneg (a := -a) (b := -a) (by omega) (by omega)
      have e : -a * -a = a * a := by grind
      omega
  omega

theorem nearer {a b : Int} (h : (a < 0 ∧ b = a + 1) ∨ (0 < a ∧ b = a - 1)) : b * b < a * a := by
  rcases h with ⟨h1, rfl⟩ | ⟨h1, rfl⟩
  · have : (a + 1) * (a + 1) = a * a + 2 * a + 1 := by grind
    omega
  · have : (a - 1) * (a - 1) = a * a - 2 * a + 1 := by grind
    omega

theorem step_levels (p : Ch.Plant) (c : Int) : (p.step c).levels = p.levels := by
  unfold Ch.Plant.step
  split
  · rfl
  · unfold Ch.Plant.act
    have h1 : ∀ n, (p.stretch n).levels = p.levels := fun n => by unfold Ch.Plant.stretch; split <;> rfl
    have h2 : p.grab.levels = p.levels := by
      unfold Ch.Plant.grab; split
      · rfl
      · split <;> rfl
    have h3 : p.put.levels = p.levels := by
      unfold Ch.Plant.put; split
      · rfl
      · split <;> rfl
    have h4 : ∀ i, (p.pass i).levels = p.levels := fun i => by
      unfold Ch.Plant.pass; dsimp only; split
      · rfl
      · split
        · split <;> rfl
        · split <;> rfl
    repeat' split
    all_goals first | rfl | exact h1 _ | exact h2 | exact h3 | exact h4 _

theorem outside_levels (p : Ch.Plant) (a : Ch.Act) : (p.outside a).levels = p.levels := by
  unfold Ch.Plant.outside
  split
  · split
    · rfl
    · exact step_levels _ _
  · split
    · unfold Ch.Plant.walk; split
      · rfl
      · split <;> rfl
    · split
      · unfold Ch.Plant.arrive; split
        · rfl
        · split
          · rfl
          · split <;> rfl
      · split
        · unfold Ch.Plant.leave; split <;> rfl
        · split
          · unfold Ch.Plant.setStall; split <;> rfl
          · rfl

set_option maxRecDepth 100000 in
set_option maxHeartbeats 4000000 in
theorem topGoal_ok (L : Int) (kd N : Int) (a : Option Addr) (n cap : Nat) (l : List RAct) (w : World) (h : Sl w 12 ractCells l a n cap) (hg : ∀ x ∈ l, x.Good) (hn : I64 N) (L1 : 1 ≤ L) (L2 : L ≤ 4) :
    Calls Try.prog 11 #[vi L, .slice a n cap, (.agg #[vi kd, vi N])] w fun e w' => e = .returned (.bool true) ∧ Ext w w' := by
  have HS := Lib.hid h
  have HG := Lib.hid hg
  have HN := Lib.hid hn
  have hb := h.bound
  clear h hg hn
  go_enter Try.func11, Try.ntmps11
  go_upto_region 1 with fail
  generalize hW : World.alloc _ _ = w0
  have k0 : w0.cell? ⟨w.heap.size, 0, none⟩ = some (vi kd) := by rw [← hW]; simp [go_sem]
  have k1 : w0.cell? ⟨w.heap.size, 1, none⟩ = some (vi N) := by rw [← hW]; simp [go_sem]
  have hx0 : Ext w w0 := by rw [← hW]; exact (by simp (maxDischargeDepth := 60))
  have HS0 : Hid (Sl w0 12 ractCells l a n cap) := by unfold Hid; exact Sl.below HS.out hx0.below
  have HX := Lib.hid hx0
  have hz := cell_lt k0
  clear hW hx0
  go_wp2_with (first
    | (go_at_call 26; (with_reducible refine (moved_any _).mono ?_); rintro e w1 ⟨rfl, o1, n1, rfl⟩)
    | (go_at_call 22; (with_reducible refine (lightActs_any _ _ _ _ l _ (Sl.below HS0.out (Ext.below (by simp (maxDischargeDepth := 60)))) HG.out).mono ?_); rintro e w2 ⟨lb, rfl, o2, n2, rfl⟩; cases lb)
    | (go_at_call 27; (with_reducible refine (new_any L _ L1 L2).mono ?_); rintro e w3 ⟨pb, mb, rfl, hq, hx, hb1, hb2⟩))
  · go_ret
    exact ⟨rfl, HX.out.trans (by simp (maxDischargeDepth := 60))⟩
  have b1 : w0.heap.size ≤ pb := by simp at hb1; omega
  have b2 : w0.heap.size ≤ mb := by simp at hb2; omega
  have hx1 : Ext w0 w3 := Ext.trans (by simp (maxDischargeDepth := 60)) hx
  have S0 : CalmAt w0 w3 pb mb L (Ch.Plant.new L) := ⟨hq, Ch.Plant.WF.new L1 L2, rfl, rfl, hx1.below⟩
  have HC0 := Lib.hid S0
  clear hq hx hx1 hb1 hb2 S0
  go_loopw [10] (fun i wr => ∃ (k : Nat) (p : Ch.Plant), k ≤ n ∧ i = .int .i64 k ∧ CalmAt w0 wr pb mb L p) (fun i _ => n - (intOf i).toNat)
  case atStart => exact ⟨0, _, by omega, rfl, HC0.out⟩
  case round =>
    obtain ⟨k, p, hk, rfl, hp⟩ := hrel
    have hwf := hp.wf
    have HP := Lib.hid hp
    by_cases hlt : k < n
    · obtain ⟨b, q, x, rfl, hx, dx⟩ := (Sl.below HS0.out hp.below).get hlt
      have dx := at12 dx
      have hbl := cell_lt dx.1
      have gx := HG.out x (List.mem_of_getElem? hx)
      have GX := Lib.hid gx
      clear hp gx hx
      by_cases hk1 : x.kind = Ch.kStall
      · have e1 : (x.kind.toList != [115, 116, 97, 108, 108]) = false := by
          show (!(x.kind.toList == Ch.kStall.data.toList)) = false
          rw [kind_yes hk1]; rfl
        have e2 : (x.kind.toList == [115, 116, 97, 108, 108]) = true := kind_yes hk1
        clear hk1
        go_wp2_with fail
        go_roundw
        case rel => exact ⟨k + 1, _, by omega, by go_num, HP.out⟩
        case measure => simp [intOf]; omega
      · have e2 : (x.kind.toList == [115, 116, 97, 108, 108]) = false := str_ne hk1
        have e1 : (x.kind.toList != [115, 116, 97, 108, 108]) = true := by
          show (!(x.kind.toList == Ch.kStall.data.toList)) = true
          rw [str_ne hk1]; rfl
        have HQ : Hid ((p.outside x.act).stall = 0) := Ch.outside_stall HP.out.st hk1
        clear hk1
        go_wp2_with (go_at_call 32; (with_reducible refine (outside_any HP.out.at_ hwf x GX.out).mono ?_); rintro e w4 ⟨rfl, hq4, hk4⟩)
        have HN4 := Lib.hid (HP.out.next hq4 (hwf.outside _) HQ.out (outside_levels _ _) hk4 b1 b2)
        clear hq4 hk4
        go_roundw
        case rel => exact ⟨k + 1, _, by omega, by go_num, HN4.out⟩
        case measure => simp [intOf]; omega
    · have hbw := hp.below
      have g0 : wr.cell? ⟨w.heap.size, 0, none⟩ = some (vi kd) := (hbw.cell (p := ⟨w.heap.size, 0, none⟩) hz).trans k0
      have g1c : wr.cell? ⟨w.heap.size, 1, none⟩ = some (vi N) := (hbw.cell (p := ⟨w.heap.size, 1, none⟩) hz).trans k1
      have gz := cell_lt g0
      clear hp hbw k0 k1
      have hdc := Ch.next_done ⟨kd, N⟩ p.sense
      cases hd : (Ch.nextOf ⟨kd, N⟩ p.sense).2
      · have d2 : (Ch.nextOf ⟨kd, N⟩ ⟨p.height, p.ext, p.door, p.people, p.lift, p.bay, p.full p.ext, p.full (p.ext - 1), p.full (p.ext + 1)⟩).2 = false := hd
        have d1 : ((Ch.nextOf ⟨kd, N⟩ ⟨p.height, p.ext, p.door, p.people, p.lift, p.bay, p.full p.ext, p.full (p.ext - 1), p.full (p.ext + 1)⟩).1 == 45) = false := by
          rw [hd] at hdc
          have : ¬ (Ch.nextOf ⟨kd, N⟩ p.sense).1 = 45 := by simpa using hdc.symm
          show ((Ch.nextOf ⟨kd, N⟩ p.sense).1 == 45) = false
          simpa using this
        by_cases hA : kd = 1 ∧ 0 ≤ N ∧ N ≤ L * 3
        · obtain ⟨rfl, g1, g2⟩ := hA
          have HQ := Lib.hid (Ch.next_height (g := ⟨1, N⟩) hwf HP.out.st rfl g1 (by rw [HP.out.lv]; exact g2) hd)
          have i3 : IntKind.i64.wrap (L * 3) = L * 3 := IntWalk.i64_in _ (by omega)
          have p1 := hwf.ht1
          have p2 : p.height ≤ 12 := by have := hwf.ht2; have := hwf.lv2; omega
          clear hd hdc
          have HQ := HQ.out
          dsimp only at HQ
          rcases HQ with ⟨hlt', hq⟩ | ⟨hlt', hq⟩
          · have hq' : (p.step (Ch.nextOf ⟨1, N⟩ ⟨p.height, p.ext, p.door, p.people, p.lift, p.bay, p.full p.ext, p.full (p.ext - 1), p.full (p.ext + 1)⟩).1).height = p.height + 1 := hq
            have w1 : IntKind.i64.wrap (p.height - N) = p.height - N := IntWalk.i64_in _ (by omega)
            have w2 : IntKind.i64.wrap (p.height + 1 - N) = p.height + 1 - N := IntWalk.i64_in _ (by omega)
            have s1 := sq_bd (a := p.height - N) (by omega) (by omega)
            have s2 := sq_bd (a := p.height + 1 - N) (by omega) (by omega)
            have w3 : IntKind.i64.wrap ((p.height - N) * (p.height - N)) = (p.height - N) * (p.height - N) := IntWalk.i64_in _ (by omega)
            have w4 : IntKind.i64.wrap ((p.height + 1 - N) * (p.height + 1 - N)) = (p.height + 1 - N) * (p.height + 1 - N) := IntWalk.i64_in _ (by omega)
            have nr := nearer (a := p.height - N) (b := p.height + 1 - N) (Or.inl ⟨by omega, by omega⟩)
            clear hq
            go_wp2_with (first
              | (go_at_call 42; (with_reducible refine (sense_any (HP.out.at_.ext (by simp (maxDischargeDepth := 60))) hwf).mono ?_); rintro e ws ⟨rfl, oS, nS, rfl⟩)
              | (go_at_call 45; (with_reducible refine (next_f _ _ _ _ _ _ _ _ _ _ _ _).mono ?_); rintro e w1 ⟨rfl, o1, n1, rfl⟩))
            all_goals try (exfalso; simp only [beq_iff_eq, bne_iff_ne, ne_eq, beq_eq_false_iff_ne, bne_eq_false_iff_eq] at *; omega)
            go_at_call 43
            generalize hW : World.plus _ _ _ = wz
            have hxz : Ext wr wz := by rw [← hW]; exact (by simp (maxDischargeDepth := 60))
            have s0 : wz.cell? ⟨wr.heap.size + oS.size, 0, none⟩ = some (vi p.height) := by rw [← hW]; simp [go_sem]
            have s1c : wz.cell? ⟨wr.heap.size + oS.size, 1, none⟩ = some (vi p.ext) := by rw [← hW]; simp [go_sem]
            have t0 : wz.cell? ⟨w.heap.size, 0, none⟩ = some (vi 1) := cell_ext hxz g0
            have t1 : wz.cell? ⟨w.heap.size, 1, none⟩ = some (vi N) := cell_ext hxz g1c
            have hsz : wr.heap.size + oS.size < wz.heap.size := cell_lt s0
            clear hW
            have HPz : PlantAt wz pb mb p := HP.out.at_.ext hxz
            have plt := HP.out.at_.lt
            refine (step_any HPz hwf _).mono ?_
            rintro e w4 ⟨rfl, hq4, hk4⟩
            have u0 := hk4.cell s0 (fun c => by rcases c with c | c <;> omega)
            have u0b := hk4.cell s1c (fun c => by rcases c with c | c <;> omega)
            have u1 := hk4.cell t0 (fun c => by rcases c with c | c <;> omega)
            have u2 := hk4.cell t1 (fun c => by rcases c with c | c <;> omega)
            have uz := cell_lt u0
            have uz1 := cell_lt u1
            have HN4 := Lib.hid (HP.out.next hq4 (hwf.step _) (Ch.step_stall HP.out.st _) (step_levels _ _) ((Kept.of_ext hxz).trans hk4) b1 b2)
            have hwf4 : (p.step (Ch.nextOf ⟨1, N⟩ ⟨p.height, p.ext, p.door, p.people, p.lift, p.bay, p.full p.ext, p.full (p.ext - 1), p.full (p.ext + 1)⟩).1).WF := hwf.step _
            clear hq4 hk4 s0 s1c t0 t1 HPz hxz g0 g1c plt
            go_wp2_with (go_at_call 42; (with_reducible refine (sense_any HN4.out.at_ (hwf.step _)).mono ?_); rintro e w1 ⟨rfl, o1, n1, rfl⟩)
            go_ret
            refine ⟨?_, HX.out.trans ((Ext.of_below HN4.out.below).trans (by simp (maxDischargeDepth := 60)))⟩
            go_light
            first | (simp [nr]; done) | (simp [nr]; omega)
          · have hq' : (p.step (Ch.nextOf ⟨1, N⟩ ⟨p.height, p.ext, p.door, p.people, p.lift, p.bay, p.full p.ext, p.full (p.ext - 1), p.full (p.ext + 1)⟩).1).height = p.height - 1 := hq
            have w1 : IntKind.i64.wrap (p.height - N) = p.height - N := IntWalk.i64_in _ (by omega)
            have w2 : IntKind.i64.wrap (p.height - 1 - N) = p.height - 1 - N := IntWalk.i64_in _ (by omega)
            have s1 := sq_bd (a := p.height - N) (by omega) (by omega)
            have s2 := sq_bd (a := p.height - 1 - N) (by omega) (by omega)
            have w3 : IntKind.i64.wrap ((p.height - N) * (p.height - N)) = (p.height - N) * (p.height - N) := IntWalk.i64_in _ (by omega)
            have w4 : IntKind.i64.wrap ((p.height - 1 - N) * (p.height - 1 - N)) = (p.height - 1 - N) * (p.height - 1 - N) := IntWalk.i64_in _ (by omega)
            have nr := nearer (a := p.height - N) (b := p.height - 1 - N) (Or.inr ⟨by omega, by omega⟩)
            clear hq
            go_wp2_with (first
              | (go_at_call 42; (with_reducible refine (sense_any (HP.out.at_.ext (by simp (maxDischargeDepth := 60))) hwf).mono ?_); rintro e ws ⟨rfl, oS, nS, rfl⟩)
              | (go_at_call 45; (with_reducible refine (next_f _ _ _ _ _ _ _ _ _ _ _ _).mono ?_); rintro e w1 ⟨rfl, o1, n1, rfl⟩))
            all_goals try (exfalso; simp only [beq_iff_eq, bne_iff_ne, ne_eq, beq_eq_false_iff_ne, bne_eq_false_iff_eq] at *; omega)
            go_at_call 43
            generalize hW : World.plus _ _ _ = wz
            have hxz : Ext wr wz := by rw [← hW]; exact (by simp (maxDischargeDepth := 60))
            have s0 : wz.cell? ⟨wr.heap.size + oS.size, 0, none⟩ = some (vi p.height) := by rw [← hW]; simp [go_sem]
            have s1c : wz.cell? ⟨wr.heap.size + oS.size, 1, none⟩ = some (vi p.ext) := by rw [← hW]; simp [go_sem]
            have t0 : wz.cell? ⟨w.heap.size, 0, none⟩ = some (vi 1) := cell_ext hxz g0
            have t1 : wz.cell? ⟨w.heap.size, 1, none⟩ = some (vi N) := cell_ext hxz g1c
            have hsz : wr.heap.size + oS.size < wz.heap.size := cell_lt s0
            clear hW
            have HPz : PlantAt wz pb mb p := HP.out.at_.ext hxz
            have plt := HP.out.at_.lt
            refine (step_any HPz hwf _).mono ?_
            rintro e w4 ⟨rfl, hq4, hk4⟩
            have u0 := hk4.cell s0 (fun c => by rcases c with c | c <;> omega)
            have u0b := hk4.cell s1c (fun c => by rcases c with c | c <;> omega)
            have u1 := hk4.cell t0 (fun c => by rcases c with c | c <;> omega)
            have u2 := hk4.cell t1 (fun c => by rcases c with c | c <;> omega)
            have uz := cell_lt u0
            have uz1 := cell_lt u1
            have HN4 := Lib.hid (HP.out.next hq4 (hwf.step _) (Ch.step_stall HP.out.st _) (step_levels _ _) ((Kept.of_ext hxz).trans hk4) b1 b2)
            have hwf4 : (p.step (Ch.nextOf ⟨1, N⟩ ⟨p.height, p.ext, p.door, p.people, p.lift, p.bay, p.full p.ext, p.full (p.ext - 1), p.full (p.ext + 1)⟩).1).WF := hwf.step _
            clear hq4 hk4 s0 s1c t0 t1 HPz hxz g0 g1c plt
            go_wp2_with (go_at_call 42; (with_reducible refine (sense_any HN4.out.at_ (hwf.step _)).mono ?_); rintro e w1 ⟨rfl, o1, n1, rfl⟩)
            go_ret
            refine ⟨?_, HX.out.trans ((Ext.of_below HN4.out.below).trans (by simp (maxDischargeDepth := 60)))⟩
            go_light
            first | (simp [nr]; done) | (simp [nr]; omega)
        · by_cases hB : kd = 2 ∧ -2 ≤ N ∧ N ≤ 2
          · obtain ⟨rfl, g1, g2⟩ := hB
            have HQ := Lib.hid (Ch.next_reach (g := ⟨2, N⟩) hwf HP.out.st rfl g1 g2 hd)
            have i3 : IntKind.i64.wrap (L * 3) = L * 3 := IntWalk.i64_in _ (by omega)
            have p1 := hwf.ex1
            have p2 := hwf.ex2
            clear hA hd hdc
            have HQ := HQ.out
            dsimp only at HQ
            rcases HQ with ⟨hlt', hq⟩ | ⟨hlt', hq⟩
            · have hq' : (p.step (Ch.nextOf ⟨2, N⟩ ⟨p.height, p.ext, p.door, p.people, p.lift, p.bay, p.full p.ext, p.full (p.ext - 1), p.full (p.ext + 1)⟩).1).ext = p.ext + 1 := hq
              have w1 : IntKind.i64.wrap (p.ext - N) = p.ext - N := IntWalk.i64_in _ (by omega)
              have w2 : IntKind.i64.wrap (p.ext + 1 - N) = p.ext + 1 - N := IntWalk.i64_in _ (by omega)
              have s1 := sq_bd (a := p.ext - N) (by omega) (by omega)
              have s2 := sq_bd (a := p.ext + 1 - N) (by omega) (by omega)
              have w3 : IntKind.i64.wrap ((p.ext - N) * (p.ext - N)) = (p.ext - N) * (p.ext - N) := IntWalk.i64_in _ (by omega)
              have w4 : IntKind.i64.wrap ((p.ext + 1 - N) * (p.ext + 1 - N)) = (p.ext + 1 - N) * (p.ext + 1 - N) := IntWalk.i64_in _ (by omega)
              have nr := nearer (a := p.ext - N) (b := p.ext + 1 - N) (Or.inl ⟨by omega, by omega⟩)
              clear hq
              go_wp2_with (first
                | (go_at_call 42; (with_reducible refine (sense_any (HP.out.at_.ext (by simp (maxDischargeDepth := 60))) hwf).mono ?_); rintro e ws ⟨rfl, oS, nS, rfl⟩)
                | (go_at_call 45; (with_reducible refine (next_f _ _ _ _ _ _ _ _ _ _ _ _).mono ?_); rintro e w1 ⟨rfl, o1, n1, rfl⟩))
              all_goals try (exfalso; simp only [beq_iff_eq, bne_iff_ne, ne_eq, beq_eq_false_iff_ne, bne_eq_false_iff_eq] at *; omega)
              go_at_call 43
              generalize hW : World.plus _ _ _ = wz
              have hxz : Ext wr wz := by rw [← hW]; exact (by simp (maxDischargeDepth := 60))
              have s0 : wz.cell? ⟨wr.heap.size + oS.size, 0, none⟩ = some (vi p.height) := by rw [← hW]; simp [go_sem]
              have s1c : wz.cell? ⟨wr.heap.size + oS.size, 1, none⟩ = some (vi p.ext) := by rw [← hW]; simp [go_sem]
              have t0 : wz.cell? ⟨w.heap.size, 0, none⟩ = some (vi 2) := cell_ext hxz g0
              have t1 : wz.cell? ⟨w.heap.size, 1, none⟩ = some (vi N) := cell_ext hxz g1c
              have hsz : wr.heap.size + oS.size < wz.heap.size := cell_lt s0
              clear hW
              have HPz : PlantAt wz pb mb p := HP.out.at_.ext hxz
              have plt := HP.out.at_.lt
              refine (step_any HPz hwf _).mono ?_
              rintro e w4 ⟨rfl, hq4, hk4⟩
              have u0 := hk4.cell s0 (fun c => by rcases c with c | c <;> omega)
              have u0b := hk4.cell s1c (fun c => by rcases c with c | c <;> omega)
              have u1 := hk4.cell t0 (fun c => by rcases c with c | c <;> omega)
              have u2 := hk4.cell t1 (fun c => by rcases c with c | c <;> omega)
              have uz := cell_lt u0
              have uz1 := cell_lt u1
              have HN4 := Lib.hid (HP.out.next hq4 (hwf.step _) (Ch.step_stall HP.out.st _) (step_levels _ _) ((Kept.of_ext hxz).trans hk4) b1 b2)
              have hwf4 : (p.step (Ch.nextOf ⟨2, N⟩ ⟨p.height, p.ext, p.door, p.people, p.lift, p.bay, p.full p.ext, p.full (p.ext - 1), p.full (p.ext + 1)⟩).1).WF := hwf.step _
              clear hq4 hk4 s0 s1c t0 t1 HPz hxz g0 g1c plt
              go_wp2_with (go_at_call 42; (with_reducible refine (sense_any HN4.out.at_ (hwf.step _)).mono ?_); rintro e w1 ⟨rfl, o1, n1, rfl⟩)
              go_ret
              refine ⟨?_, HX.out.trans ((Ext.of_below HN4.out.below).trans (by simp (maxDischargeDepth := 60)))⟩
              go_light
              first | (simp [nr]; done) | (simp [nr]; omega)
            · have hq' : (p.step (Ch.nextOf ⟨2, N⟩ ⟨p.height, p.ext, p.door, p.people, p.lift, p.bay, p.full p.ext, p.full (p.ext - 1), p.full (p.ext + 1)⟩).1).ext = p.ext - 1 := hq
              have w1 : IntKind.i64.wrap (p.ext - N) = p.ext - N := IntWalk.i64_in _ (by omega)
              have w2 : IntKind.i64.wrap (p.ext - 1 - N) = p.ext - 1 - N := IntWalk.i64_in _ (by omega)
              have s1 := sq_bd (a := p.ext - N) (by omega) (by omega)
              have s2 := sq_bd (a := p.ext - 1 - N) (by omega) (by omega)
              have w3 : IntKind.i64.wrap ((p.ext - N) * (p.ext - N)) = (p.ext - N) * (p.ext - N) := IntWalk.i64_in _ (by omega)
              have w4 : IntKind.i64.wrap ((p.ext - 1 - N) * (p.ext - 1 - N)) = (p.ext - 1 - N) * (p.ext - 1 - N) := IntWalk.i64_in _ (by omega)
              have nr := nearer (a := p.ext - N) (b := p.ext - 1 - N) (Or.inr ⟨by omega, by omega⟩)
              clear hq
              go_wp2_with (first
                | (go_at_call 42; (with_reducible refine (sense_any (HP.out.at_.ext (by simp (maxDischargeDepth := 60))) hwf).mono ?_); rintro e ws ⟨rfl, oS, nS, rfl⟩)
                | (go_at_call 45; (with_reducible refine (next_f _ _ _ _ _ _ _ _ _ _ _ _).mono ?_); rintro e w1 ⟨rfl, o1, n1, rfl⟩))
              all_goals try (exfalso; simp only [beq_iff_eq, bne_iff_ne, ne_eq, beq_eq_false_iff_ne, bne_eq_false_iff_eq] at *; omega)
              go_at_call 43
              generalize hW : World.plus _ _ _ = wz
              have hxz : Ext wr wz := by rw [← hW]; exact (by simp (maxDischargeDepth := 60))
              have s0 : wz.cell? ⟨wr.heap.size + oS.size, 0, none⟩ = some (vi p.height) := by rw [← hW]; simp [go_sem]
              have s1c : wz.cell? ⟨wr.heap.size + oS.size, 1, none⟩ = some (vi p.ext) := by rw [← hW]; simp [go_sem]
              have t0 : wz.cell? ⟨w.heap.size, 0, none⟩ = some (vi 2) := cell_ext hxz g0
              have t1 : wz.cell? ⟨w.heap.size, 1, none⟩ = some (vi N) := cell_ext hxz g1c
              have hsz : wr.heap.size + oS.size < wz.heap.size := cell_lt s0
              clear hW
              have HPz : PlantAt wz pb mb p := HP.out.at_.ext hxz
              have plt := HP.out.at_.lt
              refine (step_any HPz hwf _).mono ?_
              rintro e w4 ⟨rfl, hq4, hk4⟩
              have u0 := hk4.cell s0 (fun c => by rcases c with c | c <;> omega)
              have u0b := hk4.cell s1c (fun c => by rcases c with c | c <;> omega)
              have u1 := hk4.cell t0 (fun c => by rcases c with c | c <;> omega)
              have u2 := hk4.cell t1 (fun c => by rcases c with c | c <;> omega)
              have uz := cell_lt u0
              have uz1 := cell_lt u1
              have HN4 := Lib.hid (HP.out.next hq4 (hwf.step _) (Ch.step_stall HP.out.st _) (step_levels _ _) ((Kept.of_ext hxz).trans hk4) b1 b2)
              have hwf4 : (p.step (Ch.nextOf ⟨2, N⟩ ⟨p.height, p.ext, p.door, p.people, p.lift, p.bay, p.full p.ext, p.full (p.ext - 1), p.full (p.ext + 1)⟩).1).WF := hwf.step _
              clear hq4 hk4 s0 s1c t0 t1 HPz hxz g0 g1c plt
              go_wp2_with (go_at_call 42; (with_reducible refine (sense_any HN4.out.at_ (hwf.step _)).mono ?_); rintro e w1 ⟨rfl, o1, n1, rfl⟩)
              go_ret
              refine ⟨?_, HX.out.trans ((Ext.of_below HN4.out.below).trans (by simp (maxDischargeDepth := 60)))⟩
              go_light
              first | (simp [nr]; done) | (simp [nr]; omega)
          · have HA := Lib.hid hA
            have HB := Lib.hid hB
            have i3 : IntKind.i64.wrap (L * 3) = L * 3 := IntWalk.i64_in _ (by omega)
            clear hA hB hd hdc
            go_wp2_with (first
                | (go_at_call 42; (with_reducible refine (sense_any (HP.out.at_.ext (by simp (maxDischargeDepth := 60))) hwf).mono ?_); rintro e ws ⟨rfl, oS, nS, rfl⟩)
                | (go_at_call 45; (with_reducible refine (next_f _ _ _ _ _ _ _ _ _ _ _ _).mono ?_); rintro e w1 ⟨rfl, o1, n1, rfl⟩))
            all_goals
              first
              | (go_ret; exact ⟨rfl, HX.out.trans ((Ext.of_below HP.out.below).trans (by simp (maxDischargeDepth := 60)))⟩)
              | (exfalso
                 have hA := HA.out
                 have hB := HB.out
                 simp only [beq_iff_eq, bne_iff_ne, ne_eq, beq_eq_false_iff_ne, bne_eq_false_iff_eq] at *
                 omega)
      · have d2 : (Ch.nextOf ⟨kd, N⟩ ⟨p.height, p.ext, p.door, p.people, p.lift, p.bay, p.full p.ext, p.full (p.ext - 1), p.full (p.ext + 1)⟩).2 = true := hd
        have d1 : ((Ch.nextOf ⟨kd, N⟩ ⟨p.height, p.ext, p.door, p.people, p.lift, p.bay, p.full p.ext, p.full (p.ext - 1), p.full (p.ext + 1)⟩).1 == 45) = true := by
          rw [hd] at hdc
          have : (Ch.nextOf ⟨kd, N⟩ p.sense).1 = 45 := by simpa using hdc.symm
          show ((Ch.nextOf ⟨kd, N⟩ p.sense).1 == 45) = true
          simpa using this
        clear hd hdc
        go_wp2_with (first
            | (go_at_call 42; (with_reducible refine (sense_any (HP.out.at_.ext (by simp (maxDischargeDepth := 60))) hwf).mono ?_); rintro e ws ⟨rfl, oS, nS, rfl⟩)
            | (go_at_call 45; (with_reducible refine (next_f _ _ _ _ _ _ _ _ _ _ _ _).mono ?_); rintro e w1 ⟨rfl, o1, n1, rfl⟩))
        go_ret
        exact ⟨rfl, HX.out.trans ((Ext.of_below HP.out.below).trans (by simp (maxDischargeDepth := 60)))⟩

set_option maxRecDepth 100000 in
set_option maxHeartbeats 4000000 in
theorem topGoal_bad (L : Int) (kd N : Int) (a : Option Addr) (n cap : Nat) (l : List RAct) (w : World) (h : Sl w 12 ractCells l a n cap) (hg : ∀ x ∈ l, x.Good) (hL : L < 1 ∨ 4 < L) :
    Calls Try.prog 11 #[vi L, .slice a n cap, (.agg #[vi kd, vi N])] w fun e w' => e = .returned (.bool true) ∧ Ext w w' := by
  have HS := Lib.hid h
  have HG := Lib.hid hg
  have HL := Lib.hid hL
  have hb := h.bound
  have e1 : errV 1 = .iface 100 (vi 1) := rfl
  clear h hg hL
  go_enter Try.func11, Try.ntmps11
  go_wp2_with (first
    | (go_at_call 26; (with_reducible refine (moved_any _).mono ?_); rintro e w1 ⟨rfl, o1, n1, rfl⟩)
    | (go_at_call 22; (with_reducible refine (lightActs_any _ _ _ _ l _ (Sl.below HS.out (Ext.below (by simp (maxDischargeDepth := 60)))) HG.out).mono ?_); rintro e w2 ⟨lb, rfl, o2, n2, rfl⟩; cases lb)
    | (go_at_call 27; (with_reducible refine (new_bad L _ HL.out).mono ?_); rintro e w1 ⟨rfl, o1, n1, rfl⟩))
  all_goals
    go_ret
    exact ⟨rfl, (by simp (maxDischargeDepth := 60))⟩

theorem topGoal_walk (L : Int) (g : Ch.Goal) {a : Option Addr} {n cap : Nat} {l : List RAct} {w : World} (h : Sl w 12 ractCells l a n cap) (hg : ∀ x ∈ l, x.Good) (hn : I64 g.kind ∧ I64 g.n) :
    Calls Try.prog 11 #[vi L, .slice a n cap, goalA g] w fun e w' => e = .returned (.bool true) ∧ Ext w w' := by
  obtain ⟨kd, N⟩ := g
  by_cases hL : L < 1 ∨ 4 < L
  · exact topGoal_bad L kd N a n cap l w h hg hL
  · exact topGoal_ok L kd N a n cap l w h hg hn.2 (by omega) (by omega)
end Go.Proofs.Ytplomeacjbkgnab
