/-
  'TopNever' holds, and its card: the law's Go text answers true, whatever the input; what it lists is tied to the program's text. No conditions.
-/
import Derived.Test.YtplomeacjbkgnacGreatDoorBase48
import Derived.Test.YtplomeacjbkgnacGreatDoorRows
import Derived.Test.YtplomeacjbkgnacGreatDoorTie
import Derived.Test.YtplomeacjbkgnacGreatDoorCards
import Derived.SevenTiedAt
import Derived.Shelf.Lay
import Derived.Lay
import Derived.LaidOnce
import Derived.Stop.Joined

set_option linter.unusedSimpArgs false
set_option linter.unusedVariables false

namespace Go.Proofs.YtplomeacjbkgnacGreatDoor
open Go.ChangeShapes Go.WideShapes Go.ChangeAt Go.RowKit

theorem trodAll_below {H : Type} {enc : TypeId × Value → H} {P : Program} (hl : laidOutB P = true) {W W' : World} (hb : Below W.heap.size W W') :
  ∀ {ts : List TypeId} {vs : List Value} {ds : List (DataW H)} {ps : List MemPlace}, (∀ t ∈ ts, P.readableRec t = true ∧ t < P.types.size) →
  DataW.TrodAll enc P W 0 (fun _ => true) true ts vs ds ps → (∀ x ∈ ps, x.block < W.heap.size) →
  DataW.TrodAll enc P W' 0 (fun b => decide (b < W.heap.size)) true ts vs ds ps
 | [], vs, ds, ps, _, h, _ => by
  obtain ⟨rfl, rfl, rfl⟩ := trodAll_nil h
  exact trodAll_mk0
 | t :: ts, vs, ds, ps, hr, h, hlt => by
  obtain ⟨v, vs, d, ds, p, p', rfl, rfl, rfl, h0, r0⟩ := trodAll_cons h
  exact trodAll_cons_mk (Below.trod hl (hr t (by simp)).1 (hr t (by simp)).2 h0 hb (fun x hx => hlt x (by simp [hx])))
   (trodAll_below hl hb (fun t ht => hr t (by simp [ht])) r0 (fun x hx => hlt x (by simp [hx])))

theorem law_contract {H : Type} {enc : TypeId × Value → H} {P : Program} {f : FuncId} {fn : Func} {s : ChangeSpec} {tb : TypeId} (hl : laidOutB P = true) (hb : P.underlying tb = some .bool)
  (hres : fn.resultTypes = #[tb]) (hvars : s.vars = [])
  (hfn : ∀ ds : List (DataW H), ds.length = fn.params.size → s.fn H (ds ++ []) = { results := [.lit (.bool true)], args := ds })
  (hread : (fn.params.toList.all fun t => P.readableRec t && decide (t < P.types.size)) = true)
  {W : World} {args : Array Value} {ds gs : List (DataW H)} {before : List MemPlace}
  (hW : DataW.Whole enc P fn.params.toList s.vars false W args.toList ds gs before)
  (walk : Calls P f args W fun e W' => e = .returned (.bool true) ∧ Ext W W') :
  Calls P f args W fun e W' => ∃ v, e = .returned v ∧ s.post enc P fn false true false false W args v W' := by
 refine walk.mono fun e W' ⟨he, hx⟩ => ?_
 subst he
 have hg := hx.below
 have hW' := hW
 obtain ⟨p, q, hA, hV, rfl, hfz, hnd⟩ := hW
 rw [hvars] at hV
 obtain ⟨rfl, rfl⟩ := trodVars_none hV
 have hlen : ds.length = fn.params.size := by
  have := hA
  clear hW' hfz hnd walk hV hg hx
  have key : ∀ (ts : List TypeId) (vs : List Value) (ds : List (DataW H)) (ps : List MemPlace), DataW.TrodAll enc P W 0 (fun _ => true) true ts vs ds ps → ds.length = ts.length := by
   intro ts
   induction ts with
   | nil => intro vs ds ps h; obtain ⟨rfl, rfl, rfl⟩ := trodAll_nil h; rfl
   | cons t ts ih => intro vs ds ps h; obtain ⟨v, vs, d, ds, p, p', rfl, rfl, rfl, h0, r0⟩ := trodAll_cons h; simp [ih _ _ _ r0]
  simpa using key _ _ _ _ this
 simp only [List.append_nil] at hW'
 refine ⟨_, rfl, ds, [], p, [], p, [], hW', ?_, ?_, ?_, hg.frame _, fun h => by cases h⟩
 ·rw [hfn ds hlen, hres]
  exact trodAll_cons_mk (shut_bool hb _) trodAll_mk0
 ·rw [hfn ds hlen]
  exact trodAll_below hl hg (fun t ht => by simpa using List.all_eq_true.1 hread t ht) hA (fun x hx => by simpa using hW'.lt x hx)
 ·rw [hvars, hfn ds hlen]; rfl

theorem laidOut : laidOutB Tryz.prog = true := by kernel_rfl

theorem rd_of_trod {H : Type} {enc : TypeId × Value → H} {P : Program} {w : World} {t : TypeId} {v : Value} {d : DataW H} {p : List MemPlace} (h : DataW.Trod enc P w 0 (fun _ => true) true t v d p) : Rd enc P w t v.cells.toList := by
 obtain ⟨fuel, hf⟩ := h
 exact ⟨fuel, _, hf⟩

end Go.Proofs.YtplomeacjbkgnacGreatDoor

namespace Go.Proofs.YtplomeacjbkgnacGreatDoor
open Go.RowKit

def kTick : ByteArray := ⟨#[116, 105, 99, 107]⟩

set_option maxRecDepth 100000 in
set_option maxHeartbeats 8000000 in
theorem topNever_walk {la : Option Addr} {ln lc : Nat} {sizes : List Ch.Size} {a : Option Addr} {n cap : Nat} {l : List RAct} {w : World} (hl : Sl w 3 sizeCells sizes la ln lc) (h : Sl w 12 ractCells l a n cap) (hg : ∀ x ∈ l, x.Good) (L : Libs w) :
    Calls Tryz.prog 4 #[.slice la ln lc, .slice a n cap] w fun e w' => e = .returned (.bool true) ∧ Ext w w' := by
  have lbd := hl.bound
  have abd := h.bound
  have HF := Lib.hid hl
  have HA := Lib.hid h
  have HG := Lib.hid hg
  have HL := Lib.hid L
  clear hl h hg L
  go_enter Tryz.func4, Tryz.ntmps4
  go_wp2_with (go_at_call 10; (with_reducible refine (works_any _ (HL.out.ext (by simp (maxDischargeDepth := 60)))).mono ?_); rintro e w1 ⟨rfl, o1, n1, rfl⟩)
  go_at_call 11
  refine (ready_now (Sl.below HF.out (Ext.below (by simp (maxDischargeDepth := 60)))) (Sl.below HA.out (Ext.below (by simp (maxDischargeDepth := 60)))) HG.out (HL.out.ext (by simp (maxDischargeDepth := 60)))).mono ?_
  rintro e wB (⟨rfl, hx⟩ | ⟨pb, mb, db, lb0, hb0, rfl, hlf, h60, wA, hxA, hs⟩)
  · go_wp2_with fail
    go_ret
    exact ⟨rfl, Ext.trans (by simp (maxDischargeDepth := 60)) (hx.trans (by simp (maxDischargeDepth := 60)))⟩
  have HXA : Hid (Ext w wA) := Ext.trans (by simp (maxDischargeDepth := 60)) hxA
  have HXB : Hid (Ext wA wB) := hs.x
  have HS0 := Lib.hid hs
  have HLA := Lib.hid (HL.out.ext HXA.out)
  have HFA := Lib.hid (Sl.below HF.out HXA.out.below)
  have HAA := Lib.hid (Sl.below HA.out HXA.out.below)
  have hlen := hl_len HF.out
  clear hxA hs HF HA HL
  go_upto_region 8 with fail
  go_loopw [8, 9] (fun s1 s2 wr => ∃ (j lb hb : Nat) (h' : Ch.House), j ≤ n ∧ s1 = .pointer (some ⟨hb, 0, none⟩) ∧ s2 = .int .i64 (j : Int) ∧ Hid (h'.sizes = sizes) ∧ Hid (St wA NoN pb mb db lb hb h' (2 + 60 * j) wr)) (fun _ i2 _ => n - (intOf i2).toNat)
  case atStart => exact ⟨0, lb0, hb0, Ch.House.new sizes, Nat.zero_le _, rfl, rfl, rfl, HS0.out.ext (by simp (maxDischargeDepth := 60))⟩
  case round =>
    obtain ⟨j, lb, hb, h', hj, rfl, rfl, HSZ, HSR⟩ := hrel
    by_cases hlt : j < n
    · obtain ⟨bA, qA, x, rfl, hx, dx⟩ := HAA.out.get hlt
      have dx := at12 dx
      have gx := HG.out x (List.mem_of_getElem? hx)
      have HXJ := Lib.hid hx
      obtain ⟨dx0, dx1, dx2, dx3, dx4, dx5, dx6, dx7, dx8, dx9, dx10, dx11⟩ := dx
      have hqA := cell_lt dx0
      have hj0 : (0 : Int) ≤ (j : Int) := by omega
      have hj1 : (j : Int) < (n : Int) := by omega
      have hj2 : (j : Int) ≤ (cap : Int) := by omega
      clear hx
      have ex0 := xcell HSR.out.x dx0
      have ex1 := xcell HSR.out.x dx1
      have ex2 := xcell HSR.out.x dx2
      have ex3 := xcell HSR.out.x dx3
      have ex4 := xcell HSR.out.x dx4
      have ex5 := xcell HSR.out.x dx5
      have ex6 := xcell HSR.out.x dx6
      have ex7 := xcell HSR.out.x dx7
      have ex8 := xcell HSR.out.x dx8
      have ex9 := xcell HSR.out.x dx9
      have ex10 := xcell HSR.out.x dx10
      have ex11 := xcell HSR.out.x dx11
      have exl := cell_lt ex0
      by_cases hk : x.kind = kTick
      · rw [hk] at ex0
        unfold kTick at ex0
        go_upto_region 12 with fail
        go_loopw [10] (fun s10 wq => ∃ (m : Nat) (h2 : Ch.House), s10 = .int .i64 (m : Int) ∧ Hid (m ≤ 60) ∧ Hid (h2.sizes = sizes) ∧ Hid (St wA NoN pb mb db lb hb h2 (2 + 60 * j + m) wq)) (fun s10 _ => 60 - (intOf s10).toNat)
        case atStart => exact ⟨0, h', rfl, by unfold Hid; decide, HSZ.out, HSR.out.ext (by simp (maxDischargeDepth := 60))⟩
        case round =>
          obtain ⟨m, h2, rfl, HM, HSZ2, HSQ⟩ := hrel
          have hm := HM.out
          have fx0 := xcell HSQ.out.x dx0
          have fx1 := xcell HSQ.out.x dx1
          have fxl := cell_lt fx0
          clear ex0 ex1 ex2 ex3 ex4 ex5 ex6 ex7 ex8 ex9 ex10 ex11 exl dx0 dx1 dx2 dx3 dx4 dx5 dx6 dx7 dx8 dx9 dx10 dx11
          by_cases h1 : (m : Int) < x.a
          · by_cases h60' : (m : Int) < 60
            · have hk2 : 2 + 60 * j + m + 2 < 4294967296 := by omega
              go_upto_region 15 with (go_at_call 17; refine (st_tick (HSQ.out.ext (by simp (maxDischargeDepth := 60))) hk2 HLA.out.tab).mono ?_; rintro r w7 ⟨rfl, -, hs7⟩; have HS7 := Lib.hid hs7; clear hs7)
              obtain ⟨v1, v2, v3⟩ := Ch.Live.Inv'.never HS7.out.inv.inv
              have hwf7 := HS7.out.wf
              obtain ⟨dd, hdd⟩ : ∃ y, Hid (h2.tick.p.door = y) := ⟨_, rfl⟩
              obtain ⟨pe, hpe⟩ : ∃ y, Hid (h2.tick.p.people = y) := ⟨_, rfl⟩
              obtain ⟨li, hli⟩ : ∃ y, Hid (h2.tick.p.lift = y) := ⟨_, rfl⟩
              have HSN : Hid (senseA h2.tick.p = .agg #[vi h2.tick.p.height, vi h2.tick.p.ext, .bool dd, vi pe, vi li, vi h2.tick.p.bay, .bool (h2.tick.p.full h2.tick.p.ext), .bool (h2.tick.p.full (h2.tick.p.ext - 1)), .bool (h2.tick.p.full (h2.tick.p.ext + 1))]) := by
                unfold Hid senseA
                rw [hdd.out, hli.out, hpe.out]
              rw [hdd.out, hpe.out] at v2
              rw [hdd.out, hli.out] at v3
              have HV1 := Lib.hid v1
              clear v1
              have HU : ∀ w', Ext w7 w' → Calls Tryz.prog 19 #[.pointer (some ⟨pb, 0, none⟩)] w' fun r w'' => r = .returned (.bool false) ∧ Ext w' w'' := fun w' x' => by
                have := hurt_any (HS7.out.plantAt.ext x')
                rw [HV1.out] at this
                exact this
              have HHU := Lib.hid HU
              clear HU
              cases dd
              · have hp0 : ¬ 0 < pe := fun h => by cases v2 h
                go_wp2_with (first
                  | (go_at_call 18; (with_reducible refine (sense_val _ (HS7.out.plantAt.ext (by simp (maxDischargeDepth := 60))) hwf7 HSN).mono ?_); rintro e w1 ⟨rfl, o1, n1, rfl⟩)
                  | (go_at_call 19; (with_reducible refine (HHU.out _ (by simp (maxDischargeDepth := 60))).mono ?_); rintro e w1 ⟨rfl, o1, n1, rfl⟩))
                all_goals
                  go_roundw
                  case rel => exact ⟨m + 1, _, by go_num, by unfold Hid; omega, by unfold Hid; rw [tick_sizes]; exact HSZ2.out, HS7.out.ext (by simp (maxDischargeDepth := 60))⟩
                  case measure => simp [intOf]; omega
              · obtain rfl : li = 0 := by
                  by_cases h0 : li = 0
                  · exact h0
                  · cases v3 h0
                by_cases hp0 : 0 < pe
                · go_wp2_with (first
                    | (go_at_call 18; (with_reducible refine (sense_val _ (HS7.out.plantAt.ext (by simp (maxDischargeDepth := 60))) hwf7 HSN).mono ?_); rintro e w1 ⟨rfl, o1, n1, rfl⟩)
                    | (go_at_call 19; (with_reducible refine (HHU.out _ (by simp (maxDischargeDepth := 60))).mono ?_); rintro e w1 ⟨rfl, o1, n1, rfl⟩))
                  go_roundw
                  case rel => exact ⟨m + 1, _, by go_num, by unfold Hid; omega, by unfold Hid; rw [tick_sizes]; exact HSZ2.out, HS7.out.ext (by simp (maxDischargeDepth := 60))⟩
                  case measure => simp [intOf]; omega
                · go_wp2_with (first
                    | (go_at_call 18; (with_reducible refine (sense_val _ (HS7.out.plantAt.ext (by simp (maxDischargeDepth := 60))) hwf7 HSN).mono ?_); rintro e w1 ⟨rfl, o1, n1, rfl⟩)
                    | (go_at_call 19; (with_reducible refine (HHU.out _ (by simp (maxDischargeDepth := 60))).mono ?_); rintro e w1 ⟨rfl, o1, n1, rfl⟩))
                  go_roundw
                  case rel => exact ⟨m + 1, _, by go_num, by unfold Hid; omega, by unfold Hid; rw [tick_sizes]; exact HSZ2.out, HS7.out.ext (by simp (maxDischargeDepth := 60))⟩
                  case measure => simp [intOf]; omega
            · go_wp2_with fail
              go_roundw
              case rel => exact ⟨j + 1, lb, hb, h2, by omega, rfl, by go_num, HSZ2.out, (HSQ.out.ext (by simp (maxDischargeDepth := 60))).more (by omega)⟩
              case measure => simp [intOf]; omega
          · go_wp2_with fail
            go_roundw
            case rel => exact ⟨j + 1, lb, hb, h2, by omega, rfl, by go_num, HSZ2.out, (HSQ.out.ext (by simp (maxDischargeDepth := 60))).more (by omega)⟩
            case measure => simp [intOf]; omega
      · have hks : (x.kind.toList == [116, 105, 99, 107]) = false := str_ne hk
        go_upto_region 19 with (go_at_call 14; refine (play_now (HSR.out.ext (by simp (maxDischargeDepth := 60))) (by omega) HLA.out x gx (by rw [HSZ.out]; exact HFA.out)).mono ?_; rintro r w2 ⟨lb2, hb2, rfl, -, hs2⟩; have HS2 := Lib.hid hs2; clear hs2)
        obtain ⟨v1, -, -⟩ := Ch.Live.Inv'.never HS2.out.inv.inv
        have HHU : Hid (∀ w', Ext w2 w' → Calls Tryz.prog 19 #[.pointer (some ⟨pb, 0, none⟩)] w' fun r w'' => r = .returned (.bool false) ∧ Ext w' w'') := fun w' x' => by
          have := hurt_any (HS2.out.plantAt.ext x')
          rw [v1] at this
          exact this
        clear v1
        go_wp2_with (go_at_call 19; (with_reducible refine (HHU.out _ (by simp (maxDischargeDepth := 60))).mono ?_); rintro e w1 ⟨rfl, o1, n1, rfl⟩)
        go_roundw
        case rel => exact ⟨j + 1, lb2, hb2, _, by omega, rfl, by go_num, by unfold Hid; rw [play_sizes]; exact HSZ.out, (HS2.out.ext (by simp (maxDischargeDepth := 60))).more (by omega)⟩
        case measure => simp [intOf]; omega
    · go_wp2
      go_ret
      exact ⟨rfl, HXA.out.trans (HSR.out.x.trans (by simp (maxDischargeDepth := 60)))⟩

end Go.Proofs.YtplomeacjbkgnacGreatDoor

namespace Go.Proofs.YtplomeacjbkgnacGreatDoor
open Go.ChangeShapes Go.WideShapes Go.ChangeAt Go.RowKit

theorem topNever_libs {W : World} (hL : laidMetH Tryz.prog Rows.topNeverRow.laid W) (hs : W.ShapedOpen Tryz.prog) : Libs W := by
  rw [Go.MakeChecks.laidMetH_plain _ _ _ (by kernel_rfl)] at hL
  exact libs_of hL hs rfl rfl (by decide) rfl (by decide) (by kernel_rfl) (by kernel_rfl) (by kernel_rfl)

set_option maxRecDepth 100000 in
theorem topNever_lifted (os : Os) (started : os.Started) (H : Type) (enc : TypeId × Value → H) :
    ReturnsInHanded {} Tryz.checked os 4 .any (fun w args => (Rows.topNeverSpec.pre enc Tryz.prog Tryz.f4 [] false w args ∧ laidMetH Tryz.prog Rows.topNeverRow.laid w) ∧ sizedMet enc Tryz.prog Tryz.f4 (OpenSpec.ofChange Rows.topNeverSpec) false w args)
      (Rows.topNeverSpec.post enc Tryz.prog Tryz.f4 false true false false) := by
  refine handed_laid_shaped (C := Tryz.checked) (X := fun w _ => laidMetH Tryz.prog Rows.topNeverRow.laid w) (fun _ _ _ hh h => h.of_heap hh) own started (by kernel_rfl) Tryz.func4
    (ChangeSpec.witness_shaped (enc := enc) (C := Tryz.checked) (os := os) (X := fun w _ => laidMetH Tryz.prog Rows.topNeverRow.laid w) false (World.laidAll Tryz.prog os Rows.topNeverRow.laid) #[.slice none 0 0, .slice none 0 0] 8 (World.laidAll_os _ _ _)
      (World.shaped_of_ZipB (by kernel_rfl) (by kernel_rfl)) (by kernel_rfl) (by kernel_rfl) (by kernel_rfl)
      (by rw [Go.MakeChecks.laidMetH_plain _ _ _ (by kernel_rfl)]; exact laidMet_laidAll _ (by kernel_rfl) (by kernel_rfl))) ?_
  intro W base args ds gs before hval0 hW _ hL hsh
  have hval : ∀ (j : Nat) t v, Tryz.f4.params[j]? = some t → args[j]? = some v → Value.okWide Tryz.prog W .any base t v := hval0
  refine law_contract (tb := 4) laidOut Tryz.underlying4 (by kernel_rfl) rfl (fun ds hd => ?_) (by kernel_rfl) hW ?_
  · match ds, hd with
    | [_, _], _ => rfl
  obtain ⟨p, q, hA0, hV, rfl, hfz, hnd⟩ := hW
  have hA : DataW.TrodAll enc Tryz.prog W 0 (fun _ => true) true Tryz.f4.params.toList args.toList ds p := hA0
  rw [Tryz.params4] at hA hval
  obtain ⟨v0, vs0, d0, ds0, p0, q0, hargs, rfl, rfl, h0, r0⟩ := trodAll_cons hA
  obtain ⟨v1, vs1, d1, ds1, p1, q1, rfl, rfl, rfl, h1, r1⟩ := trodAll_cons r0
  obtain ⟨rfl, rfl, rfl⟩ := trodAll_nil r1
  obtain rfl : args = #[v0, v1] := by cases args; simp_all
  obtain ⟨a0, n0, c0, rfl⟩ := okWide_slice Tryz.underlying22 (hval 0 _ v0 rfl rfl)
  obtain ⟨x0, _, _, _, e0, s0, g0⟩ := rd_list (c := 3) sizeCells I64S (by decide) (fun _ => rfl) Tryz.underlying22 (by kernel_rfl) (fun ecs h => rd_size h) (rd_of_trod h0)
  simp only [Value.cells, List.cons.injEq, Value.slice.injEq, and_true] at e0
  obtain ⟨rfl, rfl, rfl⟩ := e0
  obtain ⟨a1, n1, c1, rfl⟩ := okWide_slice Tryz.underlying23 (hval 1 _ v1 rfl rfl)
  obtain ⟨x1, _, _, _, e1, s1, g1⟩ := rd_list (c := 12) ractCells (RAct.Whole W) (by decide) (fun _ => rfl) Tryz.underlying23 (by kernel_rfl) (fun ecs h => rd_actB h) (rd_of_trod h1)
  simp only [Value.cells, List.cons.injEq, Value.slice.injEq, and_true] at e1
  obtain ⟨rfl, rfl, rfl⟩ := e1
  exact topNever_walk s0 s1 (wholes_good g1) (topNever_libs hL hsh)

theorem topNever_holds : Rows.TopNeverSaid :=
  OpenClaim.holds_of_wide 4 Tryz.f4 rfl rfl rfl rfl rfl rfl rfl ⟨rfl, rfl, rfl, rfl, rfl⟩ rfl rfl rfl rfl rfl (by kernel_rfl) Tryz.func4 (by kernel_rfl)
    (of_decide_eq_true (by kernel_rfl)) (by unfold Func.isWrapper; first | (rw [if_pos (by decide +kernel)]; kernel_rfl) | (rw [if_neg (by decide +kernel)]; exact ⟨rfl, rfl⟩))
    (fun os started H enc _ => topNever_lifted os started H enc)

/-- THE CARD -/
theorem topNever_proved : Rows.TopNeverCardSaid :=
  Claim7.holds_tied_plain_at .later [] [.data, .data, .data, .data, .sentinel, .sentinel, .pinned] true Rows.topNeverCard.stood.harness true
    topNever_holds (fun _ h => by cases h) (by kernel_rfl) (fun _ h => by cases h) topNever_row_tie rfl ⟨rfl, rfl⟩ (by kernel_rfl) rfl
    (fun f fn hf hfn => by
      obtain rfl : f = 4 := Option.some.inj ((show Tryz.prog.funcNamed Tryz.f4.name = some 4 by kernel_rfl).symm.trans hf) |>.symm
      obtain rfl : fn = Tryz.f4 := (Option.some.inj (Tryz.func4.symm.trans hfn)).symm
      have hall : (Tryz.f4.params.toList.all fun u => !Tryz.prog.wantsStandIn u) = true := by kernel_rfl
      exact ⟨by kernel_rfl, fun j t ht => by
        have hm : t ∈ Tryz.f4.params.toList := Array.mem_toList_iff.2 (Array.mem_of_getElem? ht)
        exact (show Tryz.prog.wantsStandIn t = false by simpa using List.all_eq_true.1 hall t hm)⟩)
    (by kernel_rfl)
#print axioms topNever_proved
end Go.Proofs.YtplomeacjbkgnacGreatDoor
