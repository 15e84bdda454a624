/-
  'TopTicket' holds, and its card: the law's Go text answers true, whatever the input; what it lists is tied to the program's text. No conditions.
-/
import Derived.Test.YtplomeacjbkgnacGreatDoorBase48
import Derived.Test.YtplomeacjbkgnacGreatDoorRows
import Derived.Test.YtplomeacjbkgnacGreatDoorTie
import Derived.Test.YtplomeacjbkgnacGreatDoorCards
import Derived.SevenTiedAt
import Derived.Shelf.Lay
import Derived.Lay
import Derived.LaidOnce
import Derived.Stop.Joined

set_option linter.unusedSimpArgs false
set_option linter.unusedVariables false

namespace Go.Proofs.YtplomeacjbkgnacGreatDoor
open Go.ChangeShapes Go.WideShapes Go.ChangeAt Go.RowKit

theorem trodAll_below {H : Type} {enc : TypeId × Value → H} {P : Program} (hl : laidOutB P = true) {W W' : World} (hb : Below W.heap.size W W') :
  ∀ {ts : List TypeId} {vs : List Value} {ds : List (DataW H)} {ps : List MemPlace}, (∀ t ∈ ts, P.readableRec t = true ∧ t < P.types.size) →
  DataW.TrodAll enc P W 0 (fun _ => true) true ts vs ds ps → (∀ x ∈ ps, x.block < W.heap.size) →
  DataW.TrodAll enc P W' 0 (fun b => decide (b < W.heap.size)) true ts vs ds ps
 | [], vs, ds, ps, _, h, _ => by
  obtain ⟨rfl, rfl, rfl⟩ := trodAll_nil h
  exact trodAll_mk0
 | t :: ts, vs, ds, ps, hr, h, hlt => by
  obtain ⟨v, vs, d, ds, p, p', rfl, rfl, rfl, h0, r0⟩ := trodAll_cons h
  exact trodAll_cons_mk (Below.trod hl (hr t (by simp)).1 (hr t (by simp)).2 h0 hb (fun x hx => hlt x (by simp [hx])))
   (trodAll_below hl hb (fun t ht => hr t (by simp [ht])) r0 (fun x hx => hlt x (by simp [hx])))

theorem law_contract {H : Type} {enc : TypeId × Value → H} {P : Program} {f : FuncId} {fn : Func} {s : ChangeSpec} {tb : TypeId} (hl : laidOutB P = true) (hb : P.underlying tb = some .bool)
  (hres : fn.resultTypes = #[tb]) (hvars : s.vars = [])
  (hfn : ∀ ds : List (DataW H), ds.length = fn.params.size → s.fn H (ds ++ []) = { results := [.lit (.bool true)], args := ds })
  (hread : (fn.params.toList.all fun t => P.readableRec t && decide (t < P.types.size)) = true)
  {W : World} {args : Array Value} {ds gs : List (DataW H)} {before : List MemPlace}
  (hW : DataW.Whole enc P fn.params.toList s.vars false W args.toList ds gs before)
  (walk : Calls P f args W fun e W' => e = .returned (.bool true) ∧ Ext W W') :
  Calls P f args W fun e W' => ∃ v, e = .returned v ∧ s.post enc P fn false true false false W args v W' := by
 refine walk.mono fun e W' ⟨he, hx⟩ => ?_
 subst he
 have hg := hx.below
 have hW' := hW
 obtain ⟨p, q, hA, hV, rfl, hfz, hnd⟩ := hW
 rw [hvars] at hV
 obtain ⟨rfl, rfl⟩ := trodVars_none hV
 have hlen : ds.length = fn.params.size := by
  have := hA
  clear hW' hfz hnd walk hV hg hx
  have key : ∀ (ts : List TypeId) (vs : List Value) (ds : List (DataW H)) (ps : List MemPlace), DataW.TrodAll enc P W 0 (fun _ => true) true ts vs ds ps → ds.length = ts.length := by
   intro ts
   induction ts with
   | nil => intro vs ds ps h; obtain ⟨rfl, rfl, rfl⟩ := trodAll_nil h; rfl
   | cons t ts ih => intro vs ds ps h; obtain ⟨v, vs, d, ds, p, p', rfl, rfl, rfl, h0, r0⟩ := trodAll_cons h; simp [ih _ _ _ r0]
  simpa using key _ _ _ _ this
 simp only [List.append_nil] at hW'
 refine ⟨_, rfl, ds, [], p, [], p, [], hW', ?_, ?_, ?_, hg.frame _, fun h => by cases h⟩
 ·rw [hfn ds hlen, hres]
  exact trodAll_cons_mk (shut_bool hb _) trodAll_mk0
 ·rw [hfn ds hlen]
  exact trodAll_below hl hg (fun t ht => by simpa using List.all_eq_true.1 hread t ht) hA (fun x hx => by simpa using hW'.lt x hx)
 ·rw [hvars, hfn ds hlen]; rfl

theorem laidOut : laidOutB Tryz.prog = true := by kernel_rfl

theorem rd_of_trod {H : Type} {enc : TypeId × Value → H} {P : Program} {w : World} {t : TypeId} {v : Value} {d : DataW H} {p : List MemPlace} (h : DataW.Trod enc P w 0 (fun _ => true) true t v d p) : Rd enc P w t v.cells.toList := by
 obtain ⟨fuel, hf⟩ := h
 exact ⟨fuel, _, hf⟩

end Go.Proofs.YtplomeacjbkgnacGreatDoor

namespace Go.Proofs.YtplomeacjbkgnacGreatDoor
open Go.RowKit

theorem park_zero (h : Ch.House) (c : Ch.Car) (h0 : ¬ (h.park c).2.2 = 0) : (h.park c).2.1 = 0 := by
  unfold Ch.House.park at h0 ⊢
  split
  · rfl
  · rename_i hb
    rw [if_neg hb] at h0
    split
    · rfl
    · rename_i hp
      rw [hp] at h0
      exact absurd rfl h0

theorem park_sizes (h : Ch.House) (c : Ch.Car) : (h.park c).1.sizes = h.sizes := by
  unfold Ch.House.park
  split
  · rfl
  · split <;> rfl

set_option maxRecDepth 100000 in
set_option maxHeartbeats 8000000 in
theorem topTicket_walk {la : Option Addr} {ln lc : Nat} {sizes : List Ch.Size} {a : Option Addr} {n cap : Nat} {l : List RAct} {w : World} (hl : Sl w 3 sizeCells sizes la ln lc) (h : Sl w 12 ractCells l a n cap) (hg : ∀ x ∈ l, x.Good) (L : Libs w) :
    Calls Tryz.prog 5 #[.slice la ln lc, .slice a n cap] w fun e w' => e = .returned (.bool true) ∧ Ext w w' := by
  have lbd := hl.bound
  have abd := h.bound
  have HF := Lib.hid hl
  have HA := Lib.hid h
  have HG := Lib.hid hg
  have HL := Lib.hid L
  clear hl h hg L
  go_enter Tryz.func5, Tryz.ntmps5
  go_wp2_with (go_at_call 10; (with_reducible refine (works_any _ (HL.out.ext (by simp (maxDischargeDepth := 60)))).mono ?_); rintro e w1 ⟨rfl, o1, n1, rfl⟩)
  go_at_call 11
  refine (ready_now (Sl.below HF.out (Ext.below (by simp (maxDischargeDepth := 60)))) (Sl.below HA.out (Ext.below (by simp (maxDischargeDepth := 60)))) HG.out (HL.out.ext (by simp (maxDischargeDepth := 60)))).mono ?_
  rintro e wB (⟨rfl, hx⟩ | ⟨pb, mb, db, lb0, hb0, rfl, hlf, h60, wA, hxA, hs⟩)
  · go_wp2_with fail
    go_ret
    exact ⟨rfl, Ext.trans (by simp (maxDischargeDepth := 60)) (hx.trans (by simp (maxDischargeDepth := 60)))⟩
  have HXA : Hid (Ext w wA) := Ext.trans (by simp (maxDischargeDepth := 60)) hxA
  have HXB : Hid (Ext wA wB) := hs.x
  have HS0 := Lib.hid hs
  have HLA := Lib.hid (HL.out.ext HXA.out)
  have HFA := Lib.hid (Sl.below HF.out HXA.out.below)
  have HAA := Lib.hid (Sl.below HA.out HXA.out.below)
  have hlen := hl_len HF.out
  clear hxA hs HF HA HL
  go_upto_region 9 with fail
  go_loopw [8, 9, 10] (fun s1 s3 s2 wr => ∃ (j lb hb : Nat) (h' : Ch.House) (la0 : Int), j ≤ n ∧ s1 = .pointer (some ⟨hb, 0, none⟩) ∧ s3 = vi la0 ∧ s2 = .int .i64 (j : Int) ∧ Hid (la0 ≤ h'.b.last) ∧ Hid (h'.sizes = sizes) ∧ Hid (St wA NoN pb mb db lb hb h' (2 + 60 * j) wr)) (fun _ _ i2 _ => n - (intOf i2).toNat)
  case atStart => exact ⟨0, lb0, hb0, Ch.House.new sizes, 0, Nat.zero_le _, rfl, rfl, rfl, (by unfold Hid; exact Int.le_refl 0), rfl, HS0.out.ext (by simp (maxDischargeDepth := 60))⟩
  case round =>
    obtain ⟨j, lb, hb, h', la0, hj, rfl, rfl, rfl, HLS, HSZ, HSR⟩ := hrel
    by_cases hlt : j < n
    · obtain ⟨bA, qA, x, rfl, hx, dx⟩ := HAA.out.get hlt
      have dx := at12 dx
      have gx := HG.out x (List.mem_of_getElem? hx)
      have HXJ := Lib.hid hx
      obtain ⟨dx0, dx1, dx2, dx3, dx4, dx5, dx6, dx7, dx8, dx9, dx10, dx11⟩ := dx
      have hqA := cell_lt dx0
      have hj0 : (0 : Int) ≤ (j : Int) := by omega
      have hj1 : (j : Int) < (n : Int) := by omega
      have hj2 : (j : Int) ≤ (cap : Int) := by omega
      clear hx
      have ex0 := xcell HSR.out.x dx0
      have ex1 := xcell HSR.out.x dx1
      have ex2 := xcell HSR.out.x dx2
      have ex3 := xcell HSR.out.x dx3
      have ex4 := xcell HSR.out.x dx4
      have ex5 := xcell HSR.out.x dx5
      have ex6 := xcell HSR.out.x dx6
      have ex7 := xcell HSR.out.x dx7
      have ex8 := xcell HSR.out.x dx8
      have ex9 := xcell HSR.out.x dx9
      have ex10 := xcell HSR.out.x dx10
      have ex11 := xcell HSR.out.x dx11
      have exl := cell_lt ex0
      by_cases hk : x.kind = Ch.kPark
      · rw [hk] at ex0
        unfold Ch.kPark at ex0
        obtain ⟨v1, HV1⟩ : ∃ v, Hid ((h'.park ⟨x.car.id, ⟨x.car.size.long, x.car.size.high, x.car.size.heavy⟩⟩).2.1 = v) := ⟨_, rfl⟩
        obtain ⟨f, HF⟩ : ∃ v, Hid ((h'.park ⟨x.car.id, ⟨x.car.size.long, x.car.size.high, x.car.size.heavy⟩⟩).2.2 = v) := ⟨_, rfl⟩
        have HPS : Hid ((h'.park ⟨x.car.id, ⟨x.car.size.long, x.car.size.high, x.car.size.heavy⟩⟩).1.sizes = sizes) := by unfold Hid; rw [park_sizes]; exact HSZ.out
        by_cases hf0 : f = 0
        · subst hf0
          have hpn := Ch.Live.park_new HSR.out.inv.inv ⟨x.car.id, ⟨x.car.size.long, x.car.size.high, x.car.size.heavy⟩⟩ HF.out
          rw [HV1.out] at hpn
          obtain ⟨hv1, hla, ss, hfs, hsc⟩ := hpn
          have hls := HLS.out
          have hvl : la0 < v1 := by omega
          have hvl2 : ¬ v1 ≤ la0 := by omega
          replace hv1 := Lib.hid hv1
          replace hla := Lib.hid hla
          rw [← hv1.out] at hfs
          go_upto_region 17 with (go_at_call 20; refine (st_park (HSR.out.ext (by simp (maxDischargeDepth := 60))) (by omega) HLA.out.tab _ _ _ _).mono ?_; rintro r w2 ⟨rfl, -, hs2⟩; have HS2 := Lib.hid hs2; clear hs2; rw [HV1.out, HF.out, show errV 0 = .nilIface from rfl])
          generalize hH : (h'.park ⟨x.car.id, ⟨x.car.size.long, x.car.size.high, x.car.size.heavy⟩⟩).1 = H at HS2 HPS hla hfs
          clear hH HV1 HF
          have hsm : ss ∈ H.b.stays ∧ ss.ticket = v1 := by
            unfold Ch.Book.find at hfs
            exact ⟨List.mem_of_find?_eq_some hfs, by simpa using List.find?_some hfs⟩
          obtain ⟨last, bs, js, HBK⟩ : ∃ (a : Int) (b : List Ch.Stay) (c : List Ch.Job), Hid (H.b = ⟨a, b, c⟩) := ⟨_, _, _, rfl⟩
          go_upto_region 18 with (go_at_call 21; refine (st_book (HS2.out.ext (by simp (maxDischargeDepth := 60)))).mono ?_; rw [HBK.out]; rintro r w3 ⟨y1, d1, y2, d2, rfl, t1, t2, hx3, -, -⟩; dsimp only at t1 t2 ⊢; have HX3 : Hid (Ext w2 w3) := Ext.trans (by simp (maxDischargeDepth := 60)) hx3; have T1 := Lib.hid t1; have T2 := Lib.hid t2; clear t1 t2 hx3)
          generalize hW : World.alloc _ _ = w4
          generalize hB : w3.heap.size = B
          have hx34 : Ext w3 w4 := by rw [← hW]; exact (by simp (maxDischargeDepth := 60))
          have b0 : w4.cell? ⟨B, 0, none⟩ = some (vi last) := by rw [← hW, ← hB]; simp [go_sem]
          have b1 : w4.cell? ⟨B, 1, none⟩ = some (.slice y1 bs.length d1) := by rw [← hW, ← hB]; simp [go_sem]
          have b2 : w4.cell? ⟨B, 2, none⟩ = some (.slice y2 js.length d2) := by rw [← hW, ← hB]; simp [go_sem]
          have U1 := Lib.hid (Sl.below T1.out hx34.below)
          have U2 := Lib.hid (Sl.below T2.out hx34.below)
          have ub1 := U1.out.bound
          have ub2 := U2.out.bound
          have HX4 := Lib.hid (HX3.out.trans hx34)
          have hBl := cell_lt b0
          clear hW hB hx34 T1 T2 HX3
          rw [HBK.out] at hsm hfs hla
          dsimp only at hsm
          have HLA2 : Hid (last = h'.b.last + 1) := hla.out
          have HV2 : Hid (v1 = h'.b.last + 1) := hv1.out
          clear hla hv1
          obtain ⟨si, s', hsi, hsl, hst, htt⟩ := stay_at (last := last) (js := js) ⟨ss, hsm.1, hsm.2⟩
          have hss : s' = ss := by
            rw [← hst]
            unfold Ch.Book.stay
            rw [hfs]
            rfl
          subst hss
          obtain ⟨st, ⟨sid, ⟨sl1, sl2, sl3⟩⟩, ⟨sp1, sp2, sp3⟩⟩ := s'
          dsimp only at hsc
          obtain ⟨rfl, rfl, rfl, rfl⟩ : sid = x.car.id ∧ sl1 = x.car.size.long ∧ sl2 = x.car.size.high ∧ sl3 = x.car.size.heavy := by
            simp only [Ch.Car.mk.injEq, Ch.Size.mk.injEq] at hsc
            exact hsc
          have HI : Hid (Ch.indexOf (fun s : Ch.Stay => s.ticket == v1) bs = (si : Int)) := hsi
          have hsmm : si < bs.length := (List.getElem?_eq_some_iff.1 hsl).1
          obtain ⟨b', q', s2, rfl, hs', ds⟩ := U1.out.get hsmm
          rw [hsl] at hs'
          cases hs'
          have ds := at8 ds
          dsimp only at ds
          have hq2 := cell_lt ds.1
          have t1 := ds.2.1
          have t2 := ds.2.2.1
          have t3 := ds.2.2.2.1
          have t4 := ds.2.2.2.2.1
          have hs0 : (0 : Int) ≤ (si : Int) := by omega
          have hsn : ¬ (si : Int) < 0 := by omega
          have hs1 : (si : Int) < (bs.length : Int) := by omega
          have hs2 : (si : Int) ≤ (d1 : Int) := by omega
          have HS4 := Lib.hid (HS2.out.ext HX4.out)
          have gx0 := xcell HS4.out.x dx0
          have gx2 := xcell HS4.out.x dx3
          have gx3 := xcell HS4.out.x dx4
          have gx4 := xcell HS4.out.x dx5
          have gx5' := xcell HS4.out.x dx6
          have gxl := cell_lt gx0
          clear ds hsl hst htt hsi hfs hsm hsc ex0 ex1 ex2 ex3 ex4 ex5 ex6 ex7 ex8 ex9 ex10 ex11 exl dx0 dx1 dx2 dx3 dx4 dx5 dx6 dx7 dx8 dx9 dx10 dx11
          have hq : ∀ w, (Go.binOp .neq 34 (.agg #[vi x.car.id, vi x.car.size.long, vi x.car.size.high, vi x.car.size.heavy]) (.agg #[vi x.car.id, vi x.car.size.long, vi x.car.size.high, vi x.car.size.heavy])).run Tryz.prog w = .ok (.bool false) w := fun w => by rw [neqStruct w (eqCar w 9997 ⟨x.car.id, ⟨x.car.size.long, x.car.size.high, x.car.size.heavy⟩⟩ ⟨x.car.id, ⟨x.car.size.long, x.car.size.high, x.car.size.heavy⟩⟩)]; simp
          go_upto_region 19 with (go_at_call 22; (with_reducible refine (find_stay (si : Int) _ _ _ _ _ _ _ _ bs _ (Sl.below U1.out (Ext.below (by simp (maxDischargeDepth := 60)))) HI).mono ?_); rintro e w1 ⟨rfl, o1, n1, rfl⟩)
          (refine wp_region_ext (by kernel_rfl) (by kernel_rfl) ?_; (repeat (first | go_big_quiet_step (fail) | quiet_step (fail))); refine wpQuiet_nil ?_; intro _ hw'; obtain ⟨oq, nq, hw''⟩ := hw'; subst hw'')
          go_wp2
          go_roundw
          case rel => exact ⟨j + 1, lb, hb, H, v1, by omega, rfl, rfl, by go_num, (by unfold Hid; rw [HBK.out]; dsimp only; have := HLA2.out; have := HV2.out; omega), HPS.out, (HS4.out.ext (by simp (maxDischargeDepth := 60))).more (by omega)⟩
          case measure => simp [intOf]; omega
        · have hv1 : v1 = 0 := by rw [← HV1.out]; exact park_zero h' _ (by rw [HF.out]; exact hf0)
          subst hv1
          have hls := HLS.out
          have hpl := Ch.Live.park_last HSR.out.inv.inv ⟨x.car.id, ⟨x.car.size.long, x.car.size.high, x.car.size.heavy⟩⟩
          go_wp2_with (go_at_call 20; refine (st_park (HSR.out.ext (by simp (maxDischargeDepth := 60))) (by omega) HLA.out.tab _ _ _ _).mono ?_; rintro r w2 ⟨rfl, -, hs2⟩; have HS2 := Lib.hid hs2; clear hs2; rw [HV1.out, HF.out, show errV f = .iface 80 (vi f) by unfold errV; rw [if_neg hf0]])
          go_roundw
          case rel => exact ⟨j + 1, lb, hb, _, la0, by omega, rfl, rfl, by go_num, (by unfold Hid; omega), HPS.out, (HS2.out.ext (by simp (maxDischargeDepth := 60))).more (by omega)⟩
          case measure => simp [intOf]; omega
      · have hks : (x.kind.toList == [112, 97, 114, 107]) = false := str_ne hk
        have hpl := (Ch.Live.play_last HSR.out.inv.inv x.act).1
        have hls := HLS.out
        go_wp2_with (go_at_call 14; refine (play_now (HSR.out.ext (by simp (maxDischargeDepth := 60))) (by omega) HLA.out x gx (by rw [HSZ.out]; exact HFA.out)).mono ?_; rintro r w2 ⟨lb2, hb2, rfl, -, hs2⟩; have HS2 := Lib.hid hs2; clear hs2)
        go_roundw
        case rel => exact ⟨j + 1, lb2, hb2, _, la0, by omega, rfl, rfl, by go_num, (by unfold Hid; omega), by unfold Hid; rw [play_sizes]; exact HSZ.out, (HS2.out.ext (by simp (maxDischargeDepth := 60))).more (by omega)⟩
        case measure => simp [intOf]; omega
    · go_wp2
      go_ret
      exact ⟨rfl, HXA.out.trans (HSR.out.x.trans (by simp (maxDischargeDepth := 60)))⟩

end Go.Proofs.YtplomeacjbkgnacGreatDoor

namespace Go.Proofs.YtplomeacjbkgnacGreatDoor
open Go.ChangeShapes Go.WideShapes Go.ChangeAt Go.RowKit

theorem topTicket_libs {W : World} (hL : laidMetH Tryz.prog Rows.topTicketRow.laid W) (hs : W.ShapedOpen Tryz.prog) : Libs W := by
  rw [Go.MakeChecks.laidMetH_plain _ _ _ (by kernel_rfl)] at hL
  exact libs_of hL hs rfl rfl (by decide) rfl (by decide) (by kernel_rfl) (by kernel_rfl) (by kernel_rfl)

set_option maxRecDepth 100000 in
theorem topTicket_lifted (os : Os) (started : os.Started) (H : Type) (enc : TypeId × Value → H) :
    ReturnsInHanded {} Tryz.checked os 5 .any (fun w args => (Rows.topTicketSpec.pre enc Tryz.prog Tryz.f5 [] false w args ∧ laidMetH Tryz.prog Rows.topTicketRow.laid w) ∧ sizedMet enc Tryz.prog Tryz.f5 (OpenSpec.ofChange Rows.topTicketSpec) false w args)
      (Rows.topTicketSpec.post enc Tryz.prog Tryz.f5 false true false false) := by
  refine handed_laid_shaped (C := Tryz.checked) (X := fun w _ => laidMetH Tryz.prog Rows.topTicketRow.laid w) (fun _ _ _ hh h => h.of_heap hh) own started (by kernel_rfl) Tryz.func5
    (ChangeSpec.witness_shaped (enc := enc) (C := Tryz.checked) (os := os) (X := fun w _ => laidMetH Tryz.prog Rows.topTicketRow.laid w) false (World.laidAll Tryz.prog os Rows.topTicketRow.laid) #[.slice none 0 0, .slice none 0 0] 8 (World.laidAll_os _ _ _)
      (World.shaped_of_ZipB (by kernel_rfl) (by kernel_rfl)) (by kernel_rfl) (by kernel_rfl) (by kernel_rfl)
      (by rw [Go.MakeChecks.laidMetH_plain _ _ _ (by kernel_rfl)]; exact laidMet_laidAll _ (by kernel_rfl) (by kernel_rfl))) ?_
  intro W base args ds gs before hval0 hW _ hL hsh
  have hval : ∀ (j : Nat) t v, Tryz.f5.params[j]? = some t → args[j]? = some v → Value.okWide Tryz.prog W .any base t v := hval0
  refine law_contract (tb := 4) laidOut Tryz.underlying4 (by kernel_rfl) rfl (fun ds hd => ?_) (by kernel_rfl) hW ?_
  · match ds, hd with
    | [_, _], _ => rfl
  obtain ⟨p, q, hA0, hV, rfl, hfz, hnd⟩ := hW
  have hA : DataW.TrodAll enc Tryz.prog W 0 (fun _ => true) true Tryz.f5.params.toList args.toList ds p := hA0
  rw [Tryz.params5] at hA hval
  obtain ⟨v0, vs0, d0, ds0, p0, q0, hargs, rfl, rfl, h0, r0⟩ := trodAll_cons hA
  obtain ⟨v1, vs1, d1, ds1, p1, q1, rfl, rfl, rfl, h1, r1⟩ := trodAll_cons r0
  obtain ⟨rfl, rfl, rfl⟩ := trodAll_nil r1
  obtain rfl : args = #[v0, v1] := by cases args; simp_all
  obtain ⟨a0, n0, c0, rfl⟩ := okWide_slice Tryz.underlying22 (hval 0 _ v0 rfl rfl)
  obtain ⟨x0, _, _, _, e0, s0, g0⟩ := rd_list (c := 3) sizeCells I64S (by decide) (fun _ => rfl) Tryz.underlying22 (by kernel_rfl) (fun ecs h => rd_size h) (rd_of_trod h0)
  simp only [Value.cells, List.cons.injEq, Value.slice.injEq, and_true] at e0
  obtain ⟨rfl, rfl, rfl⟩ := e0
  obtain ⟨a1, n1, c1, rfl⟩ := okWide_slice Tryz.underlying23 (hval 1 _ v1 rfl rfl)
  obtain ⟨x1, _, _, _, e1, s1, g1⟩ := rd_list (c := 12) ractCells (RAct.Whole W) (by decide) (fun _ => rfl) Tryz.underlying23 (by kernel_rfl) (fun ecs h => rd_actB h) (rd_of_trod h1)
  simp only [Value.cells, List.cons.injEq, Value.slice.injEq, and_true] at e1
  obtain ⟨rfl, rfl, rfl⟩ := e1
  exact topTicket_walk s0 s1 (wholes_good g1) (topTicket_libs hL hsh)

theorem topTicket_holds : Rows.TopTicketSaid :=
  OpenClaim.holds_of_wide 5 Tryz.f5 rfl rfl rfl rfl rfl rfl rfl ⟨rfl, rfl, rfl, rfl, rfl⟩ rfl rfl rfl rfl rfl (by kernel_rfl) Tryz.func5 (by kernel_rfl)
    (of_decide_eq_true (by kernel_rfl)) (by unfold Func.isWrapper; first | (rw [if_pos (by decide +kernel)]; kernel_rfl) | (rw [if_neg (by decide +kernel)]; exact ⟨rfl, rfl⟩))
    (fun os started H enc _ => topTicket_lifted os started H enc)

/-- THE CARD -/
theorem topTicket_proved : Rows.TopTicketCardSaid :=
  Claim7.holds_tied_plain_at .later [] [.data, .data, .data, .data, .sentinel, .sentinel, .pinned] true Rows.topTicketCard.stood.harness true
    topTicket_holds (fun _ h => by cases h) (by kernel_rfl) (fun _ h => by cases h) topTicket_row_tie rfl ⟨rfl, rfl⟩ (by kernel_rfl) rfl
    (fun f fn hf hfn => by
      obtain rfl : f = 5 := Option.some.inj ((show Tryz.prog.funcNamed Tryz.f5.name = some 5 by kernel_rfl).symm.trans hf) |>.symm
      obtain rfl : fn = Tryz.f5 := (Option.some.inj (Tryz.func5.symm.trans hfn)).symm
      have hall : (Tryz.f5.params.toList.all fun u => !Tryz.prog.wantsStandIn u) = true := by kernel_rfl
      exact ⟨by kernel_rfl, fun j t ht => by
        have hm : t ∈ Tryz.f5.params.toList := Array.mem_toList_iff.2 (Array.mem_of_getElem? ht)
        exact (show Tryz.prog.wantsStandIn t = false by simpa using List.all_eq_true.1 hall t hm)⟩)
    (by kernel_rfl)
#print axioms topTicket_proved
end Go.Proofs.YtplomeacjbkgnacGreatDoor
