/-
  'TopHome' holds, and its card: the law's Go text answers true, whatever the input; what it lists is tied to the program's text. No conditions.
-/
import Derived.Test.YtplomeacjbkgnacGreatDoorBase48
import Derived.Test.YtplomeacjbkgnacGreatDoorBase16
import Derived.Test.YtplomeacjbkgnacGreatDoorBase12
import Derived.Test.YtplomeacjbkgnacGreatDoorRows
import Derived.Test.YtplomeacjbkgnacGreatDoorTie
import Derived.Test.YtplomeacjbkgnacGreatDoorCards
import Derived.SevenTiedAt
import Derived.Shelf.Lay
import Derived.Lay
import Derived.LaidOnce
import Derived.Stop.Joined

set_option linter.unusedSimpArgs false
set_option linter.unusedVariables false

namespace Go.Proofs.YtplomeacjbkgnacGreatDoor
open Go.ChangeShapes Go.WideShapes Go.ChangeAt Go.RowKit

theorem trodAll_below {H : Type} {enc : TypeId × Value → H} {P : Program} (hl : laidOutB P = true) {W W' : World} (hb : Below W.heap.size W W') :
  ∀ {ts : List TypeId} {vs : List Value} {ds : List (DataW H)} {ps : List MemPlace}, (∀ t ∈ ts, P.readableRec t = true ∧ t < P.types.size) →
  DataW.TrodAll enc P W 0 (fun _ => true) true ts vs ds ps → (∀ x ∈ ps, x.block < W.heap.size) →
  DataW.TrodAll enc P W' 0 (fun b => decide (b < W.heap.size)) true ts vs ds ps
 | [], vs, ds, ps, _, h, _ => by
  obtain ⟨rfl, rfl, rfl⟩ := trodAll_nil h
  exact trodAll_mk0
 | t :: ts, vs, ds, ps, hr, h, hlt => by
  obtain ⟨v, vs, d, ds, p, p', rfl, rfl, rfl, h0, r0⟩ := trodAll_cons h
  exact trodAll_cons_mk (Below.trod hl (hr t (by simp)).1 (hr t (by simp)).2 h0 hb (fun x hx => hlt x (by simp [hx])))
   (trodAll_below hl hb (fun t ht => hr t (by simp [ht])) r0 (fun x hx => hlt x (by simp [hx])))

theorem law_contract {H : Type} {enc : TypeId × Value → H} {P : Program} {f : FuncId} {fn : Func} {s : ChangeSpec} {tb : TypeId} (hl : laidOutB P = true) (hb : P.underlying tb = some .bool)
  (hres : fn.resultTypes = #[tb]) (hvars : s.vars = [])
  (hfn : ∀ ds : List (DataW H), ds.length = fn.params.size → s.fn H (ds ++ []) = { results := [.lit (.bool true)], args := ds })
  (hread : (fn.params.toList.all fun t => P.readableRec t && decide (t < P.types.size)) = true)
  {W : World} {args : Array Value} {ds gs : List (DataW H)} {before : List MemPlace}
  (hW : DataW.Whole enc P fn.params.toList s.vars false W args.toList ds gs before)
  (walk : Calls P f args W fun e W' => e = .returned (.bool true) ∧ Ext W W') :
  Calls P f args W fun e W' => ∃ v, e = .returned v ∧ s.post enc P fn false true false false W args v W' := by
 refine walk.mono fun e W' ⟨he, hx⟩ => ?_
 subst he
 have hg := hx.below
 have hW' := hW
 obtain ⟨p, q, hA, hV, rfl, hfz, hnd⟩ := hW
 rw [hvars] at hV
 obtain ⟨rfl, rfl⟩ := trodVars_none hV
 have hlen : ds.length = fn.params.size := by
  have := hA
  clear hW' hfz hnd walk hV hg hx
  have key : ∀ (ts : List TypeId) (vs : List Value) (ds : List (DataW H)) (ps : List MemPlace), DataW.TrodAll enc P W 0 (fun _ => true) true ts vs ds ps → ds.length = ts.length := by
   intro ts
   induction ts with
   | nil => intro vs ds ps h; obtain ⟨rfl, rfl, rfl⟩ := trodAll_nil h; rfl
   | cons t ts ih => intro vs ds ps h; obtain ⟨v, vs, d, ds, p, p', rfl, rfl, rfl, h0, r0⟩ := trodAll_cons h; simp [ih _ _ _ r0]
  simpa using key _ _ _ _ this
 simp only [List.append_nil] at hW'
 refine ⟨_, rfl, ds, [], p, [], p, [], hW', ?_, ?_, ?_, hg.frame _, fun h => by cases h⟩
 ·rw [hfn ds hlen, hres]
  exact trodAll_cons_mk (shut_bool hb _) trodAll_mk0
 ·rw [hfn ds hlen]
  exact trodAll_below hl hg (fun t ht => by simpa using List.all_eq_true.1 hread t ht) hA (fun x hx => by simpa using hW'.lt x hx)
 ·rw [hvars, hfn ds hlen]; rfl

theorem laidOut : laidOutB Tryz.prog = true := by kernel_rfl

theorem rd_of_trod {H : Type} {enc : TypeId × Value → H} {P : Program} {w : World} {t : TypeId} {v : Value} {d : DataW H} {p : List MemPlace} (h : DataW.Trod enc P w 0 (fun _ => true) true t v d p) : Rd enc P w t v.cells.toList := by
 obtain ⟨fuel, hf⟩ := h
 exact ⟨fuel, _, hf⟩

end Go.Proofs.YtplomeacjbkgnacGreatDoor

namespace Go.Proofs.YtplomeacjbkgnacGreatDoor
open Go.RowKit

theorem check_val0 (last lv : Int) (a1 : Option Addr) (m1 c1 : Nat) (a2 : Option Addr) (m2 c2 : Nat) (l : List Ch.Stay) (js : List Ch.Job) (w : World) (h : Sl w 8 stayCells l a1 m1 c1) (h2 : Sl w 2 jobCells js a2 m2 c2) (hl4 : lv ≤ 4) (hf : Hid (Ch.bookFault ⟨last, l, js⟩ lv = 0)) :
    Calls Tryz.prog 24 #[bookA last a1 m1 c1 a2 m2 c2, vi lv] w fun e w' => e = .returned .nilIface ∧ Ext w w' := by
  have := bookcheck_any last lv a1 m1 c1 a2 m2 c2 l js w h h2 hl4
  rw [hf.out] at this
  exact this

set_option maxRecDepth 100000 in
set_option maxHeartbeats 8000000 in
theorem topHome_walk {la : Option Addr} {ln lc : Nat} {sizes : List Ch.Size} {a : Option Addr} {n cap : Nat} {l : List RAct} {w : World} (hl : Sl w 3 sizeCells sizes la ln lc) (h : Sl w 12 ractCells l a n cap) (hg : ∀ x ∈ l, x.Good) (L : Libs w) :
    Calls Tryz.prog 7 #[.slice la ln lc, .slice a n cap] w fun e w' => e = .returned (.bool true) ∧ Ext w w' := by
  have lbd := hl.bound
  have abd := h.bound
  have HF := Lib.hid hl
  have HA := Lib.hid h
  have HG := Lib.hid hg
  have HL := Lib.hid L
  clear hl h hg L
  go_enter Tryz.func7, Tryz.ntmps7
  go_wp2_with (go_at_call 10; (with_reducible refine (works_any _ (HL.out.ext (by simp (maxDischargeDepth := 60)))).mono ?_); rintro e w1 ⟨rfl, o1, n1, rfl⟩)
  go_at_call 11
  refine (ready_now (Sl.below HF.out (Ext.below (by simp (maxDischargeDepth := 60)))) (Sl.below HA.out (Ext.below (by simp (maxDischargeDepth := 60)))) HG.out (HL.out.ext (by simp (maxDischargeDepth := 60)))).mono ?_
  rintro e wB (⟨rfl, hx⟩ | ⟨pb, mb, db, lb0, hb0, rfl, hlf, h60, wA, hxA, hs⟩)
  · go_wp2_with fail
    go_ret
    exact ⟨rfl, Ext.trans (by simp (maxDischargeDepth := 60)) (hx.trans (by simp (maxDischargeDepth := 60)))⟩
  have HXA : Hid (Ext w wA) := Ext.trans (by simp (maxDischargeDepth := 60)) hxA
  have HXB : Hid (Ext wA wB) := hs.x
  have HS0 := Lib.hid hs
  have HLA := Lib.hid (HL.out.ext HXA.out)
  have HFA := Lib.hid (Sl.below HF.out HXA.out.below)
  have HAA := Lib.hid (Sl.below HA.out HXA.out.below)
  have hlen := hl_len HF.out
  clear hxA hs HF HA HL
  go_upto_region 8 with fail
  go_loopw [8, 9] (fun s1 s2 wr => ∃ (j lb hb : Nat) (h' : Ch.House), j ≤ n ∧ s1 = .pointer (some ⟨hb, 0, none⟩) ∧ s2 = .int .i64 (j : Int) ∧ Hid (h'.sizes = sizes) ∧ Hid (St wA NoN pb mb db lb hb h' (2 + 60 * j) wr)) (fun _ i2 _ => n - (intOf i2).toNat)
  case atStart => exact ⟨0, lb0, hb0, Ch.House.new sizes, Nat.zero_le _, rfl, rfl, rfl, HS0.out.ext (by simp (maxDischargeDepth := 60))⟩
  case round =>
    obtain ⟨j, lb, hb, h', hj, rfl, rfl, HSZ, HSR⟩ := hrel
    by_cases hlt : j < n
    · obtain ⟨bA, qA, x, rfl, hx, dx⟩ := HAA.out.get hlt
      have dx := at12 dx
      have gx := HG.out x (List.mem_of_getElem? hx)
      have HXJ := Lib.hid hx
      obtain ⟨dx0, dx1, dx2, dx3, dx4, dx5, dx6, dx7, dx8, dx9, dx10, dx11⟩ := dx
      have hqA := cell_lt dx0
      have hj0 : (0 : Int) ≤ (j : Int) := by omega
      have hj1 : (j : Int) < (n : Int) := by omega
      have hj2 : (j : Int) ≤ (cap : Int) := by omega
      clear hx
      have ex0 := xcell HSR.out.x dx0
      have ex1 := xcell HSR.out.x dx1
      have ex2 := xcell HSR.out.x dx2
      have ex3 := xcell HSR.out.x dx3
      have ex4 := xcell HSR.out.x dx4
      have ex5 := xcell HSR.out.x dx5
      have ex6 := xcell HSR.out.x dx6
      have ex7 := xcell HSR.out.x dx7
      have ex8 := xcell HSR.out.x dx8
      have ex9 := xcell HSR.out.x dx9
      have ex10 := xcell HSR.out.x dx10
      have ex11 := xcell HSR.out.x dx11
      have exl := cell_lt ex0
      go_upto_region 11 with (go_at_call 14; refine (play_now (HSR.out.ext (by simp (maxDischargeDepth := 60))) (by omega) HLA.out x gx (by rw [HSZ.out]; exact HFA.out)).mono ?_; rintro r w2 ⟨lb2, hb2, rfl, -, hs2⟩; have HS2 := Lib.hid hs2; clear hs2)
      have HSZ2 : Hid ((h'.play x.act).sizes = sizes) := by unfold Hid; rw [play_sizes]; exact HSZ.out
      generalize hH : h'.play x.act = H at HS2 HSZ2
      clear hH ex0 ex1 ex2 ex3 ex4 ex5 ex6 ex7 ex8 ex9 ex10 ex11 exl dx0 dx1 dx2 dx3 dx4 dx5 dx6 dx7 dx8 dx9 dx10 dx11
      have hci := HS2.out.inv.inv.core
      have hnn : H.n = (ln : Int) := by show ((H.sizes.length : Nat) : Int) = _; rw [HSZ2.out, hlen]
      have hlv := Ch.levels_len HS2.out.inv.inv.lv
      rw [HSZ2.out, hlen] at hlv
      have l4 : (ln : Int) ≤ 4 := by omega
      obtain ⟨last, bs, js, HBK⟩ : ∃ (a : Int) (b : List Ch.Stay) (c : List Ch.Job), Hid (H.b = ⟨a, b, c⟩) := ⟨_, _, _, rfl⟩
      go_upto_region 12 with (go_at_call 21; refine (st_book (HS2.out.ext (by simp (maxDischargeDepth := 60)))).mono ?_; rw [HBK.out]; rintro r w3 ⟨y1, d1, y2, d2, rfl, t1, t2, hx3, -, -⟩; dsimp only at t1 t2 ⊢; have HX3 : Hid (Ext w2 w3) := Ext.trans (by simp (maxDischargeDepth := 60)) hx3; have T1 := Lib.hid t1; have T2 := Lib.hid t2; clear t1 t2 hx3)
      generalize hW : World.alloc _ _ = w4
      generalize hB : w3.heap.size = B
      have hx34 : Ext w3 w4 := by rw [← hW]; exact (by simp (maxDischargeDepth := 60))
      have b0 : w4.cell? ⟨B, 0, none⟩ = some (vi last) := by rw [← hW, ← hB]; simp [go_sem]
      have b1 : w4.cell? ⟨B, 1, none⟩ = some (.slice y1 bs.length d1) := by rw [← hW, ← hB]; simp [go_sem]
      have b2 : w4.cell? ⟨B, 2, none⟩ = some (.slice y2 js.length d2) := by rw [← hW, ← hB]; simp [go_sem]
      have U1 := Lib.hid (Sl.below T1.out hx34.below)
      have U2 := Lib.hid (Sl.below T2.out hx34.below)
      have ub1 := U1.out.bound
      have ub2 := U2.out.bound
      have HX4 := Lib.hid (HX3.out.trans hx34)
      have hBl := cell_lt b0
      clear hW hB hx34 T1 T2 HX3
      have HBF : Hid (Ch.bookFault ⟨last, bs, js⟩ (ln : Int) = 0) := by rw [← HBK.out]; exact Ch.bookFault_iff.2 (by rw [← hnn]; exact hci.book)
      have HHM : Hid (∀ s ∈ bs, Ch.fits s.car.size (sizes.getD (s.home.level - 1).toNat default) = true ∧ (H.p.slots s.home = 0 ∨ H.p.slots s.home = s.car.id)) := fun s hs => by
        have h1 := Ch.Live.Inv'.home HS2.out.inv.inv (x := s) (by rw [HBK.out]; exact hs)
        rw [HSZ2.out] at h1
        exact h1
      have HPF : Hid (∀ s ∈ bs, Ch.placeFault s.home (ln : Int) = 0) := fun s hs => by
        have h1 := (hci.book.stays.1 s (by rw [HBK.out]; exact hs)).2.1
        rw [hnn] at h1
        exact h1
      have HS4 := Lib.hid (HS2.out.ext HX4.out)
      clear hci hlv
      go_upto_region 15 with (go_at_call 24; (with_reducible refine (check_val0 _ _ _ _ _ _ _ _ bs js _ (Sl.below U1.out (Ext.below (by simp (maxDischargeDepth := 60)))) (Sl.below U2.out (Ext.below (by simp (maxDischargeDepth := 60)))) l4 HBF).mono ?_); rintro e w1 ⟨rfl, o1, n1, rfl⟩)
      go_loopw [11] (fun s11 wq => ∃ m : Nat, m ≤ bs.length ∧ s11 = .int .i64 (m : Int) ∧ Ext w4 wq) (fun s11 _ => bs.length - (intOf s11).toNat)
      case atStart => exact ⟨0, Nat.zero_le _, rfl, (by simp (maxDischargeDepth := 60))⟩
      case round =>
        obtain ⟨m, hm, rfl, o, no, rfl⟩ := hrel
        by_cases hml : m < bs.length
        · obtain ⟨bb, q, s, rfl, hs', ds⟩ := U1.out.get hml
          have hmem := List.mem_of_getElem? hs'
          have hfit := HHM.out s hmem
          have hpf := HPF.out s hmem
          obtain ⟨st, ⟨sid, ⟨sl1, sl2, sl3⟩⟩, ⟨sp1, sp2, sp3⟩⟩ := s
          have ds := at8 ds
          dsimp only at hfit hpf ds
          have hq2 := cell_lt ds.1
          have hp1 : 1 ≤ sp1 ∧ sp1 ≤ (ln : Int) := by
            unfold Ch.placeFault at hpf
            dsimp only at hpf
            split at hpf
            · cases hpf
            · omega
          obtain ⟨v, rfl⟩ : ∃ v : Nat, sp1 = (v : Int) + 1 := ⟨(sp1 - 1).toNat, by omega⟩
          have hvl : v < ln := by omega
          have hl4' := (Sl.below HFA.out HS4.out.x.below)
          obtain ⟨bL, qL, sz, hLe, hsz, dL⟩ := hl4'.get hvl
          obtain ⟨z1, z2, z3⟩ := sz
          have dL := at3 dL
          dsimp only at dL
          have hgd : sizes.getD v default = ⟨z1, z2, z3⟩ := by rw [List.getD_eq_getElem?_getD, hsz]; rfl
          have hf := hfit.1
          rw [show ((v : Int) + 1 - 1).toNat = v by omega, hgd] at hf
          have HFT := Lib.hid hf
          obtain ⟨sv, HSV⟩ : ∃ sv, Hid (H.p.slots ⟨(v : Int) + 1, sp2, sp3⟩ = sv) := ⟨_, rfl⟩
          have hsv := hfit.2
          rw [HSV.out] at hsv
          have hm0 : (0 : Int) ≤ (m : Int) := by omega
          have hm1 : (m : Int) < (bs.length : Int) := by omega
          have hm2 : (m : Int) ≤ (d1 : Int) := by omega
          have hv0 : (0 : Int) ≤ (v : Int) := by omega
          have hv1 : (v : Int) < (ln : Int) := by omega
          have hv2 : (ln : Int) ≤ (lc : Int) := by omega
          subst hLe
          have hqL := cell_lt dL.1
          clear hs' hmem hfit hpf hsz hgd hf hl4'
          go_upto_region 18 with fail
          generalize hW : World.alloc _ _ = w5
          generalize hX : w4.heap.size + o.size = X
          have hx5 : Ext w4 w5 := by rw [← hW]; exact (by simp (maxDischargeDepth := 60))
          have e1 : w5.cell? ⟨X, 1, none⟩ = some (vi sid) := by rw [← hW, ← hX]; simp [go_sem]
          have e2 : w5.cell? ⟨X, 2, none⟩ = some (vi sl1) := by rw [← hW, ← hX]; simp [go_sem]
          have e3 : w5.cell? ⟨X, 3, none⟩ = some (vi sl2) := by rw [← hW, ← hX]; simp [go_sem]
          have e4 : w5.cell? ⟨X, 4, none⟩ = some (vi sl3) := by rw [← hW, ← hX]; simp [go_sem]
          have e5 : w5.cell? ⟨X, 5, none⟩ = some (vi ((v : Int) + 1)) := by rw [← hW, ← hX]; simp [go_sem]
          have e6 : w5.cell? ⟨X, 6, none⟩ = some (vi sp2) := by rw [← hW, ← hX]; simp [go_sem]
          have e7 : w5.cell? ⟨X, 7, none⟩ = some (vi sp3) := by rw [← hW, ← hX]; simp [go_sem]
          have f0 := xcell hx5 dL.1
          have f1 := xcell hx5 dL.2.1
          have f2 := xcell hx5 dL.2.2
          have HX5 := Lib.hid hx5
          have le := cell_lt e1
          have lf := cell_lt f0
          clear hW hX hx5 ds dL hq2 hqL
          have hvv : (v : Int) + 1 - 1 = (v : Int) := by omega
          (refine wp_region_ext (by kernel_rfl) (by kernel_rfl) ?_; (repeat (first | go_big_quiet_step ((intro _; go_at_call 25; exact ext_callG (fits_at true _ _ _ _ _ _ _ HFT) (by rintro w' ⟨o', n', rfl⟩; exact ⟨_, n', by first | (simp only [plus_plus]; rfl) | (simp only [plus_plus, Array.append_assoc]; rfl) | rfl⟩))) | quiet_step ((intro _; go_at_call 25; exact ext_callG (fits_at true _ _ _ _ _ _ _ HFT) (by rintro w' ⟨o', n', rfl⟩; exact ⟨_, n', by first | (simp only [plus_plus]; rfl) | (simp only [plus_plus, Array.append_assoc]; rfl) | rfl⟩))))); refine wpQuiet_nil ?_; intro _ hw'; obtain ⟨oq, nq, hw''⟩ := hw'; subst hw'')
          rcases hsv with hs0 | hs0
          · subst hs0
            go_wp2_with (go_at_call 26; (with_reducible refine (at_val ((HS4.out.ext HX5.out).plantAt.ext (by simp (maxDischargeDepth := 60))) _ _ _ 0 HSV).mono ?_); rintro e w1 ⟨rfl, o1, n1, rfl⟩)
            go_roundw
            case rel => exact ⟨m + 1, by omega, by go_num, HX5.out.trans (by simp (maxDischargeDepth := 60))⟩
            case measure => simp [intOf]; omega
          · subst hs0
            by_cases hz : sv = 0
            · go_wp2_with (go_at_call 26; (with_reducible refine (at_val ((HS4.out.ext HX5.out).plantAt.ext (by simp (maxDischargeDepth := 60))) _ _ _ sv HSV).mono ?_); rintro e w1 ⟨rfl, o1, n1, rfl⟩)
              go_roundw
              case rel => exact ⟨m + 1, by omega, by go_num, HX5.out.trans (by simp (maxDischargeDepth := 60))⟩
              case measure => simp [intOf]; omega
            · go_wp2_with (go_at_call 26; (with_reducible refine (at_val ((HS4.out.ext HX5.out).plantAt.ext (by simp (maxDischargeDepth := 60))) _ _ _ sv HSV).mono ?_); rintro e w1 ⟨rfl, o1, n1, rfl⟩)
              go_roundw
              case rel => exact ⟨m + 1, by omega, by go_num, HX5.out.trans (by simp (maxDischargeDepth := 60))⟩
              case measure => simp [intOf]; omega
        · have hmn : ¬ (m : Int) < (bs.length : Int) := by omega
          go_wp2
          go_roundw
          case rel => exact ⟨j + 1, lb2, hb2, H, by omega, rfl, by go_num, HSZ2.out, (HS4.out.ext (by simp (maxDischargeDepth := 60))).more (by omega)⟩
          case measure => simp [intOf]; omega
    · go_wp2
      go_ret
      exact ⟨rfl, HXA.out.trans (HSR.out.x.trans (by simp (maxDischargeDepth := 60)))⟩

end Go.Proofs.YtplomeacjbkgnacGreatDoor

namespace Go.Proofs.YtplomeacjbkgnacGreatDoor
open Go.ChangeShapes Go.WideShapes Go.ChangeAt Go.RowKit

theorem topHome_libs {W : World} (hL : laidMetH Tryz.prog Rows.topHomeRow.laid W) (hs : W.ShapedOpen Tryz.prog) : Libs W := by
  rw [Go.MakeChecks.laidMetH_plain _ _ _ (by kernel_rfl)] at hL
  exact libs_of hL hs rfl rfl (by decide) rfl (by decide) (by kernel_rfl) (by kernel_rfl) (by kernel_rfl)

set_option maxRecDepth 100000 in
theorem topHome_lifted (os : Os) (started : os.Started) (H : Type) (enc : TypeId × Value → H) :
    ReturnsInHanded {} Tryz.checked os 7 .any (fun w args => (Rows.topHomeSpec.pre enc Tryz.prog Tryz.f7 [] false w args ∧ laidMetH Tryz.prog Rows.topHomeRow.laid w) ∧ sizedMet enc Tryz.prog Tryz.f7 (OpenSpec.ofChange Rows.topHomeSpec) false w args)
      (Rows.topHomeSpec.post enc Tryz.prog Tryz.f7 false true false false) := by
  refine handed_laid_shaped (C := Tryz.checked) (X := fun w _ => laidMetH Tryz.prog Rows.topHomeRow.laid w) (fun _ _ _ hh h => h.of_heap hh) own started (by kernel_rfl) Tryz.func7
    (ChangeSpec.witness_shaped (enc := enc) (C := Tryz.checked) (os := os) (X := fun w _ => laidMetH Tryz.prog Rows.topHomeRow.laid w) false (World.laidAll Tryz.prog os Rows.topHomeRow.laid) #[.slice none 0 0, .slice none 0 0] 8 (World.laidAll_os _ _ _)
      (World.shaped_of_ZipB (by kernel_rfl) (by kernel_rfl)) (by kernel_rfl) (by kernel_rfl) (by kernel_rfl)
      (by rw [Go.MakeChecks.laidMetH_plain _ _ _ (by kernel_rfl)]; exact laidMet_laidAll _ (by kernel_rfl) (by kernel_rfl))) ?_
  intro W base args ds gs before hval0 hW _ hL hsh
  have hval : ∀ (j : Nat) t v, Tryz.f7.params[j]? = some t → args[j]? = some v → Value.okWide Tryz.prog W .any base t v := hval0
  refine law_contract (tb := 4) laidOut Tryz.underlying4 (by kernel_rfl) rfl (fun ds hd => ?_) (by kernel_rfl) hW ?_
  · match ds, hd with
    | [_, _], _ => rfl
  obtain ⟨p, q, hA0, hV, rfl, hfz, hnd⟩ := hW
  have hA : DataW.TrodAll enc Tryz.prog W 0 (fun _ => true) true Tryz.f7.params.toList args.toList ds p := hA0
  rw [Tryz.params7] at hA hval
  obtain ⟨v0, vs0, d0, ds0, p0, q0, hargs, rfl, rfl, h0, r0⟩ := trodAll_cons hA
  obtain ⟨v1, vs1, d1, ds1, p1, q1, rfl, rfl, rfl, h1, r1⟩ := trodAll_cons r0
  obtain ⟨rfl, rfl, rfl⟩ := trodAll_nil r1
  obtain rfl : args = #[v0, v1] := by cases args; simp_all
  obtain ⟨a0, n0, c0, rfl⟩ := okWide_slice Tryz.underlying22 (hval 0 _ v0 rfl rfl)
  obtain ⟨x0, _, _, _, e0, s0, g0⟩ := rd_list (c := 3) sizeCells I64S (by decide) (fun _ => rfl) Tryz.underlying22 (by kernel_rfl) (fun ecs h => rd_size h) (rd_of_trod h0)
  simp only [Value.cells, List.cons.injEq, Value.slice.injEq, and_true] at e0
  obtain ⟨rfl, rfl, rfl⟩ := e0
  obtain ⟨a1, n1, c1, rfl⟩ := okWide_slice Tryz.underlying23 (hval 1 _ v1 rfl rfl)
  obtain ⟨x1, _, _, _, e1, s1, g1⟩ := rd_list (c := 12) ractCells (RAct.Whole W) (by decide) (fun _ => rfl) Tryz.underlying23 (by kernel_rfl) (fun ecs h => rd_actB h) (rd_of_trod h1)
  simp only [Value.cells, List.cons.injEq, Value.slice.injEq, and_true] at e1
  obtain ⟨rfl, rfl, rfl⟩ := e1
  exact topHome_walk s0 s1 (wholes_good g1) (topHome_libs hL hsh)

theorem topHome_holds : Rows.TopHomeSaid :=
  OpenClaim.holds_of_wide 7 Tryz.f7 rfl rfl rfl rfl rfl rfl rfl ⟨rfl, rfl, rfl, rfl, rfl⟩ rfl rfl rfl rfl rfl (by kernel_rfl) Tryz.func7 (by kernel_rfl)
    (of_decide_eq_true (by kernel_rfl)) (by unfold Func.isWrapper; first | (rw [if_pos (by decide +kernel)]; kernel_rfl) | (rw [if_neg (by decide +kernel)]; exact ⟨rfl, rfl⟩))
    (fun os started H enc _ => topHome_lifted os started H enc)

/-- THE CARD -/
theorem topHome_proved : Rows.TopHomeCardSaid :=
  Claim7.holds_tied_plain_at .later [] [.data, .data, .data, .data, .sentinel, .sentinel, .pinned] true Rows.topHomeCard.stood.harness true
    topHome_holds (fun _ h => by cases h) (by kernel_rfl) (fun _ h => by cases h) topHome_row_tie rfl ⟨rfl, rfl⟩ (by kernel_rfl) rfl
    (fun f fn hf hfn => by
      obtain rfl : f = 7 := Option.some.inj ((show Tryz.prog.funcNamed Tryz.f7.name = some 7 by kernel_rfl).symm.trans hf) |>.symm
      obtain rfl : fn = Tryz.f7 := (Option.some.inj (Tryz.func7.symm.trans hfn)).symm
      have hall : (Tryz.f7.params.toList.all fun u => !Tryz.prog.wantsStandIn u) = true := by kernel_rfl
      exact ⟨by kernel_rfl, fun j t ht => by
        have hm : t ∈ Tryz.f7.params.toList := Array.mem_toList_iff.2 (Array.mem_of_getElem? ht)
        exact (show Tryz.prog.wantsStandIn t = false by simpa using List.all_eq_true.1 hall t hm)⟩)
    (by kernel_rfl)
#print axioms topHome_proved
end Go.Proofs.YtplomeacjbkgnacGreatDoor
