/-
  The walk of the reference's BookOf: a text that is read. (Laid by wip/mk_rparse.py.)
-/
import Derived.Test.YtplomeacjbkgnaaDoorWords
import Derived.Test.YtplomeacjbkgnaaDoorNatural
import Derived.Test.YtplomeacjbkgnaaDoorRFault
namespace Go.Proofs.YtplomeacjbkgnaaDoor
open Go.RowKit

/-- a book that came back, as lists; with an error's number -/
def RParsed (w : World) (r : Ch.Book × Int) (e : Ending) (w' : World) : Prop :=
  ∃ v1 v2, e = .returned (.tuple #[.agg #[vi r.1.last, v1, v2], vi r.2]) ∧ w'.ownsRow w.heap.size 52 8 v1 r.1.stays.length (r.1.stays.flatMap stayCells) ∧ w'.ownsRow w.heap.size 61 2 v2 r.1.jobs.length (r.1.jobs.flatMap jobCells) ∧
    (∀ k, v1.ownBlock = some k → v2.ownBlock ≠ some k) ∧ Ext w w'

theorem rparsed_bad {w w' : World} (h : Ext w w') : RParsed w (parseV none) (.returned (.tuple #[.agg #[vi 0, .slice none 0 0, .slice none 0 0], vi 4])) w' :=
  ⟨_, _, rfl, World.ownsRow_nil _ _ _ _, World.ownsRow_nil _ _ _ _, (by intro k hk; cases hk), h⟩

theorem words_sl (s : ByteArray) (w : World) (hs : Hid (s.size ≤ 10000)) :
    Calls Tryd.prog 28 #[.string s] w fun e w' => ∃ y n d, e = .returned (.slice y n d) ∧ Sl w' 1 strCells (Ch.wordsB s) y n d ∧ Hid (n = (Ch.wordsB s).length) ∧ Ext w w' := by
  refine (words_any s w hs.out).mono ?_
  rintro e w' ⟨v, rfl, h⟩
  obtain ⟨y, d, rfl, s1⟩ := Sl.of_owns (c := 1) (enc := strCells) h.own (by decide) (fun _ => rfl)
  exact ⟨y, _, d, rfl, s1, rfl, h.ext⟩

theorem natural_at (v : Int) (s : ByteArray) (w : World) (hs : Hid (s.size ≤ 1000000)) (hv : Hid (natV s = v)) : Calls Tryd.prog 29 #[.string s, vi 999999] w fun e w' => e = .returned (vi v) ∧ Ext w w' := by
  have := natural_all s w hs
  rw [hv.out] at this
  exact this

theorem rfault_atP (F last L : Int) (a1 : Option Addr) (m1 c1 : Nat) (a2 : Option Addr) (m2 c2 : Nat) (l : List Ch.Stay) (js : List Ch.Job) (w : World)
    (h : Sl w 8 stayCells l a1 m1 c1) (h2 : Sl w 2 jobCells js a2 m2 c2) (i1 : 1 ≤ L) (i4 : L ≤ 4) (hv : Hid (Ch.bookFault ⟨last, l, js⟩ L = F)) :
    Calls Tryd.prog 10 #[bookA last a1 m1 c1 a2 m2 c2, vi L] w fun e w' => e = .returned (vi F) ∧ Ext w w' := by
  have := rfault_any last L a1 m1 c1 a2 m2 c2 l js w h h2 i1 i4
  rw [hv.out] at this
  exact this

theorem carFaultP_nn (c : Ch.Car) : 0 ≤ Ch.carFault c := by
  unfold Ch.carFault Ch.sizeFault
  repeat' split
  all_goals omega

theorem placeFaultP_nn (x : Ch.Place) (n : Int) : 0 ≤ Ch.placeFault x n := by
  unfold Ch.placeFault
  repeat' split
  all_goals omega

theorem staysFaultP_nn (L last : Int) : ∀ (l b : List Ch.Stay), 0 ≤ Ch.staysFault L last b l
  | [], _ => by simp [Ch.staysFault]
  | s :: l, b => by
    have h1 : 0 ≤ Ch.stayFault L last b s := by
      unfold Ch.stayFault
      have := carFaultP_nn s.car
      have := placeFaultP_nn s.home L
      repeat' split
      all_goals omega
    unfold Ch.staysFault
    have := staysFaultP_nn L last l (b ++ [s])
    split <;> omega

theorem jobsFaultP_nn (st : List Ch.Stay) : ∀ (l b : List Ch.Job), 0 ≤ Ch.jobsFault st b l
  | [], _ => by simp [Ch.jobsFault]
  | j :: l, b => by
    unfold Ch.jobsFault
    have := jobsFaultP_nn st l (b ++ [j])
    split <;> omega

theorem bookFaultP_nn (b : Ch.Book) (L : Int) : 0 ≤ Ch.bookFault b L := by
  unfold Ch.bookFault
  have := staysFaultP_nn L b.last b.stays []
  have := jobsFaultP_nn b.stays b.jobs []
  repeat' split
  all_goals omega

theorem natV_some {s : ByteArray} {v : Int} (h : Ch.numB s = some v) : natV s = v ∧ 0 ≤ v ∧ v ≤ 999999 := by
  have h1 := Ch.numOf_iff.1 h
  refine ⟨?_, h1.1, h1.2.1⟩
  unfold natV
  rw [show Ch.numOf s.data.toList = some v from h]

theorem natV_noneB {s : ByteArray} (h : Ch.numB s = none) : natV s = -1 := natV_none h

set_option maxRecDepth 100000 in
set_option maxHeartbeats 16000000 in
theorem rparse_any (s : ByteArray) (levels : Int) (w : World) (hs : s.size ≤ 10000) (hl1 : 1 ≤ levels) (hl4 : levels ≤ 4) :
    Calls Tryd.prog 13 #[.string s, vi levels] w (RParsed w (parseV (Ch.parseBook s.data.toList levels))) := by
  obtain ⟨i0, hi, hz0, hz1, hz2⟩ := info_parts infoIntP
  obtain ⟨j0, hj0, hy0, hy1, hy2⟩ := info_parts infoStay
  obtain ⟨q0, hqq, hx0, hx1, hx2⟩ := info_parts infoJob
  have HSZ := Lib.hid hs
  have HPB : Hid (Ch.parseBook s.data.toList levels = ((Ch.wordsB s).mapM Ch.numB).bind fun n => Ch.bookOfNums n levels) := by
    unfold Hid Ch.parseBook; rw [Ch.numsOf_words]
  have HWN : Hid ((Ch.wordsB s).length ≤ 10001) := by
    have := Ch.wordsB_len s; have := Ch.countB_size s; unfold Hid; omega
  clear hs
  go_enter Tryd.func13, Tryd.ntmps13
  go_upto_region 2 with (first | (go_at_call 28; (with_reducible refine (words_sl s _ HSZ).mono ?_); rintro e w1 ⟨wy, wn, wd, rfl, hsl, hwn, o1, n1, rfl⟩))
  generalize hW : World.plus _ _ _ = w0 at hsl ⊢
  have hx : Ext w w0 := by rw [← hW]; exact (by simp (maxDischargeDepth := 60))
  have r0 : w0.cell? ⟨w.heap.size, 0, none⟩ = some (vi 0) := by rw [← hW, plus_cell _ _ _ _ _ _ (by first | (simp; done) | (simp; omega))]; simp [go_sem]
  have r1 : w0.cell? ⟨w.heap.size, 1, none⟩ = some (.slice none 0 0) := by rw [← hW, plus_cell _ _ _ _ _ _ (by first | (simp; done) | (simp; omega))]; simp [go_sem]
  have r2 : w0.cell? ⟨w.heap.size, 2, none⟩ = some (.slice none 0 0) := by rw [← hW, plus_cell _ _ _ _ _ _ (by first | (simp; done) | (simp; omega))]; simp [go_sem]
  have rf : ∀ i, w0.frozen? ⟨w.heap.size, i, none⟩ = false := by intro i; rw [← hW, plus_frozen _ _ _ _ _ _ (by first | (simp; done) | (simp; omega))]; simp [go_sem]
  have KR := Lib.hid (⟨r0, r1, r2, rf⟩ : BookCell w0 w.heap.size (vi 0) (.slice none 0 0) (.slice none 0 0))
  have HX := Lib.hid hx
  have HS := Lib.hid hsl
  have HN := hwn
  have bwn : wn ≤ 10001 := by have := HWN.out; have := HN.out; omega
  have zr := cell_lt r0
  clear hW hx hsl hwn r0 r1 r2 rf
  go_wp2
  go_loopw [7, 8] (fun v i wr => ∃ (k : Nat) (N : List Int) (g : Option Addr) (d : Nat), k ≤ wn ∧ i = .int .i64 k ∧ v = .slice g N.length d ∧ Hid (((Ch.wordsB s).take k).mapM Ch.numB = some N ∧ N.length = k) ∧ Nums w0 N (.slice g N.length d) wr) (fun _ i _ => wn - (intOf i).toNat)
  case atStart => exact ⟨0, [], none, 0, by omega, rfl, rfl, ⟨by simp, rfl⟩, ⟨World.ownsRow_nil _ _ _ _, Ext.refl _⟩⟩
  case round =>
    obtain ⟨k, N, g, d, hk, rfl, rfl, HM, hgat⟩ := hrel
    have HG := Lib.hid hgat
    have HNK : Hid (N.length = k) := HM.out.2
    have KRR := Lib.hid (KR.out.ext hgat.ext)
    have HXR := Lib.hid (HX.out.trans hgat.ext)
    have zrr := KRR.out.lt
    clear hgat
    by_cases hlt : k < wn
    · obtain ⟨b, q, x, hb, hxk, dx⟩ := (Sl.below HS.out HG.out.ext.below).get hlt
      subst hb
      have dx := at1 dx
      rw [Nat.mul_one] at dx
      have zq := cell_lt dx
      have hkj : (k : Int) < (wn : Int) := by omega
      have HXS : Hid (x.size ≤ 1000000) := by have := word_size hxk; have := HSZ.out; unfold Hid; omega
      have HXK := Lib.hid hxk
      clear hxk
      have HBAD : ∀ wq, Hid (Ch.numB x = none) → Ext w wq → RParsed w (parseV (Ch.parseBook s.data.toList levels)) (.returned (.tuple #[.agg #[vi 0, .slice none 0 0, .slice none 0 0], vi 4])) wq := by
        intro wq hn hx
        rw [HPB.out, Ch.mapM_bad HXK.out hn.out]
        exact rparsed_bad hx
      have HBAD := Lib.hid HBAD
      cases hnb : Ch.numB x with
      | none =>
        have HNB := Lib.hid hnb
        have HV : Hid (natV x = -1) := natV_noneB hnb
        clear hnb
        go_upto_region 8 with (first | (go_at_call 29; (with_reducible refine (natural_at (-1) x _ HXS HV).mono ?_); rintro e w1 ⟨rfl, o1, n1, rfl⟩))
        generalize hW : World.plus _ _ _ = wq
        have hxq := (show Ext wr wq by rw [← hW]; exact (by simp (maxDischargeDepth := 60)))
        obtain ⟨t0, t1, t2, tf⟩ := KRR.out.ext hxq
        have zt := cell_lt t0
        have hxw := HXR.out.trans hxq
        clear hW hxq
        go_wp2
        obtain ⟨p0, p1, p2, px⟩ := put3 (w := w) (R := w.heap.size) (x := vi 0) (y := .slice none 0 0) (z := .slice none 0 0) hxw (Nat.le_refl _) t0 t1 t2
        refine bodyPost_ret (v := .tuple #[.agg #[vi 0, .slice none 0 0, .slice none 0 0], vi 4]) (by simp [results, Tryd.results13, go_sem, p0, p1, p2]) rfl ?_
        exact HBAD.out _ HNB px
      | some v =>
        have HNB := Lib.hid hnb
        obtain ⟨hv0, hv1, hv2⟩ := natV_some hnb
        have HV := Lib.hid hv0
        clear hnb hv0
        have HM2 := Lib.hid (Ch.mapM_take HM.out.1 HXK.out HNB.out)
        have hNb : N.length ≤ 10001 := by have := HNK.out; omega
        go_upto_region 9 with (first | (go_at_call 29; (with_reducible refine (natural_at v x _ HXS HV).mono ?_); rintro e w1 ⟨rfl, o1, n1, rfl⟩))
        generalize hW : World.plus _ _ _ = wq
        have hxq : Ext wr wq := by rw [← hW]; exact (by simp (maxDischargeDepth := 60))
        have HQ := Lib.hid (owns_x HG.out.own hxq)
        have HXQ := Lib.hid (HG.out.ext.trans hxq)
        have hsz := HXQ.out.below.size
        clear hW hxq dx zq
        go_wp2_with (at_builtin; refine wpList_append_lies _ rfl _ _ _ rfl w0.heap.size 3 i0 _ 1 8 Tryd.underlying22 hi hz0 hz1 hz2 rfl (by decide) (.slice g N.length d) N.length _ rfl (owns_alloc HQ.out _) _ 1 1 [vi v] rfl rfl (World.news_of_block (alloc_at _ _ _ (by simp))) (by simp [Value.oneCell']) (by decide) (by unfold maxLen; omega) (by omega) (by first | omega | (simp; omega)) _ rfl ?_; intro gg cap w3 hown3 hgrow hat hlt3; have HG3 : Hid (Nums w0 (N ++ [v]) (.slice (some ⟨gg, 0, none⟩) (N.length + 1) cap) w3) := ⟨num_last hown3, ext_grown (w := w0) (HXQ.out.trans (by simp (maxDischargeDepth := 60))) hgrow (owns_block HQ.out)⟩; clear hown3 hgrow hat hlt3)
        go_roundw
        case rel =>
          exact ⟨k + 1, N ++ [v], some ⟨gg, 0, none⟩, cap, by omega, by go_num, by rw [List.length_append]; rfl, ⟨HM2.out, by rw [List.length_append, HNK.out]; rfl⟩, by rw [show (N ++ [v]).length = N.length + 1 by rw [List.length_append]; rfl]; exact HG3.out⟩
        case measure => simp [intOf]; omega
    · have hkw : k = wn := by omega
      subst hkw
      have HM1 : Hid ((Ch.wordsB s).mapM Ch.numB = some N) := by
        have := HM.out.1
        rw [List.take_of_length_le (by have := HN.out; omega)] at this
        exact this
      have HRN := Lib.hid (Ch.mapM_range HM1.out)
      have HPN : Hid (Ch.parseBook s.data.toList levels = Ch.bookOfNums N levels) := by
        unfold Hid; rw [HPB.out, HM1.out]; rfl
      have HBN := Lib.hid (Ch.bookOfNums_at (levels := levels) HRN.out)
      by_cases h3 : N.length < 3
      · have h3i : (N.length : Int) < 3 := by omega
        have HP0 : Hid (Ch.parseBook s.data.toList levels = none) := by
          unfold Hid; rw [HPN.out, HBN.out, if_pos (Or.inl h3)]
        go_upto_region 10 with fail
        (refine wp_region_ext (by kernel_rfl) (by kernel_rfl) ?_; (repeat (first | go_big_quiet_step (fail) | quiet_step (fail))); refine wpQuiet_nil ?_; intro _ hw'; obtain ⟨oq, nq, hw''⟩ := hw'; subst hw'')
        go_upto_region 11 with fail
        generalize hW : World.plus _ _ _ = wq
        have hxq := (show Ext wr wq by rw [← hW]; exact (by simp (maxDischargeDepth := 60)))
        obtain ⟨t0, t1, t2, tf⟩ := KRR.out.ext hxq
        have zt := cell_lt t0
        have hxw := HXR.out.trans hxq
        clear hW hxq
        go_wp2
        obtain ⟨p0, p1, p2, px⟩ := put3 (w := w) (R := w.heap.size) (x := vi 0) (y := .slice none 0 0) (z := .slice none 0 0) hxw (Nat.le_refl _) t0 t1 t2
        refine bodyPost_ret (v := .tuple #[.agg #[vi 0, .slice none 0 0, .slice none 0 0], vi 4]) (by simp [results, Tryd.results13, go_sem, p0, p1, p2]) rfl ?_
        rw [HP0.out]; exact rparsed_bad px
      · have h3i : ¬ (N.length : Int) < 3 := by omega
        have h3n : 3 ≤ N.length := by omega
        obtain ⟨gg, hgg⟩ := own_at HG.out.own (by omega)
        subst hgg
        have hcell := own_cells HG.out.own
        have hcap := own_cap HG.out.own (by omega)
        have HNL : Hid (N.length ≤ 10001) := by have := HNK.out; unfold Hid; omega
        have nl9 : N.length ≤ 10001 := HNL.out
        obtain ⟨x0, HX0⟩ : ∃ x, Hid (N.getD 0 0 = x) := ⟨_, rfl⟩
        obtain ⟨x1, HX1⟩ : ∃ x, Hid (N.getD 1 0 = x) := ⟨_, rfl⟩
        obtain ⟨x2, HX2⟩ : ∃ x, Hid (N.getD 2 0 = x) := ⟨_, rfl⟩
        have b0 := getD_range HRN.out 0
        have b1 := getD_range HRN.out 1
        have b2 := getD_range HRN.out 2
        have c0 := hcell 0 (by omega)
        have c1 := hcell 1 (by omega)
        have c2 := hcell 2 (by omega)
        rw [HX0.out] at b0 c0
        rw [HX1.out] at b1 c1
        rw [HX2.out] at b2 c2
        have hw1 : IntKind.i64.wrap (8 * x1) = 8 * x1 := IntWalk.i64_in _ (by omega)
        have hw2 : IntKind.i64.wrap (2 * x2) = 2 * x2 := IntWalk.i64_in _ (by omega)
        have hw3 : IntKind.i64.wrap (3 + 8 * x1) = 3 + 8 * x1 := IntWalk.i64_in _ (by omega)
        have hw4 : IntKind.i64.wrap (3 + 8 * x1 + 2 * x2) = 3 + 8 * x1 + 2 * x2 := IntWalk.i64_in _ (by omega)
        have zg := cell_lt c0
        have HCL := Lib.hid hcell
        have l1 : (1 : Int) < (N.length : Int) := by omega
        have l2 : (2 : Int) < (N.length : Int) := by omega
        have l0 : (0 : Int) < (N.length : Int) := by omega
        clear hcell
        by_cases hlen : (N.length : Int) = 3 + 8 * x1 + 2 * x2
        · have hbe : ((N.length : Int) == 3 + 8 * x1 + 2 * x2) = true := by simpa using hlen
          have HLN := Lib.hid hlen
          clear hlen
          go_upto_region 10 with fail
          (refine wp_region_ext (by kernel_rfl) (by kernel_rfl) ?_; (repeat (first | go_big_quiet_step (fail) | quiet_step (fail))); refine wpQuiet_nil ?_; intro _ hw'; obtain ⟨oq, nq, hw''⟩ := hw'; subst hw'')
          go_upto_region 14 with fail
          generalize hW : World.alloc _ _ = w1
          generalize hO : wr.heap.size + oq.size = O at *
          have hx1 : Ext wr w1 := by rw [← hW]; exact (by simp (maxDischargeDepth := 60))
          have o0 : w1.cell? ⟨O, 0, none⟩ = some (vi x0) := by rw [← hW, ← hO]; simp [go_sem]
          have o1 : w1.cell? ⟨O, 1, none⟩ = some (.slice none 0 0) := by rw [← hW, ← hO]; simp [go_sem]
          have o2 : w1.cell? ⟨O, 2, none⟩ = some (.slice none 0 0) := by rw [← hW, ← hO]; simp [go_sem]
          have of : ∀ i, w1.frozen? ⟨O, i, none⟩ = false := by intro i; rw [← hW, ← hO]; simp [go_sem]
          have hOR : wr.heap.size ≤ O := by rw [← hO]; omega
          have KO := Lib.hid (⟨o0, o1, o2, of⟩ : BookCell w1 O (vi x0) (.slice none 0 0) (.slice none 0 0))
          have KR1 := Lib.hid (KRR.out.ext hx1)
          have HX1W := Lib.hid (HXR.out.trans hx1)
          have HC1 : Hid (∀ j, j < N.length → w1.cell? ⟨gg, j, none⟩ = some (vi (N.getD j 0))) := fun j hj => ext_cell hx1 (HCL.out j hj)
          have c1' := ext_cell hx1 c1
          have c2' := ext_cell hx1 c2
          have hOw : O < w1.heap.size := cell_lt o0
          have hgO : gg < O := by omega
          have G0 : Hid (Outing w1 O x0 [] [] (.slice none 0 0) (.slice none 0 0) w1) := ⟨KO.out, Kept.refl _ _, World.ownsRow_nil _ _ _ _, World.ownsRow_nil _ _ _ _, by intro k hk; cases hk⟩
          have zgw := cell_lt c1'
          have hRO : w.heap.size < O := by omega
          have C1 := Lib.hid c1'
          have C2 := Lib.hid c2'
          clear hW hO hx1 o0 o1 o2 of c0 c1 c2 HCL zg c1' c2'
          go_wp2
          go_loopw [11] (fun i wr => ∃ (j : Nat) (dl : List Ch.Stay) (g1 : Option Addr) (d1 : Nat), (j : Int) ≤ x1 ∧ i = .int .i64 j ∧ Hid (dl = (List.range j).map fun i => Ch.stayAt N i) ∧ Outing w1 O x0 dl [] (.slice g1 dl.length d1) (.slice none 0 0) wr) (fun i _ => x1.toNat - (intOf i).toNat)
          case atStart => exact ⟨0, [], none, 0, by omega, rfl, rfl, G0.out⟩
          case round =>
            obtain ⟨j, dl, g1, d1, hj, rfl, HA, hgat⟩ := hrel
            have GAT := Lib.hid hgat
            clear hgat
            have hdl : dl.length ≤ 10001 := by
              rw [HA.out, List.length_map, List.length_range]
              have := HLN.out
              omega
            have HXW := Lib.hid (GAT.out.kept.widen HX1W.out (by omega))
            obtain ⟨o0, o1, o2, of⟩ := GAT.out.cell
            have zo := cell_lt o0
            have hszz := GAT.out.kept.size
            have e1 := GAT.out.kept.cell C1.out (by omega)
            have e2 := GAT.out.kept.cell C2.out (by omega)
            have ze := cell_lt e1
            by_cases hlt : (j : Int) < x1
            · obtain ⟨A, hA⟩ : ∃ A, A = 3 + 8 * j := ⟨_, rfl⟩
              have hA8 : A + 8 ≤ N.length := by have := HLN.out; omega
              have hA8i : (A : Int) ≤ (N.length : Int) := by omega
              have hA8d : (A : Int) ≤ (d : Int) := by omega
              have hq0 : 0 < N.length - A := by omega
              have hq1 : 1 < N.length - A := by omega
              have hi1 : (1 : Int) < ((N.length - A : Nat) : Int) := by omega
              have hq2 : 2 < N.length - A := by omega
              have hi2 : (2 : Int) < ((N.length - A : Nat) : Int) := by omega
              have hq3 : 3 < N.length - A := by omega
              have hi3 : (3 : Int) < ((N.length - A : Nat) : Int) := by omega
              have hq4 : 4 < N.length - A := by omega
              have hi4 : (4 : Int) < ((N.length - A : Nat) : Int) := by omega
              have hq5 : 5 < N.length - A := by omega
              have hi5 : (5 : Int) < ((N.length - A : Nat) : Int) := by omega
              have hq6 : 6 < N.length - A := by omega
              have hi6 : (6 : Int) < ((N.length - A : Nat) : Int) := by omega
              have hq7 : 7 < N.length - A := by omega
              have hi7 : (7 : Int) < ((N.length - A : Nat) : Int) := by omega
              have hwj8 : IntKind.i64.wrap (8 * (j : Int)) = 8 * (j : Int) := IntWalk.i64_in _ (by omega)
              have hwA : IntKind.i64.wrap (3 + 8 * (j : Int)) = (A : Int) := by rw [IntWalk.i64_in _ (by omega), hA]; omega
              have hjm : j < 100000 := by omega
              have hne : (Value.slice g1 dl.length d1).ownBlock ≠ some gg := fun e => by have := owns_block GAT.out.stays _ e; omega
              obtain ⟨y0, Y0⟩ : ∃ y, Hid (N.getD (A) 0 = y) := ⟨_, rfl⟩
              have d0' := GAT.out.kept.cell (HC1.out (A) (by omega)) (by omega)
              rw [Y0.out] at d0'
              obtain ⟨y1, Y1⟩ : ∃ y, Hid (N.getD (A + 1) 0 = y) := ⟨_, rfl⟩
              have d1' := GAT.out.kept.cell (HC1.out (A + 1) (by omega)) (by omega)
              rw [Y1.out] at d1'
              obtain ⟨y2, Y2⟩ : ∃ y, Hid (N.getD (A + 2) 0 = y) := ⟨_, rfl⟩
              have d2' := GAT.out.kept.cell (HC1.out (A + 2) (by omega)) (by omega)
              rw [Y2.out] at d2'
              obtain ⟨y3, Y3⟩ : ∃ y, Hid (N.getD (A + 3) 0 = y) := ⟨_, rfl⟩
              have d3' := GAT.out.kept.cell (HC1.out (A + 3) (by omega)) (by omega)
              rw [Y3.out] at d3'
              obtain ⟨y4, Y4⟩ : ∃ y, Hid (N.getD (A + 4) 0 = y) := ⟨_, rfl⟩
              have d4' := GAT.out.kept.cell (HC1.out (A + 4) (by omega)) (by omega)
              rw [Y4.out] at d4'
              obtain ⟨y5, Y5⟩ : ∃ y, Hid (N.getD (A + 5) 0 = y) := ⟨_, rfl⟩
              have d5' := GAT.out.kept.cell (HC1.out (A + 5) (by omega)) (by omega)
              rw [Y5.out] at d5'
              obtain ⟨y6, Y6⟩ : ∃ y, Hid (N.getD (A + 6) 0 = y) := ⟨_, rfl⟩
              have d6' := GAT.out.kept.cell (HC1.out (A + 6) (by omega)) (by omega)
              rw [Y6.out] at d6'
              obtain ⟨y7, Y7⟩ : ∃ y, Hid (N.getD (A + 7) 0 = y) := ⟨_, rfl⟩
              have d7' := GAT.out.kept.cell (HC1.out (A + 7) (by omega)) (by omega)
              rw [Y7.out] at d7'
              have zgg := cell_lt d0'
              have HST : Hid (Ch.stayAt N j = ⟨y0, ⟨y1, ⟨y2, y3, y4⟩⟩, ⟨y5, y6, y7⟩⟩) := by
                unfold Hid Ch.stayAt
                rw [← hA, Y0.out, Y1.out, Y2.out, Y3.out, Y4.out, Y5.out, Y6.out, Y7.out]
              have HAJ := Lib.hid hA
              clear hA Y0 Y1 Y2 Y3 Y4 Y5 Y6 Y7
              go_upto_region 17 with fail
              refine wp_region_T 33 (fun w' => w'.cell? ⟨O, 1, none⟩ = some (.slice g1 dl.length d1) ∧ w'.cell? ⟨gg, A, none⟩ = some (vi y0) ∧ w'.cell? ⟨gg, A + 1, none⟩ = some (vi y1) ∧ w'.cell? ⟨gg, A + 2, none⟩ = some (vi y2) ∧ w'.cell? ⟨gg, A + 3, none⟩ = some (vi y3) ∧ w'.cell? ⟨gg, A + 4, none⟩ = some (vi y4) ∧ w'.cell? ⟨gg, A + 5, none⟩ = some (vi y5) ∧ w'.cell? ⟨gg, A + 6, none⟩ = some (vi y6) ∧ w'.cell? ⟨gg, A + 7, none⟩ = some (vi y7)) (by kernel_rfl) ⟨o1, d0', d1', d2', d3', d4', d5', d6', d7'⟩ ?_
              intro hS
              (refine wpAnyT_take' (i := 0) (v := ?_) (some 70) rfl (by kernel_rfl) (by kernel_rfl) (by kernel_rfl) (by kernel_rfl) (by kernel_rfl) (fun _ _ _ h => h) (Or.inl ⟨by rfl, ?_⟩) (by assumption) ?_; rotate_left 1; focus (intro w hSw; (try dsimp only at hSw); go_simp; (try with_reducible rfl)); (try simp only [Act.put, List.setIfInBounds_toArray, List.set_cons_zero, List.set_cons_succ]))
              (refine wpAnyT_take' (i := 1) (v := ?_) (some 71) rfl (by kernel_rfl) (by kernel_rfl) (by kernel_rfl) (by kernel_rfl) (by kernel_rfl) (fun _ _ _ h => h) (Or.inl ⟨by rfl, ?_⟩) (by assumption) ?_; rotate_left 1; focus (intro w hSw; (try dsimp only at hSw); go_simp; (try with_reducible rfl)); (try simp only [Act.put, List.setIfInBounds_toArray, List.set_cons_zero, List.set_cons_succ]))
              (refine wpAnyT_take' (i := 2) (v := ?_) (some 72) rfl (by kernel_rfl) (by kernel_rfl) (by kernel_rfl) (by kernel_rfl) (by kernel_rfl) (fun _ _ _ h => h) (Or.inl ⟨by rfl, ?_⟩) (by assumption) ?_; rotate_left 1; focus (intro w hSw; (try dsimp only at hSw); go_simp; (try with_reducible rfl)); (try simp only [Act.put, List.setIfInBounds_toArray, List.set_cons_zero, List.set_cons_succ]))
              (refine wpAnyT_take' (i := 3) (v := ?_) (some 73) rfl (by kernel_rfl) (by kernel_rfl) (by kernel_rfl) (by kernel_rfl) (by kernel_rfl) (fun _ _ _ h => h) (Or.inl ⟨by rfl, ?_⟩) (by assumption) ?_; rotate_left 1; focus (intro w hSw; (try dsimp only at hSw); go_simp; (try with_reducible rfl)); (try simp only [Act.put, List.setIfInBounds_toArray, List.set_cons_zero, List.set_cons_succ]))
              (refine wpAnyT_take' (i := 4) (v := ?_) (some 74) rfl (by kernel_rfl) (by kernel_rfl) (by kernel_rfl) (by kernel_rfl) (by kernel_rfl) (fun _ _ _ h => h) (Or.inl ⟨by rfl, ?_⟩) (by assumption) ?_; rotate_left 1; focus (intro w hSw; (try dsimp only at hSw); go_simp; (try with_reducible rfl)); (try simp only [Act.put, List.setIfInBounds_toArray, List.set_cons_zero, List.set_cons_succ]))
              (refine wpAnyT_take' (i := 5) (v := ?_) (some 75) rfl (by kernel_rfl) (by kernel_rfl) (by kernel_rfl) (by kernel_rfl) (by kernel_rfl) (fun _ _ _ h => h) (Or.inl ⟨by rfl, ?_⟩) (by assumption) ?_; rotate_left 1; focus (intro w hSw; (try dsimp only at hSw); go_simp; (try with_reducible rfl)); (try simp only [Act.put, List.setIfInBounds_toArray, List.set_cons_zero, List.set_cons_succ]))
              (refine wpAnyT_take' (i := 6) (v := ?_) (some 76) rfl (by kernel_rfl) (by kernel_rfl) (by kernel_rfl) (by kernel_rfl) (by kernel_rfl) (fun _ _ _ h => h) (Or.inl ⟨by rfl, ?_⟩) (by assumption) ?_; rotate_left 1; focus (intro w hSw; (try dsimp only at hSw); go_simp; (try with_reducible rfl)); (try simp only [Act.put, List.setIfInBounds_toArray, List.set_cons_zero, List.set_cons_succ]))
              (refine wpAnyT_take' (i := 7) (v := ?_) (some 77) rfl (by kernel_rfl) (by kernel_rfl) (by kernel_rfl) (by kernel_rfl) (by kernel_rfl) (fun _ _ _ h => h) (Or.inl ⟨by rfl, ?_⟩) (by assumption) ?_; rotate_left 1; focus (intro w hSw; (try dsimp only at hSw); go_simp; (try with_reducible rfl)); (try simp only [Act.put, List.setIfInBounds_toArray, List.set_cons_zero, List.set_cons_succ]))
              (refine wpAnyT_take' (i := 8) (v := ?_) (some 78) rfl (by kernel_rfl) (by kernel_rfl) (by kernel_rfl) (by kernel_rfl) (by kernel_rfl) (fun _ _ _ h => h) (Or.inl ⟨by rfl, ?_⟩) (by assumption) ?_; rotate_left 1; focus (intro w hSw; (try dsimp only at hSw); go_simp; (try with_reducible rfl)); (try simp only [Act.put, List.setIfInBounds_toArray, List.set_cons_zero, List.set_cons_succ]))
              (refine wpAnyT_take' (i := 9) (v := ?_) (some 79) rfl (by kernel_rfl) (by kernel_rfl) (by kernel_rfl) (by kernel_rfl) (by kernel_rfl) (fun _ _ _ h => h) (Or.inl ⟨by rfl, ?_⟩) (by assumption) ?_; rotate_left 1; focus (intro w hSw; (try dsimp only at hSw); go_simp; (try with_reducible rfl)); (try simp only [Act.put, List.setIfInBounds_toArray, List.set_cons_zero, List.set_cons_succ]))
              (refine wpAnyT_take' (i := 10) (v := ?_) (some 80) rfl (by kernel_rfl) (by kernel_rfl) (by kernel_rfl) (by kernel_rfl) (by kernel_rfl) (fun _ _ _ h => h) (Or.inl ⟨by rfl, ?_⟩) (by assumption) ?_; rotate_left 1; focus (intro w hSw; (try dsimp only at hSw); go_simp; (try with_reducible rfl)); (try simp only [Act.put, List.setIfInBounds_toArray, List.set_cons_zero, List.set_cons_succ]))
              (refine wpAnyT_take' (i := 11) (v := ?_) (some 81) rfl (by kernel_rfl) (by kernel_rfl) (by kernel_rfl) (by kernel_rfl) (by kernel_rfl) (fun _ _ _ h => h) (Or.inl ⟨by rfl, ?_⟩) (by assumption) ?_; rotate_left 1; focus (intro w hSw; (try dsimp only at hSw); go_simp; (try with_reducible rfl)); (try simp only [Act.put, List.setIfInBounds_toArray, List.set_cons_zero, List.set_cons_succ]))
              (refine wpAnyT_take' (i := 12) (v := ?_) (some 82) rfl (by kernel_rfl) (by kernel_rfl) (by kernel_rfl) (by kernel_rfl) (by kernel_rfl) (fun _ _ _ h => h) (Or.inl ⟨by rfl, ?_⟩) (by assumption) ?_; rotate_left 1; focus (intro w hSw; (try dsimp only at hSw); go_simp; (try with_reducible rfl)); (try simp only [Act.put, List.setIfInBounds_toArray, List.set_cons_zero, List.set_cons_succ]))
              (refine wpAnyT_take' (i := 13) (v := ?_) (some 83) rfl (by kernel_rfl) (by kernel_rfl) (by kernel_rfl) (by kernel_rfl) (by kernel_rfl) (fun _ _ _ h => h) (Or.inl ⟨by rfl, ?_⟩) (by assumption) ?_; rotate_left 1; focus (intro w hSw; (try dsimp only at hSw); go_simp; (try with_reducible rfl)); (try simp only [Act.put, List.setIfInBounds_toArray, List.set_cons_zero, List.set_cons_succ]))
              (refine wpAnyT_take' (i := 14) (v := ?_) (some 84) rfl (by kernel_rfl) (by kernel_rfl) (by kernel_rfl) (by kernel_rfl) (by kernel_rfl) (fun _ _ _ h => h) (Or.inl ⟨by rfl, ?_⟩) (by assumption) ?_; rotate_left 1; focus (intro w hSw; (try dsimp only at hSw); go_simp; (try with_reducible rfl)); (try simp only [Act.put, List.setIfInBounds_toArray, List.set_cons_zero, List.set_cons_succ]))
              (refine wpAnyT_take' (i := 15) (v := ?_) (some 85) rfl (by kernel_rfl) (by kernel_rfl) (by kernel_rfl) (by kernel_rfl) (by kernel_rfl) (fun _ _ _ h => h) (Or.inl ⟨by rfl, ?_⟩) (by assumption) ?_; rotate_left 1; focus (intro w hSw; (try dsimp only at hSw); go_simp; (try with_reducible rfl)); (try simp only [Act.put, List.setIfInBounds_toArray, List.set_cons_zero, List.set_cons_succ]))
              (refine wpAnyT_take' (i := 16) (v := ?_) (some 86) rfl (by kernel_rfl) (by kernel_rfl) (by kernel_rfl) (by kernel_rfl) (by kernel_rfl) (fun _ _ _ h => h) (Or.inl ⟨by rfl, ?_⟩) (by assumption) ?_; rotate_left 1; focus (intro w hSw; (try dsimp only at hSw); go_simp; (try with_reducible rfl)); (try simp only [Act.put, List.setIfInBounds_toArray, List.set_cons_zero, List.set_cons_succ]))
              (refine wpAnyT_take' (i := 17) (v := ?_) (some 87) rfl (by kernel_rfl) (by kernel_rfl) (by kernel_rfl) (by kernel_rfl) (by kernel_rfl) (fun _ _ _ h => h) (Or.inl ⟨by rfl, ?_⟩) (by assumption) ?_; rotate_left 1; focus (intro w hSw; (try dsimp only at hSw); go_simp; (try with_reducible rfl)); (try simp only [Act.put, List.setIfInBounds_toArray, List.set_cons_zero, List.set_cons_succ]))
              (refine wpAnyT_take' (i := 18) (v := ?_) (some 88) rfl (by kernel_rfl) (by kernel_rfl) (by kernel_rfl) (by kernel_rfl) (by kernel_rfl) (fun _ _ _ h => h) (Or.inl ⟨by rfl, ?_⟩) (by assumption) ?_; rotate_left 1; focus (intro w hSw; (try dsimp only at hSw); go_simp; (try with_reducible rfl)); (try simp only [Act.put, List.setIfInBounds_toArray, List.set_cons_zero, List.set_cons_succ]))
              (refine wpAnyT_take' (i := 19) (v := ?_) (some 89) rfl (by kernel_rfl) (by kernel_rfl) (by kernel_rfl) (by kernel_rfl) (by kernel_rfl) (fun _ _ _ h => h) (Or.inl ⟨by rfl, ?_⟩) (by assumption) ?_; rotate_left 1; focus (intro w hSw; (try dsimp only at hSw); go_simp; (try with_reducible rfl)); (try simp only [Act.put, List.setIfInBounds_toArray, List.set_cons_zero, List.set_cons_succ]))
              (refine wpAnyT_take' (i := 20) (v := ?_) (some 90) rfl (by kernel_rfl) (by kernel_rfl) (by kernel_rfl) (by kernel_rfl) (by kernel_rfl) (fun _ _ _ h => h) (Or.inl ⟨by rfl, ?_⟩) (by assumption) ?_; rotate_left 1; focus (intro w hSw; (try dsimp only at hSw); go_simp; (try with_reducible rfl)); (try simp only [Act.put, List.setIfInBounds_toArray, List.set_cons_zero, List.set_cons_succ]))
              (refine wpAnyT_take' (i := 21) (v := ?_) (some 91) rfl (by kernel_rfl) (by kernel_rfl) (by kernel_rfl) (by kernel_rfl) (by kernel_rfl) (fun _ _ _ h => h) (Or.inl ⟨by rfl, ?_⟩) (by assumption) ?_; rotate_left 1; focus (intro w hSw; (try dsimp only at hSw); go_simp; (try with_reducible rfl)); (try simp only [Act.put, List.setIfInBounds_toArray, List.set_cons_zero, List.set_cons_succ]))
              (refine wpAnyT_take' (i := 22) (v := ?_) (some 92) rfl (by kernel_rfl) (by kernel_rfl) (by kernel_rfl) (by kernel_rfl) (by kernel_rfl) (fun _ _ _ h => h) (Or.inl ⟨by rfl, ?_⟩) (by assumption) ?_; rotate_left 1; focus (intro w hSw; (try dsimp only at hSw); go_simp; (try with_reducible rfl)); (try simp only [Act.put, List.setIfInBounds_toArray, List.set_cons_zero, List.set_cons_succ]))
              (refine wpAnyT_take' (i := 23) (v := ?_) (some 93) rfl (by kernel_rfl) (by kernel_rfl) (by kernel_rfl) (by kernel_rfl) (by kernel_rfl) (fun _ _ _ h => h) (Or.inl ⟨by rfl, ?_⟩) (by assumption) ?_; rotate_left 1; focus (intro w hSw; (try dsimp only at hSw); go_simp; (try with_reducible rfl)); (try simp only [Act.put, List.setIfInBounds_toArray, List.set_cons_zero, List.set_cons_succ]))
              (refine wpAnyT_take' (i := 24) (v := ?_) (some 94) rfl (by kernel_rfl) (by kernel_rfl) (by kernel_rfl) (by kernel_rfl) (by kernel_rfl) (fun _ _ _ h => h) (Or.inl ⟨by rfl, ?_⟩) (by assumption) ?_; rotate_left 1; focus (intro w hSw; (try dsimp only at hSw); go_simp; (try with_reducible rfl)); (try simp only [Act.put, List.setIfInBounds_toArray, List.set_cons_zero, List.set_cons_succ]))
              (refine wpAnyT_take' (i := 25) (v := ?_) (some 95) rfl (by kernel_rfl) (by kernel_rfl) (by kernel_rfl) (by kernel_rfl) (by kernel_rfl) (fun _ _ _ h => h) (Or.inl ⟨by rfl, ?_⟩) (by assumption) ?_; rotate_left 1; focus (intro w hSw; (try dsimp only at hSw); go_simp; (try with_reducible rfl)); (try simp only [Act.put, List.setIfInBounds_toArray, List.set_cons_zero, List.set_cons_succ]))
              (refine wpAnyT_take' (i := 26) (v := ?_) (some 96) rfl (by kernel_rfl) (by kernel_rfl) (by kernel_rfl) (by kernel_rfl) (by kernel_rfl) (fun _ _ _ h => h) (Or.inl ⟨by rfl, ?_⟩) (by assumption) ?_; rotate_left 1; focus (intro w hSw; (try dsimp only at hSw); go_simp; (try with_reducible rfl)); (try simp only [Act.put, List.setIfInBounds_toArray, List.set_cons_zero, List.set_cons_succ]))
              (refine wpAnyT_take' (i := 27) (v := ?_) (some 97) rfl (by kernel_rfl) (by kernel_rfl) (by kernel_rfl) (by kernel_rfl) (by kernel_rfl) (fun _ _ _ h => h) (Or.inl ⟨by rfl, ?_⟩) (by assumption) ?_; rotate_left 1; focus (intro w hSw; (try dsimp only at hSw); go_simp; (try with_reducible rfl)); (try simp only [Act.put, List.setIfInBounds_toArray, List.set_cons_zero, List.set_cons_succ]))
              (refine wpAnyT_take' (i := 28) (v := ?_) (some 98) rfl (by kernel_rfl) (by kernel_rfl) (by kernel_rfl) (by kernel_rfl) (by kernel_rfl) (fun _ _ _ h => h) (Or.inl ⟨by rfl, ?_⟩) (by assumption) ?_; rotate_left 1; focus (intro w hSw; (try dsimp only at hSw); go_simp; (try with_reducible rfl)); (try simp only [Act.put, List.setIfInBounds_toArray, List.set_cons_zero, List.set_cons_succ]))
              (refine wpAnyT_take' (i := 29) (v := ?_) (some 99) rfl (by kernel_rfl) (by kernel_rfl) (by kernel_rfl) (by kernel_rfl) (by kernel_rfl) (fun _ _ _ h => h) (Or.inl ⟨by rfl, ?_⟩) (by assumption) ?_; rotate_left 1; focus (intro w hSw; (try dsimp only at hSw); go_simp; (try with_reducible rfl)); (try simp only [Act.put, List.setIfInBounds_toArray, List.set_cons_zero, List.set_cons_succ]))
              refine wpAnyT_one (i := 30) (by kernel_rfl) rfl (fun K hK => ?_)
              go_simp
              refine hK _ _ ⟨fun _ => ⟨xcell (w := wr) (by simp (maxDischargeDepth := 60)) o1, xcell (w := wr) (by simp (maxDischargeDepth := 60)) d0', xcell (w := wr) (by simp (maxDischargeDepth := 60)) d1', xcell (w := wr) (by simp (maxDischargeDepth := 60)) d2', xcell (w := wr) (by simp (maxDischargeDepth := 60)) d3', xcell (w := wr) (by simp (maxDischargeDepth := 60)) d4', xcell (w := wr) (by simp (maxDischargeDepth := 60)) d5', xcell (w := wr) (by simp (maxDischargeDepth := 60)) d6', xcell (w := wr) (by simp (maxDischargeDepth := 60)) d7'⟩, ?_⟩
              clear hK K hS
              (try simp only [Act.put, List.setIfInBounds_toArray, List.set_cons_zero, List.set_cons_succ])
              refine wpAnyT_one (i := 31) (by kernel_rfl) rfl (fun K hK => ?_)
              (refine step_append_lies _ rfl _ _ _ rfl w1.heap.size 52 j0 _ 8 64 Tryd.underlying31 hj0 hy0 hy1 hy2 rfl (by decide) (.slice g1 dl.length d1) dl.length (dl.flatMap stayCells) rfl (owns_drew (owns_alloc GAT.out.stays _)) ⟨wr.heap.size, 0, none⟩ 1 1 [vi y0, vi y1, vi y2, vi y3, vi y4, vi y5, vi y6, vi y7] rfl rfl (news_drew wr #[vi y0, vi y1, vi y2, vi y3, vi y4, vi y5, vi y6, vi y7] 52) (by simp [Value.oneCell']) (by decide) (by unfold maxLen; omega) (by omega) (by first | (simp; done) | (simp; omega)) _ rfl ?_)
              intro hg cap w5 hown5 hgrow hat hlt5
              obtain ⟨n0, n1, n2, nf⟩ := (GAT.out.cell.ext (w' := (wr.alloc (.cells #[vi y0, vi y1, vi y2, vi y3, vi y4, vi y5, vi y6, vi y7] 52)).drew) (by simp (maxDischargeDepth := 60))).grown hgrow (GAT.out.far1 hOw)
              have zn := cell_lt n0
              have HG2 := Lib.hid (GAT.out.addStay ⟨y0, ⟨y1, ⟨y2, y3, y4⟩⟩, ⟨y5, y6, y7⟩⟩ (A := (wr.alloc (.cells #[vi y0, vi y1, vi y2, vi y3, vi y4, vi y5, vi y6, vi y7] 52)).drew) (by simp (maxDischargeDepth := 60)) hOw hown5 hgrow hat)
              refine hK _ _ ⟨fun _ => ⟨n1, gcell hgrow (xcell (w := wr) (by simp (maxDischargeDepth := 60)) d0') hne, gcell hgrow (xcell (w := wr) (by simp (maxDischargeDepth := 60)) d1') hne, gcell hgrow (xcell (w := wr) (by simp (maxDischargeDepth := 60)) d2') hne, gcell hgrow (xcell (w := wr) (by simp (maxDischargeDepth := 60)) d3') hne, gcell hgrow (xcell (w := wr) (by simp (maxDischargeDepth := 60)) d4') hne, gcell hgrow (xcell (w := wr) (by simp (maxDischargeDepth := 60)) d5') hne, gcell hgrow (xcell (w := wr) (by simp (maxDischargeDepth := 60)) d6') hne, gcell hgrow (xcell (w := wr) (by simp (maxDischargeDepth := 60)) d7') hne⟩, ?_⟩
              clear hK K
              (try simp only [Act.put, List.setIfInBounds_toArray])
              refine wpAnyT_one (i := 32) (by kernel_rfl) rfl (fun K hK => ?_)
              go_simp
              refine hK _ _ ⟨fun _ => ⟨n1, gcell hgrow (xcell (w := wr) (by simp (maxDischargeDepth := 60)) d0') hne, gcell hgrow (xcell (w := wr) (by simp (maxDischargeDepth := 60)) d1') hne, gcell hgrow (xcell (w := wr) (by simp (maxDischargeDepth := 60)) d2') hne, gcell hgrow (xcell (w := wr) (by simp (maxDischargeDepth := 60)) d3') hne, gcell hgrow (xcell (w := wr) (by simp (maxDischargeDepth := 60)) d4') hne, gcell hgrow (xcell (w := wr) (by simp (maxDischargeDepth := 60)) d5') hne, gcell hgrow (xcell (w := wr) (by simp (maxDischargeDepth := 60)) d6') hne, gcell hgrow (xcell (w := wr) (by simp (maxDischargeDepth := 60)) d7') hne⟩, ?_⟩
              clear hK K
              (try simp only [Act.put, List.setIfInBounds_toArray, List.set_cons_zero, List.set_cons_succ])
              refine wpAnyT_one (i := 33) (by kernel_rfl) rfl (fun K hK => ?_)
              go_simp
              refine hK _ _ ⟨fun h => absurd rfl h, wpAnyT_done (by kernel_rfl) ?_ _⟩
              clear hK K hown5 hgrow hat
              (try simp only [Act.put, List.setIfInBounds_toArray])
              have hwj : IntKind.i64.wrap ((j : Int) + 1) = (j : Int) + 1 := IntWalk.i64_in _ (by omega)
              go_wp2
              go_roundw
              case rel =>
                exact ⟨j + 1, dl ++ [(⟨y0, ⟨y1, ⟨y2, y3, y4⟩⟩, ⟨y5, y6, y7⟩⟩ : Ch.Stay)], some ⟨hg, 0, none⟩, cap, by omega, by go_num, by unfold Hid; rw [List.range_succ, List.map_append, ← HA.out]; simp [HST.out], by rw [List.length_append]; exact HG2.out⟩
              case measure => simp [intOf]; omega
            · have hjx : (j : Int) = x1 := by omega
              have HJX := Lib.hid (show x1.toNat = j by omega)
              have HDL : Hid (dl = (List.range x1.toNat).map fun i => Ch.stayAt N i) := by rw [HJX.out]; exact HA.out
              have HG1 := GAT
              go_upto_region 19 with fail
              clear hjx o0 o1 o2 of zo hszz HXW GAT HA e1 e2 ze hlt hj
              go_loopw [13] (fun i wr => ∃ (m : Nat) (dj : List Ch.Job) (g2 : Option Addr) (d2 : Nat), (m : Int) ≤ x2 ∧ i = .int .i64 m ∧ Hid (dj = ((List.range m).map fun i => Ch.jobAtN N (3 + 8 * x1.toNat + 2 * i)) ∧ ∀ i < m, N.getD (3 + 8 * x1.toNat + 2 * i + 1) 0 ≤ 1) ∧ Outing w1 O x0 dl dj (.slice g1 dl.length d1) (.slice g2 dj.length d2) wr) (fun i _ => x2.toNat - (intOf i).toNat)
              case atStart => exact ⟨0, [], none, 0, by omega, rfl, ⟨rfl, fun i hi => by omega⟩, HG1.out⟩
              case round =>
                obtain ⟨m, dj, g2, d2, hm, rfl, HA, hgat⟩ := hrel
                have GAT := Lib.hid hgat
                clear hgat
                have hdj : dj.length ≤ 10001 := by
                  rw [HA.out.1, List.length_map, List.length_range]
                  have := HLN.out
                  omega
                have HXW := Lib.hid (GAT.out.kept.widen HX1W.out (by omega))
                obtain ⟨o0, o1, o2, of⟩ := GAT.out.cell
                have zo := cell_lt o0
                have hszz := GAT.out.kept.size
                have e1 := GAT.out.kept.cell C1.out (by omega)
                have e2 := GAT.out.kept.cell C2.out (by omega)
                have ze := cell_lt e1
                have KRG := Lib.hid (KR1.out.same (GAT.out.kept.other KR1.out.lt (by omega)))
                by_cases hlt : (m : Int) < x2
                · obtain ⟨A, hA⟩ : ∃ A, A = 3 + 8 * x1.toNat + 2 * m := ⟨_, rfl⟩
                  have hA8 : A + 2 ≤ N.length := by have := HLN.out; omega
                  have hA8i : (A : Int) ≤ (N.length : Int) := by omega
                  have hA8d : (A : Int) ≤ (d : Int) := by omega
                  have hq0 : 0 < N.length - A := by omega
                  have hq1 : 1 < N.length - A := by omega
                  have hi1 : (1 : Int) < ((N.length - A : Nat) : Int) := by omega
                  have hwm2 : IntKind.i64.wrap (2 * (m : Int)) = 2 * (m : Int) := IntWalk.i64_in _ (by omega)
                  have hwA : IntKind.i64.wrap (3 + 8 * x1 + 2 * (m : Int)) = (A : Int) := by rw [IntWalk.i64_in _ (by omega), hA]; omega
                  have hjm : m < 100000 := by omega
                  have hne : (Value.slice g2 dj.length d2).ownBlock ≠ some gg := fun e => by have := owns_block GAT.out.jobs _ e; omega
                  have HAE := Lib.hid hA
                  have HA1 : Hid (N.getD (3 + 8 * x1.toNat + 2 * m + 1) 0 = N.getD (A + 1) 0) := by unfold Hid; rw [hA]
                  obtain ⟨y0, Y0⟩ : ∃ y, Hid (N.getD A 0 = y) := ⟨_, rfl⟩
                  obtain ⟨y1, HY1⟩ : ∃ y, Hid (N.getD (A + 1) 0 = y) := ⟨_, rfl⟩
                  have d0' := GAT.out.kept.cell (HC1.out A (by omega)) (by omega)
                  have d1' := GAT.out.kept.cell (HC1.out (A + 1) (by omega)) (by omega)
                  rw [Y0.out] at d0'
                  rw [HY1.out] at d1'
                  have hy0' := getD_range HRN.out (A + 1)
                  rw [HY1.out] at hy0'
                  have zgg := cell_lt d0'
                  clear hA
                  by_cases hy1 : 1 < y1
                  · have HP0 : Hid (Ch.parseBook s.data.toList levels = none) := by
                      unfold Hid
                      rw [HPN.out, HBN.out, if_neg (by rw [HX1.out, HX2.out]; intro h; rcases h with h | h; exact absurd h (by omega); exact h HLN.out), if_neg]
                      intro h
                      have := h m (by rw [HX2.out]; omega)
                      rw [HX1.out, HA1.out, HY1.out] at this
                      omega
                    go_upto_region 23 with fail
                    obtain ⟨t0, t1, t2, tf⟩ := KRG.out
                    have zt := cell_lt t0
                    have hxw := HXW.out
                    go_wp2
                    obtain ⟨p0, p1, p2, px⟩ := put3 (w := w) (R := w.heap.size) (x := vi 0) (y := .slice none 0 0) (z := .slice none 0 0) hxw (Nat.le_refl _) t0 t1 t2
                    refine bodyPost_ret (v := .tuple #[.agg #[vi 0, .slice none 0 0, .slice none 0 0], vi 4]) (by simp [results, Tryd.results13, go_sem, p0, p1, p2]) rfl ?_
                    rw [HP0.out]
                    exact rparsed_bad px
                  · have hy01 : y1 = 0 ∨ y1 = 1 := by omega
                    clear hy0' hy1
                    rcases hy01 with rfl | rfl
                    · have HJT : Hid (Ch.jobAtN N (3 + 8 * x1.toNat + 2 * m) = ⟨y0, false⟩) := by
                        unfold Hid Ch.jobAtN
                        rw [HA1.out, HY1.out, ← HAE.out, Y0.out]; rfl
                      go_upto_region 24 with fail
                      refine wp_region_T 13 (fun w' => w'.cell? ⟨O, 2, none⟩ = some (.slice g2 dj.length d2) ∧ w'.cell? ⟨gg, A, none⟩ = some (vi y0) ∧ w'.cell? ⟨gg, A + 1, none⟩ = some (vi 0)) (by kernel_rfl) ⟨o2, d0', d1'⟩ ?_
                      intro hS
                      (refine wpAnyT_take' (i := 0) (v := ?_) (some 125) rfl (by kernel_rfl) (by kernel_rfl) (by kernel_rfl) (by kernel_rfl) (by kernel_rfl) (fun _ _ _ h => h) (Or.inl ⟨by rfl, ?_⟩) (by assumption) ?_; rotate_left 1; focus (intro w hSw; (try dsimp only at hSw); go_simp; (try with_reducible rfl)); (try simp only [Act.put, List.setIfInBounds_toArray, List.set_cons_zero, List.set_cons_succ]))
                      (refine wpAnyT_take' (i := 1) (v := ?_) (some 126) rfl (by kernel_rfl) (by kernel_rfl) (by kernel_rfl) (by kernel_rfl) (by kernel_rfl) (fun _ _ _ h => h) (Or.inl ⟨by rfl, ?_⟩) (by assumption) ?_; rotate_left 1; focus (intro w hSw; (try dsimp only at hSw); go_simp; (try with_reducible rfl)); (try simp only [Act.put, List.setIfInBounds_toArray, List.set_cons_zero, List.set_cons_succ]))
                      (refine wpAnyT_take' (i := 2) (v := ?_) (some 127) rfl (by kernel_rfl) (by kernel_rfl) (by kernel_rfl) (by kernel_rfl) (by kernel_rfl) (fun _ _ _ h => h) (Or.inl ⟨by rfl, ?_⟩) (by assumption) ?_; rotate_left 1; focus (intro w hSw; (try dsimp only at hSw); go_simp; (try with_reducible rfl)); (try simp only [Act.put, List.setIfInBounds_toArray, List.set_cons_zero, List.set_cons_succ]))
                      (refine wpAnyT_take' (i := 3) (v := ?_) (some 128) rfl (by kernel_rfl) (by kernel_rfl) (by kernel_rfl) (by kernel_rfl) (by kernel_rfl) (fun _ _ _ h => h) (Or.inl ⟨by rfl, ?_⟩) (by assumption) ?_; rotate_left 1; focus (intro w hSw; (try dsimp only at hSw); go_simp; (try with_reducible rfl)); (try simp only [Act.put, List.setIfInBounds_toArray, List.set_cons_zero, List.set_cons_succ]))
                      (refine wpAnyT_take' (i := 4) (v := ?_) (some 129) rfl (by kernel_rfl) (by kernel_rfl) (by kernel_rfl) (by kernel_rfl) (by kernel_rfl) (fun _ _ _ h => h) (Or.inl ⟨by rfl, ?_⟩) (by assumption) ?_; rotate_left 1; focus (intro w hSw; (try dsimp only at hSw); go_simp; (try with_reducible rfl)); (try simp only [Act.put, List.setIfInBounds_toArray, List.set_cons_zero, List.set_cons_succ]))
                      (refine wpAnyT_take' (i := 5) (v := ?_) (some 130) rfl (by kernel_rfl) (by kernel_rfl) (by kernel_rfl) (by kernel_rfl) (by kernel_rfl) (fun _ _ _ h => h) (Or.inl ⟨by rfl, ?_⟩) (by assumption) ?_; rotate_left 1; focus (intro w hSw; (try dsimp only at hSw); go_simp; (try with_reducible rfl)); (try simp only [Act.put, List.setIfInBounds_toArray, List.set_cons_zero, List.set_cons_succ]))
                      (refine wpAnyT_take' (i := 6) (v := ?_) (some 131) rfl (by kernel_rfl) (by kernel_rfl) (by kernel_rfl) (by kernel_rfl) (by kernel_rfl) (fun _ _ _ h => h) (Or.inl ⟨by rfl, ?_⟩) (by assumption) ?_; rotate_left 1; focus (intro w hSw; (try dsimp only at hSw); go_simp; (try with_reducible rfl)); (try simp only [Act.put, List.setIfInBounds_toArray, List.set_cons_zero, List.set_cons_succ]))
                      (refine wpAnyT_take' (i := 7) (v := ?_) (some 132) rfl (by kernel_rfl) (by kernel_rfl) (by kernel_rfl) (by kernel_rfl) (by kernel_rfl) (fun _ _ _ h => h) (Or.inl ⟨by rfl, ?_⟩) (by assumption) ?_; rotate_left 1; focus (intro w hSw; (try dsimp only at hSw); go_simp; (try with_reducible rfl)); (try simp only [Act.put, List.setIfInBounds_toArray, List.set_cons_zero, List.set_cons_succ]))
                      (refine wpAnyT_take' (i := 8) (v := ?_) (some 133) rfl (by kernel_rfl) (by kernel_rfl) (by kernel_rfl) (by kernel_rfl) (by kernel_rfl) (fun _ _ _ h => h) (Or.inl ⟨by rfl, ?_⟩) (by assumption) ?_; rotate_left 1; focus (intro w hSw; (try dsimp only at hSw); go_simp; (try with_reducible rfl)); (try simp only [Act.put, List.setIfInBounds_toArray, List.set_cons_zero, List.set_cons_succ]))
                      (refine wpAnyT_take' (i := 9) (v := ?_) (some 134) rfl (by kernel_rfl) (by kernel_rfl) (by kernel_rfl) (by kernel_rfl) (by kernel_rfl) (fun _ _ _ h => h) (Or.inl ⟨by rfl, ?_⟩) (by assumption) ?_; rotate_left 1; focus (intro w hSw; (try dsimp only at hSw); go_simp; (try with_reducible rfl)); (try simp only [Act.put, List.setIfInBounds_toArray, List.set_cons_zero, List.set_cons_succ]))
                      refine wpAnyT_one (i := 10) (by kernel_rfl) rfl (fun K hK => ?_)
                      go_simp
                      refine hK _ _ ⟨fun _ => ⟨xcell (w := wr) (by simp (maxDischargeDepth := 60)) o2, xcell (w := wr) (by simp (maxDischargeDepth := 60)) d0', xcell (w := wr) (by simp (maxDischargeDepth := 60)) d1'⟩, ?_⟩
                      clear hK K hS
                      (try simp only [Act.put, List.setIfInBounds_toArray, List.set_cons_zero, List.set_cons_succ])
                      refine wpAnyT_one (i := 11) (by kernel_rfl) rfl (fun K hK => ?_)
                      (refine step_append_lies _ rfl _ _ _ rfl w1.heap.size 61 q0 _ 2 16 Tryd.underlying32 hqq hx0 hx1 hx2 rfl (by decide) (.slice g2 dj.length d2) dj.length (dj.flatMap jobCells) rfl (owns_drew (owns_alloc GAT.out.jobs _)) ⟨wr.heap.size, 0, none⟩ 1 1 [vi y0, .bool false] rfl rfl (news_drew wr #[vi y0, .bool false] 61) (by simp [Value.oneCell']) (by decide) (by unfold maxLen; omega) (by omega) (by first | (simp; done) | (simp; omega)) _ rfl ?_)
                      intro hg cap w5 hown5 hgrow hat hlt5
                      obtain ⟨n0, n1, n2, nf⟩ := (GAT.out.cell.ext (w' := (wr.alloc (.cells #[vi y0, .bool false] 61)).drew) (by simp (maxDischargeDepth := 60))).grown hgrow (GAT.out.far2 hOw)
                      have zn := cell_lt n0
                      have HG2 := Lib.hid (GAT.out.addJob ⟨y0, false⟩ (A := (wr.alloc (.cells #[vi y0, .bool false] 61)).drew) (by simp (maxDischargeDepth := 60)) hOw hown5 hgrow hat)
                      refine hK _ _ ⟨fun _ => ⟨n2, gcell hgrow (xcell (w := wr) (by simp (maxDischargeDepth := 60)) d0') hne, gcell hgrow (xcell (w := wr) (by simp (maxDischargeDepth := 60)) d1') hne⟩, ?_⟩
                      clear hK K
                      (try simp only [Act.put, List.setIfInBounds_toArray])
                      refine wpAnyT_one (i := 12) (by kernel_rfl) rfl (fun K hK => ?_)
                      go_simp
                      refine hK _ _ ⟨fun _ => ⟨n2, gcell hgrow (xcell (w := wr) (by simp (maxDischargeDepth := 60)) d0') hne, gcell hgrow (xcell (w := wr) (by simp (maxDischargeDepth := 60)) d1') hne⟩, ?_⟩
                      clear hK K
                      (try simp only [Act.put, List.setIfInBounds_toArray, List.set_cons_zero, List.set_cons_succ])
                      refine wpAnyT_one (i := 13) (by kernel_rfl) rfl (fun K hK => ?_)
                      go_simp
                      refine hK _ _ ⟨fun h => absurd rfl h, wpAnyT_done (by kernel_rfl) ?_ _⟩
                      clear hK K hown5 hgrow hat
                      (try simp only [Act.put, List.setIfInBounds_toArray])
                      have hwj : IntKind.i64.wrap ((m : Int) + 1) = (m : Int) + 1 := IntWalk.i64_in _ (by omega)
                      go_wp2
                      go_roundw
                      case rel =>
                        exact ⟨m + 1, dj ++ [(⟨y0, false⟩ : Ch.Job)], some ⟨hg, 0, none⟩, cap, by omega, by go_num, ⟨by rw [List.range_succ, List.map_append, ← HA.out.1]; simp [HJT.out], fun i hi => by
                          by_cases him : i = m
                          · rw [him, HA1.out, HY1.out]; decide
                          · exact HA.out.2 i (by omega)⟩, by rw [List.length_append]; exact HG2.out⟩
                      case measure => simp [intOf]; omega
                    · have HJT : Hid (Ch.jobAtN N (3 + 8 * x1.toNat + 2 * m) = ⟨y0, true⟩) := by
                        unfold Hid Ch.jobAtN
                        rw [HA1.out, HY1.out, ← HAE.out, Y0.out]; rfl
                      go_upto_region 24 with fail
                      refine wp_region_T 13 (fun w' => w'.cell? ⟨O, 2, none⟩ = some (.slice g2 dj.length d2) ∧ w'.cell? ⟨gg, A, none⟩ = some (vi y0) ∧ w'.cell? ⟨gg, A + 1, none⟩ = some (vi 1)) (by kernel_rfl) ⟨o2, d0', d1'⟩ ?_
                      intro hS
                      (refine wpAnyT_take' (i := 0) (v := ?_) (some 125) rfl (by kernel_rfl) (by kernel_rfl) (by kernel_rfl) (by kernel_rfl) (by kernel_rfl) (fun _ _ _ h => h) (Or.inl ⟨by rfl, ?_⟩) (by assumption) ?_; rotate_left 1; focus (intro w hSw; (try dsimp only at hSw); go_simp; (try with_reducible rfl)); (try simp only [Act.put, List.setIfInBounds_toArray, List.set_cons_zero, List.set_cons_succ]))
                      (refine wpAnyT_take' (i := 1) (v := ?_) (some 126) rfl (by kernel_rfl) (by kernel_rfl) (by kernel_rfl) (by kernel_rfl) (by kernel_rfl) (fun _ _ _ h => h) (Or.inl ⟨by rfl, ?_⟩) (by assumption) ?_; rotate_left 1; focus (intro w hSw; (try dsimp only at hSw); go_simp; (try with_reducible rfl)); (try simp only [Act.put, List.setIfInBounds_toArray, List.set_cons_zero, List.set_cons_succ]))
                      (refine wpAnyT_take' (i := 2) (v := ?_) (some 127) rfl (by kernel_rfl) (by kernel_rfl) (by kernel_rfl) (by kernel_rfl) (by kernel_rfl) (fun _ _ _ h => h) (Or.inl ⟨by rfl, ?_⟩) (by assumption) ?_; rotate_left 1; focus (intro w hSw; (try dsimp only at hSw); go_simp; (try with_reducible rfl)); (try simp only [Act.put, List.setIfInBounds_toArray, List.set_cons_zero, List.set_cons_succ]))
                      (refine wpAnyT_take' (i := 3) (v := ?_) (some 128) rfl (by kernel_rfl) (by kernel_rfl) (by kernel_rfl) (by kernel_rfl) (by kernel_rfl) (fun _ _ _ h => h) (Or.inl ⟨by rfl, ?_⟩) (by assumption) ?_; rotate_left 1; focus (intro w hSw; (try dsimp only at hSw); go_simp; (try with_reducible rfl)); (try simp only [Act.put, List.setIfInBounds_toArray, List.set_cons_zero, List.set_cons_succ]))
                      (refine wpAnyT_take' (i := 4) (v := ?_) (some 129) rfl (by kernel_rfl) (by kernel_rfl) (by kernel_rfl) (by kernel_rfl) (by kernel_rfl) (fun _ _ _ h => h) (Or.inl ⟨by rfl, ?_⟩) (by assumption) ?_; rotate_left 1; focus (intro w hSw; (try dsimp only at hSw); go_simp; (try with_reducible rfl)); (try simp only [Act.put, List.setIfInBounds_toArray, List.set_cons_zero, List.set_cons_succ]))
                      (refine wpAnyT_take' (i := 5) (v := ?_) (some 130) rfl (by kernel_rfl) (by kernel_rfl) (by kernel_rfl) (by kernel_rfl) (by kernel_rfl) (fun _ _ _ h => h) (Or.inl ⟨by rfl, ?_⟩) (by assumption) ?_; rotate_left 1; focus (intro w hSw; (try dsimp only at hSw); go_simp; (try with_reducible rfl)); (try simp only [Act.put, List.setIfInBounds_toArray, List.set_cons_zero, List.set_cons_succ]))
                      (refine wpAnyT_take' (i := 6) (v := ?_) (some 131) rfl (by kernel_rfl) (by kernel_rfl) (by kernel_rfl) (by kernel_rfl) (by kernel_rfl) (fun _ _ _ h => h) (Or.inl ⟨by rfl, ?_⟩) (by assumption) ?_; rotate_left 1; focus (intro w hSw; (try dsimp only at hSw); go_simp; (try with_reducible rfl)); (try simp only [Act.put, List.setIfInBounds_toArray, List.set_cons_zero, List.set_cons_succ]))
                      (refine wpAnyT_take' (i := 7) (v := ?_) (some 132) rfl (by kernel_rfl) (by kernel_rfl) (by kernel_rfl) (by kernel_rfl) (by kernel_rfl) (fun _ _ _ h => h) (Or.inl ⟨by rfl, ?_⟩) (by assumption) ?_; rotate_left 1; focus (intro w hSw; (try dsimp only at hSw); go_simp; (try with_reducible rfl)); (try simp only [Act.put, List.setIfInBounds_toArray, List.set_cons_zero, List.set_cons_succ]))
                      (refine wpAnyT_take' (i := 8) (v := ?_) (some 133) rfl (by kernel_rfl) (by kernel_rfl) (by kernel_rfl) (by kernel_rfl) (by kernel_rfl) (fun _ _ _ h => h) (Or.inl ⟨by rfl, ?_⟩) (by assumption) ?_; rotate_left 1; focus (intro w hSw; (try dsimp only at hSw); go_simp; (try with_reducible rfl)); (try simp only [Act.put, List.setIfInBounds_toArray, List.set_cons_zero, List.set_cons_succ]))
                      (refine wpAnyT_take' (i := 9) (v := ?_) (some 134) rfl (by kernel_rfl) (by kernel_rfl) (by kernel_rfl) (by kernel_rfl) (by kernel_rfl) (fun _ _ _ h => h) (Or.inl ⟨by rfl, ?_⟩) (by assumption) ?_; rotate_left 1; focus (intro w hSw; (try dsimp only at hSw); go_simp; (try with_reducible rfl)); (try simp only [Act.put, List.setIfInBounds_toArray, List.set_cons_zero, List.set_cons_succ]))
                      refine wpAnyT_one (i := 10) (by kernel_rfl) rfl (fun K hK => ?_)
                      go_simp
                      refine hK _ _ ⟨fun _ => ⟨xcell (w := wr) (by simp (maxDischargeDepth := 60)) o2, xcell (w := wr) (by simp (maxDischargeDepth := 60)) d0', xcell (w := wr) (by simp (maxDischargeDepth := 60)) d1'⟩, ?_⟩
                      clear hK K hS
                      (try simp only [Act.put, List.setIfInBounds_toArray, List.set_cons_zero, List.set_cons_succ])
                      refine wpAnyT_one (i := 11) (by kernel_rfl) rfl (fun K hK => ?_)
                      (refine step_append_lies _ rfl _ _ _ rfl w1.heap.size 61 q0 _ 2 16 Tryd.underlying32 hqq hx0 hx1 hx2 rfl (by decide) (.slice g2 dj.length d2) dj.length (dj.flatMap jobCells) rfl (owns_drew (owns_alloc GAT.out.jobs _)) ⟨wr.heap.size, 0, none⟩ 1 1 [vi y0, .bool true] rfl rfl (news_drew wr #[vi y0, .bool true] 61) (by simp [Value.oneCell']) (by decide) (by unfold maxLen; omega) (by omega) (by first | (simp; done) | (simp; omega)) _ rfl ?_)
                      intro hg cap w5 hown5 hgrow hat hlt5
                      obtain ⟨n0, n1, n2, nf⟩ := (GAT.out.cell.ext (w' := (wr.alloc (.cells #[vi y0, .bool true] 61)).drew) (by simp (maxDischargeDepth := 60))).grown hgrow (GAT.out.far2 hOw)
                      have zn := cell_lt n0
                      have HG2 := Lib.hid (GAT.out.addJob ⟨y0, true⟩ (A := (wr.alloc (.cells #[vi y0, .bool true] 61)).drew) (by simp (maxDischargeDepth := 60)) hOw hown5 hgrow hat)
                      refine hK _ _ ⟨fun _ => ⟨n2, gcell hgrow (xcell (w := wr) (by simp (maxDischargeDepth := 60)) d0') hne, gcell hgrow (xcell (w := wr) (by simp (maxDischargeDepth := 60)) d1') hne⟩, ?_⟩
                      clear hK K
                      (try simp only [Act.put, List.setIfInBounds_toArray])
                      refine wpAnyT_one (i := 12) (by kernel_rfl) rfl (fun K hK => ?_)
                      go_simp
                      refine hK _ _ ⟨fun _ => ⟨n2, gcell hgrow (xcell (w := wr) (by simp (maxDischargeDepth := 60)) d0') hne, gcell hgrow (xcell (w := wr) (by simp (maxDischargeDepth := 60)) d1') hne⟩, ?_⟩
                      clear hK K
                      (try simp only [Act.put, List.setIfInBounds_toArray, List.set_cons_zero, List.set_cons_succ])
                      refine wpAnyT_one (i := 13) (by kernel_rfl) rfl (fun K hK => ?_)
                      go_simp
                      refine hK _ _ ⟨fun h => absurd rfl h, wpAnyT_done (by kernel_rfl) ?_ _⟩
                      clear hK K hown5 hgrow hat
                      (try simp only [Act.put, List.setIfInBounds_toArray])
                      have hwj : IntKind.i64.wrap ((m : Int) + 1) = (m : Int) + 1 := IntWalk.i64_in _ (by omega)
                      go_wp2
                      go_roundw
                      case rel =>
                        exact ⟨m + 1, dj ++ [(⟨y0, true⟩ : Ch.Job)], some ⟨hg, 0, none⟩, cap, by omega, by go_num, ⟨by rw [List.range_succ, List.map_append, ← HA.out.1]; simp [HJT.out], fun i hi => by
                          by_cases him : i = m
                          · rw [him, HA1.out, HY1.out]; decide
                          · exact HA.out.2 i (by omega)⟩, by rw [List.length_append]; exact HG2.out⟩
                      case measure => simp [intOf]; omega
                · have hmx : (m : Int) = x2 := by omega
                  have HMX := Lib.hid (show x2.toNat = m by omega)
                  have HBK : Hid (Ch.parseBook s.data.toList levels = if Ch.bookFault ⟨x0, dl, dj⟩ levels = 0 then some ⟨x0, dl, dj⟩ else none) := by
                    unfold Hid
                    rw [HPN.out, HBN.out, if_neg (by rw [HX1.out, HX2.out]; intro h; rcases h with h | h; exact absurd h (by omega); exact h HLN.out), if_pos (by rw [HX2.out, HX1.out, HMX.out]; exact HA.out.2), HX0.out, HX1.out, HX2.out, HMX.out, ← HA.out.1, ← HDL.out]
                  obtain ⟨_, _, e1', s1⟩ := Sl.of_owns (c := 8) (enc := stayCells) GAT.out.stays (by decide) (fun _ => rfl)
                  cases e1'
                  obtain ⟨_, _, e1', s2⟩ := Sl.of_owns (c := 2) (enc := jobCells) GAT.out.jobs (by decide) (fun _ => rfl)
                  cases e1'
                  have S1 := Lib.hid s1
                  have S2 := Lib.hid s2
                  clear s1 s2 hmx
                  obtain ⟨F, HF⟩ : ∃ F, Hid (Ch.bookFault ⟨x0, dl, dj⟩ levels = F) := ⟨_, rfl⟩
                  have hF0 : 0 ≤ F := by rw [← HF.out]; exact bookFaultP_nn _ _
                  by_cases hbf : F = 0
                  · have HP1 : Hid (Ch.parseBook s.data.toList levels = some ⟨x0, dl, dj⟩) := by unfold Hid; rw [HBK.out, if_pos (HF.out.trans hbf)]
                    subst hbf
                    go_upto_region 27 with (first | (go_at_call 10; (with_reducible refine (rfault_atP 0 x0 levels g1 dl.length d1 g2 dj.length d2 dl dj _ (Sl.below S1.out (Ext.below (by simp (maxDischargeDepth := 60)))) (Sl.below S2.out (Ext.below (by simp (maxDischargeDepth := 60)))) hl1 hl4 HF).mono ?_); rintro e w1 ⟨rfl, o1, n1, rfl⟩))
                    generalize hW : World.plus _ _ _ = wq
                    have hxq : Ext wr wq := by rw [← hW]; exact (by simp (maxDischargeDepth := 60))
                    obtain ⟨t0, t1, t2, tf⟩ := KRG.out.ext hxq
                    have zt := cell_lt t0
                    obtain ⟨u0, u1, u2, uf⟩ := GAT.out.cell.ext hxq
                    have zu := cell_lt u0
                    have hxw := HXW.out.trans hxq
                    have HO1 := Lib.hid (owns_x GAT.out.stays hxq)
                    have HO2 := Lib.hid (owns_x GAT.out.jobs hxq)
                    clear hW hxq
                    go_wp2
                    obtain ⟨p0, p1, p2, px⟩ := put3 (w := w) (R := w.heap.size) (x := vi x0) (y := .slice g1 dl.length d1) (z := .slice g2 dj.length d2) hxw (Nat.le_refl _) t0 t1 t2
                    refine bodyPost_ret (v := .tuple #[.agg #[vi x0, .slice g1 dl.length d1, .slice g2 dj.length d2], vi 0]) (by simp [results, Tryd.results13, go_sem, p0, p1, p2]) rfl ?_
                    rw [HP1.out]
                    have zx := HX1W.out.below.size
                    refine ⟨_, _, rfl, ?_, ?_, GAT.out.apart, px⟩
                    · refine owns_base (owns_set (owns_set (owns_set HO1.out _ ?_) _ ?_) _ ?_) zx <;> (intro e; have := owns_block HO1.out _ e; (try dsimp only at this); omega)
                    · refine owns_base (owns_set (owns_set (owns_set HO2.out _ ?_) _ ?_) _ ?_) zx <;> (intro e; have := owns_block HO2.out _ e; (try dsimp only at this); omega)
                  · have HP0 : Hid (Ch.parseBook s.data.toList levels = none) := by unfold Hid; rw [HBK.out, if_neg (by rw [HF.out]; exact hbf)]
                    have hFp : 0 < F := by omega
                    clear hbf
                    go_upto_region 26 with (first | (go_at_call 10; (with_reducible refine (rfault_atP F x0 levels g1 dl.length d1 g2 dj.length d2 dl dj _ (Sl.below S1.out (Ext.below (by simp (maxDischargeDepth := 60)))) (Sl.below S2.out (Ext.below (by simp (maxDischargeDepth := 60)))) hl1 hl4 HF).mono ?_); rintro e w1 ⟨rfl, o1, n1, rfl⟩))
                    generalize hW : World.plus _ _ _ = wq
                    have hxq : Ext wr wq := by rw [← hW]; exact (by simp (maxDischargeDepth := 60))
                    obtain ⟨t0, t1, t2, tf⟩ := KRG.out.ext hxq
                    have zt := cell_lt t0
                    have hxw := HXW.out.trans hxq
                    clear hW hxq
                    go_wp2
                    obtain ⟨p0, p1, p2, px⟩ := put3 (w := w) (R := w.heap.size) (x := vi 0) (y := .slice none 0 0) (z := .slice none 0 0) hxw (Nat.le_refl _) t0 t1 t2
                    refine bodyPost_ret (v := .tuple #[.agg #[vi 0, .slice none 0 0, .slice none 0 0], vi 4]) (by simp [results, Tryd.results13, go_sem, p0, p1, p2]) rfl ?_
                    rw [HP0.out]
                    exact rparsed_bad px
        · have hbe : ((N.length : Int) == 3 + 8 * x1 + 2 * x2) = false := by simpa using hlen
          have HP0 : Hid (Ch.parseBook s.data.toList levels = none) := by
            unfold Hid; rw [HPN.out, HBN.out, if_pos (Or.inr (by rw [HX1.out, HX2.out]; exact hlen))]
          clear hlen
          go_upto_region 10 with fail
          (refine wp_region_ext (by kernel_rfl) (by kernel_rfl) ?_; (repeat (first | go_big_quiet_step (fail) | quiet_step (fail))); refine wpQuiet_nil ?_; intro _ hw'; obtain ⟨oq, nq, hw''⟩ := hw'; subst hw'')
          go_upto_region 11 with fail
          generalize hW : World.plus _ _ _ = wq
          have hxq := (show Ext wr wq by rw [← hW]; exact (by simp (maxDischargeDepth := 60)))
          obtain ⟨t0, t1, t2, tf⟩ := KRR.out.ext hxq
          have zt := cell_lt t0
          have hxw := HXR.out.trans hxq
          clear hW hxq
          go_wp2
          obtain ⟨p0, p1, p2, px⟩ := put3 (w := w) (R := w.heap.size) (x := vi 0) (y := .slice none 0 0) (z := .slice none 0 0) hxw (Nat.le_refl _) t0 t1 t2
          refine bodyPost_ret (v := .tuple #[.agg #[vi 0, .slice none 0 0, .slice none 0 0], vi 4]) (by simp [results, Tryd.results13, go_sem, p0, p1, p2]) rfl ?_
          rw [HP0.out]; exact rparsed_bad px
end Go.Proofs.YtplomeacjbkgnaaDoor
