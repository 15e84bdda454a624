/-
  The walk of the reference's BookText. (Laid by wip/mk_rtext.py.)
-/
import Derived.Test.YtplomeacjbkgnaaDoorDecimal
namespace Go.Proofs.YtplomeacjbkgnaaDoor
open Go.RowKit

/-- numbers, each behind a blank -/
def numsS : ByteArray → List Int → ByteArray
  | a, [] => a
  | a, x :: l => numsS ((a ++ spS) ++ itoaS x) l

theorem numsS_snoc : ∀ (l : List Int) (a : ByteArray) (x : Int), numsS a (l ++ [x]) = (numsS a l ++ spS) ++ itoaS x
  | [], _, _ => rfl
  | _ :: l, a, x => by rw [List.cons_append, numsS, numsS, numsS_snoc l]

theorem numsS_list : ∀ (l : List Int) (a : ByteArray), (numsS a l).data.toList = a.data.toList ++ (l.map Lib.itoa).flatMap (fun v => 32 :: v)
  | [], a => by simp [numsS]
  | x :: l, a => by
    rw [numsS, numsS_list l, ba_append, ba_append, itoaS_list]
    simp [spS]

theorem numsS_stay (a : ByteArray) (s : Ch.Stay) : numsS a (Ch.stayNums s) = a ++ stayS s := by
  apply ba_ext
  rw [numsS_list, ba_append]
  congr 1
  simp [stayS, Ch.stayNums, ba_append, itoaS_list, spS]

theorem one_text : (⟨#[32, 49]⟩ : ByteArray) = spS ++ itoaS 1 := by rw [itoaS_one (by decide) (by decide)]; rfl

theorem zero_text : (⟨#[32, 48]⟩ : ByteArray) = spS ++ itoaS 0 := by rw [itoaS_one (by decide) (by decide)]; rfl

theorem sp2_size : (⟨#[32, 49]⟩ : ByteArray).size = 2 := rfl
theorem sp3_size : (⟨#[32, 48]⟩ : ByteArray).size = 2 := rfl

set_option maxRecDepth 100000 in
set_option maxHeartbeats 4000000 in
theorem rtext_any (last : Int) (a1 : Option Addr) (m1 c1 : Nat) (a2 : Option Addr) (m2 c2 : Nat) (l : List Ch.Stay) (js : List Ch.Job) (w : World)
    (h : Sl w 8 stayCells l a1 m1 c1) (h2 : Sl w 2 jobCells js a2 m2 c2) (hr : ∀ k ∈ Ch.bookNums ⟨last, l, js⟩, 0 ≤ k ∧ k ≤ 999999) :
    Calls Tryd.prog 16 #[bookA last a1 m1 c1 a2 m2 c2] w fun e w' => e = .returned (.string (textS ⟨last, l, js⟩)) ∧ Ext w w' := by
  have b1 := h.bound
  have b2 := h2.bound
  have HF := Lib.hid h
  have HJ := Lib.hid h2
  have E1 := Lib.hid h.len
  have E2 := Lib.hid h2.len
  have HR := Lib.hid hr
  have N0 : Hid (0 ≤ last ∧ last ≤ 999999) := hr last (by simp [Ch.bookNums])
  have N1 : Hid (0 ≤ (m1 : Int) ∧ (m1 : Int) ≤ 999999) := by rw [← h.len]; exact hr _ (by simp [Ch.bookNums])
  have N2 : Hid (0 ≤ (m2 : Int) ∧ (m2 : Int) ≤ 999999) := by rw [← h2.len]; exact hr _ (by simp [Ch.bookNums])
  have M1 := Lib.hid (show m1 ≤ 999999 by have := N1.out; omega)
  have M2 := Lib.hid (show m2 ≤ 999999 by have := N2.out; omega)
  clear h h2 hr
  go_enter Tryd.func16, Tryd.ntmps16
  go_upto_region 1 with fail
  generalize hW : World.alloc _ _ = w0
  have k0 : w0.cell? ⟨w.heap.size, 0, none⟩ = some (vi last) := by rw [← hW]; simp [go_sem]
  have k1 : w0.cell? ⟨w.heap.size, 1, none⟩ = some (.slice a1 m1 c1) := by rw [← hW]; simp [go_sem]
  have k2 : w0.cell? ⟨w.heap.size, 2, none⟩ = some (.slice a2 m2 c2) := by rw [← hW]; simp [go_sem]
  have hx : Ext w w0 := by rw [← hW]; exact (by simp (maxDischargeDepth := 60))
  have HX := Lib.hid hx
  have G1 := Lib.hid (Sl.below HF.out hx.below)
  have G2 := Lib.hid (Sl.below HJ.out hx.below)
  have z1 := cell_lt k0
  clear hW hx HF HJ
  have y0 := itoaS_size N0.out
  have y1 := itoaS_size N1.out
  have y2 := itoaS_size N2.out
  obtain ⟨t1, et1⟩ : ∃ c, c = itoaS last ++ (⟨#[32]⟩ : ByteArray) := ⟨_, rfl⟩
  have zt1 : t1.size = (itoaS last).size + (⟨#[32]⟩ : ByteArray).size := by rw [et1, ByteArray.size_append]
  have rt1 := cat_run (itoaS last) (⟨#[32]⟩ : ByteArray) t1 et1 (by have := sp_size; omega)
  replace et1 := Lib.hid et1
  obtain ⟨t2, et2⟩ : ∃ c, c = t1 ++ itoaS (m1 : Int) := ⟨_, rfl⟩
  have zt2 : t2.size = t1.size + (itoaS (m1 : Int)).size := by rw [et2, ByteArray.size_append]
  have rt2 := cat_run t1 (itoaS (m1 : Int)) t2 et2 (by have := sp_size; omega)
  replace et2 := Lib.hid et2
  obtain ⟨t3, et3⟩ : ∃ c, c = t2 ++ (⟨#[32]⟩ : ByteArray) := ⟨_, rfl⟩
  have zt3 : t3.size = t2.size + (⟨#[32]⟩ : ByteArray).size := by rw [et3, ByteArray.size_append]
  have rt3 := cat_run t2 (⟨#[32]⟩ : ByteArray) t3 et3 (by have := sp_size; omega)
  replace et3 := Lib.hid et3
  obtain ⟨t4, et4⟩ : ∃ c, c = t3 ++ itoaS (m2 : Int) := ⟨_, rfl⟩
  have zt4 : t4.size = t3.size + (itoaS (m2 : Int)).size := by rw [et4, ByteArray.size_append]
  have rt4 := cat_run t3 (itoaS (m2 : Int)) t4 et4 (by have := sp_size; omega)
  replace et4 := Lib.hid et4
  have HH : Hid (t4 = headS last m1 m2) := by
    show t4 = _
    rw [et4.out, et3.out, et2.out, et1.out]; rfl
  have HS : Hid (t4.size ≤ 30) := by show t4.size ≤ 30; have := sp_size; omega
  clear zt1 zt2 zt3 zt4 et1 et2 et3 et4 y0 y1 y2
  (refine wp_region_ext (by kernel_rfl) (by kernel_rfl) ?_; (repeat (first | go_big_quiet_step ((intro _; go_at_call 30; exact ext_callG (decimal_any _ _ (by assumption)) (by rintro w' ⟨o', n', rfl⟩; exact ⟨_, n', by first | (simp only [plus_plus]; rfl) | (simp only [plus_plus, Array.append_assoc]; rfl) | rfl⟩))) | quiet_step ((intro _; go_at_call 30; exact ext_callG (decimal_any _ _ (by assumption)) (by rintro w' ⟨o', n', rfl⟩; exact ⟨_, n', by first | (simp only [plus_plus]; rfl) | (simp only [plus_plus, Array.append_assoc]; rfl) | rfl⟩))))); refine wpQuiet_nil ?_; intro _ hw'; obtain ⟨oq, nq, hw''⟩ := hw'; subst hw'')
  clear rt1 rt2 rt3 rt4
  go_wp2
  go_loopw [3, 4] (fun v i wr => ∃ (k : Nat) (T : ByteArray), k ≤ m1 ∧ i = .int .i64 k ∧ v = .string T ∧ Hid (T = staysS (headS last m1 m2) (l.take k) ∧ T.size ≤ 30 + 60 * k) ∧ Ext w0 wr) (fun _ i _ => m1 - (intOf i).toNat)
  case atStart => exact ⟨0, t4, by omega, rfl, rfl, ⟨by rw [HH.out]; rfl, by have := HS.out; omega⟩, (by simp (maxDischargeDepth := 60))⟩
  case round =>
    obtain ⟨k, T, hk, rfl, rfl, HV, o, m, rfl⟩ := hrel
    by_cases hlt : k < m1
    · obtain ⟨b, q, s, rfl, hs, ds⟩ := G1.out.get hlt
      have ds := at8 ds
      have hq0 := cell_lt ds.1
      have hn := Lib.hid (num_stay HR.out hs)
      have HSS := Lib.hid hs
      obtain ⟨x0, ⟨x1, ⟨x2, x3, x4⟩⟩, ⟨x5, x6, x7⟩⟩ := s
      dsimp only at ds
      have hkj : (k : Int) < (m1 : Int) := by omega
      clear hs
      go_upto_region 6 with fail
      go_upto_region 7 with fail
      generalize hW : World.alloc _ _ = wd
      generalize hD : w0.heap.size + _ = D
      have hxd : Ext w0 wd := by rw [← hW]; exact (by simp (maxDischargeDepth := 60))
      have s0 : wd.cell? ⟨D + 1, 0, none⟩ = some (vi x0) := by rw [← hW, ← hD]; simp [go_sem]
      have s1 : wd.cell? ⟨D + 1, 1, none⟩ = some (vi x1) := by rw [← hW, ← hD]; simp [go_sem]
      have s2 : wd.cell? ⟨D + 1, 2, none⟩ = some (vi x2) := by rw [← hW, ← hD]; simp [go_sem]
      have s3 : wd.cell? ⟨D + 1, 3, none⟩ = some (vi x3) := by rw [← hW, ← hD]; simp [go_sem]
      have s4 : wd.cell? ⟨D + 1, 4, none⟩ = some (vi x4) := by rw [← hW, ← hD]; simp [go_sem]
      have s5 : wd.cell? ⟨D + 1, 5, none⟩ = some (vi x5) := by rw [← hW, ← hD]; simp [go_sem]
      have s6 : wd.cell? ⟨D + 1, 6, none⟩ = some (vi x6) := by rw [← hW, ← hD]; simp [go_sem]
      have s7 : wd.cell? ⟨D + 1, 7, none⟩ = some (vi x7) := by rw [← hW, ← hD]; simp [go_sem]
      have zd := cell_lt s0
      obtain ⟨N, hN⟩ : ∃ N, N = [x0, x1, x2, x3, x4, x5, x6, x7] := ⟨_, rfl⟩
      have hc : ∀ j, j < 8 → wd.cell? ⟨D + 1, j, none⟩ = some (vi (N.getD j 0)) := by
        intro j hj
        subst hN
        match j, hj with
        | 0, _ => exact s0
        | 1, _ => exact s1
        | 2, _ => exact s2
        | 3, _ => exact s3
        | 4, _ => exact s4
        | 5, _ => exact s5
        | 6, _ => exact s6
        | 7, _ => exact s7
      have HN : Hid (N.length = 8 ∧ (∀ x ∈ N, 0 ≤ x ∧ x ≤ 999999) ∧ numsS T N = T ++ stayS ⟨x0, ⟨x1, ⟨x2, x3, x4⟩⟩, ⟨x5, x6, x7⟩⟩) := by
        subst hN
        exact ⟨rfl, hn.out, numsS_stay T ⟨x0, ⟨x1, ⟨x2, x3, x4⟩⟩, ⟨x5, x6, x7⟩⟩⟩
      have HC := Lib.hid hc
      have HXD := Lib.hid hxd
      clear hW hD hxd ds hq0 hc hN hn s0 s1 s2 s3 s4 s5 s6 s7
      go_wp2
      go_loopw [3, 7] (fun v i wr => ∃ (j : Nat) (V : ByteArray), j ≤ 8 ∧ i = .int .i64 j ∧ v = .string V ∧ Hid (V = numsS T (N.take j) ∧ V.size ≤ 30 + 60 * k + 7 * j) ∧ Ext wd wr) (fun _ i _ => 8 - (intOf i).toNat)
      case atStart => exact ⟨0, T, by omega, rfl, rfl, ⟨rfl, by have := HV.out; omega⟩, (by simp (maxDischargeDepth := 60))⟩
      case round =>
        obtain ⟨j, V, hj, rfl, rfl, HW, o', m', rfl⟩ := hrel
        by_cases hl8 : j < 8
        · have hj8 : (j : Int) < 8 := by omega
          have dx := HC.out j hl8
          obtain ⟨x, hx⟩ : ∃ x, N.getD j 0 = x := ⟨_, rfl⟩
          rw [hx] at dx
          have PX : Hid (0 ≤ x ∧ x ≤ 999999) := by
            have h1 := HN.out
            have : N[j]? = some x := by
              rw [List.getD_eq_getElem?_getD, List.getElem?_eq_getElem (by omega)] at hx
              rw [List.getElem?_eq_getElem (by omega)]; exact congrArg some hx
            exact h1.2.1 x (List.mem_of_getElem? this)
          have HXJ : Hid (N.take (j + 1) = N.take j ++ [x]) := by
            have h1 := HN.out
            refine take_at ?_
            rw [List.getD_eq_getElem?_getD, List.getElem?_eq_getElem (by omega)] at hx
            rw [List.getElem?_eq_getElem (by omega)]; exact congrArg some hx
          have yx := itoaS_size PX.out
          have zV := HW.out.2
          have mM := M1.out
          clear hx
          obtain ⟨u1, eu1⟩ : ∃ c, c = V ++ (⟨#[32]⟩ : ByteArray) := ⟨_, rfl⟩
          have zu1 : u1.size = V.size + (⟨#[32]⟩ : ByteArray).size := by rw [eu1, ByteArray.size_append]
          have ru1 := cat_run V (⟨#[32]⟩ : ByteArray) u1 eu1 (by have := sp_size; omega)
          replace eu1 := Lib.hid eu1
          obtain ⟨tt, ett⟩ : ∃ c, c = u1 ++ (itoaS x) := ⟨_, rfl⟩
          have ztt : tt.size = u1.size + (itoaS x).size := by rw [ett, ByteArray.size_append]
          have rtt := cat_run u1 (itoaS x) tt ett (by have := sp_size; omega)
          replace ett := Lib.hid ett
          have HZ : Hid (tt.size ≤ 30 + 60 * k + 7 * (j + 1)) := by
            show tt.size ≤ 30 + 60 * k + 7 * (j + 1)
            have := sp_size
            omega
          clear zu1 ztt zV mM yx
          go_wp2_with (first | (go_at_call 30; (with_reducible refine (decimal_any _ _ PX).mono ?_); rintro e w1 ⟨rfl, o1, n1, rfl⟩))
          go_roundw
          case rel =>
            refine ⟨j + 1, tt, by omega, by go_num, rfl, ⟨?_, HZ.out⟩, (by simp (maxDischargeDepth := 60))⟩
            rw [ett.out, eu1.out, HXJ.out, numsS_snoc, HW.out.1]; rfl
          case measure => simp [intOf]; omega
        · have hjn : j = 8 := by omega
          subst hjn
          have HV3 : Hid (V = staysS (headS last m1 m2) (l.take (k + 1)) ∧ V.size ≤ 30 + 60 * (k + 1)) := by
            refine ⟨?_, by have := HW.out.2; omega⟩
            rw [take_at HSS.out, staysS_snoc, ← HV.out.1, ← HN.out.2.2]
            have := HW.out.1
            rw [List.take_of_length_le (by have := HN.out.1; omega)] at this
            exact this
          go_wp2
          go_roundw
          case rel =>
            exact ⟨k + 1, V, by omega, by go_num, rfl, HV3, HXD.out.trans (by simp (maxDischargeDepth := 60))⟩
          case measure => simp [intOf]; omega
    · have hkn : k = m1 := by omega
      subst hkn
      have HV2 : Hid (T = staysS (headS last k m2) l ∧ T.size ≤ 30 + 60 * k) := by
        have := HV.out
        rw [List.take_of_length_le (by rw [E1.out]; omega)] at this
        exact this
      clear HV
      go_wp2
      go_loopw [3, 8] (fun v i wr => ∃ (j : Nat) (V : ByteArray), j ≤ m2 ∧ i = .int .i64 j ∧ v = .string V ∧ Hid (V = jobsS T (js.take j) ∧ V.size ≤ 30 + 60 * k + 20 * j) ∧ Ext w0 wr) (fun _ i _ => m2 - (intOf i).toNat)
      case atStart => exact ⟨0, T, by omega, rfl, rfl, ⟨rfl, by have := HV2.out.2; omega⟩, (by simp (maxDischargeDepth := 60))⟩
      case round =>
        obtain ⟨j, V, hj, rfl, rfl, HV, o', m', rfl⟩ := hrel
        by_cases hlt : j < m2
        · obtain ⟨b, q, s, rfl, hs, ds⟩ := G2.out.get hlt
          have ds := at2 ds
          have hq0 := cell_lt ds.1
          have hn := num_job HR.out hs
          have HSS := Lib.hid hs
          obtain ⟨x0, f⟩ := s
          dsimp only at ds
          have hkj : (j : Int) < (m2 : Int) := by omega
          have P0 : Hid (0 ≤ x0 ∧ x0 ≤ 999999) := hn x0 (by simp [Ch.jobNums])
          have y0 := itoaS_size P0.out
          clear hs hn
          have zT := HV.out.2
          have mM := M1.out
          have mN := M2.out
          obtain ⟨u1, eu1⟩ : ∃ c, c = V ++ (⟨#[32]⟩ : ByteArray) := ⟨_, rfl⟩
          have zu1 : u1.size = V.size + (⟨#[32]⟩ : ByteArray).size := by rw [eu1, ByteArray.size_append]
          have ru1 := cat_run V (⟨#[32]⟩ : ByteArray) u1 eu1 (by have := sp_size; omega)
          replace eu1 := Lib.hid eu1
          obtain ⟨u2, eu2⟩ : ∃ c, c = u1 ++ (itoaS x0) := ⟨_, rfl⟩
          have zu2 : u2.size = u1.size + (itoaS x0).size := by rw [eu2, ByteArray.size_append]
          have ru2 := cat_run u1 (itoaS x0) u2 eu2 (by have := sp_size; omega)
          replace eu2 := Lib.hid eu2
          cases f
          · obtain ⟨tt, ett⟩ : ∃ c, c = u2 ++ (⟨#[32, 48]⟩ : ByteArray) := ⟨_, rfl⟩
            have ztt : tt.size = u2.size + (⟨#[32, 48]⟩ : ByteArray).size := by rw [ett, ByteArray.size_append]
            have rtt := cat_run u2 (⟨#[32, 48]⟩ : ByteArray) tt ett (by have := sp_size; have := sp3_size; omega)
            replace ett := Lib.hid ett
            have HZ : Hid (tt.size ≤ 30 + 60 * k + 20 * (j + 1)) := by
              show tt.size ≤ 30 + 60 * k + 20 * (j + 1)
              have := sp_size
              have := sp3_size
              omega
            have HU : Hid (tt = V ++ jobS ⟨x0, false⟩) := by
              show tt = _
              rw [ett.out, eu2.out, eu1.out, zero_text]
              apply ba_ext
              simp [jobS, ba_append, spS]
            clear zu1 zu2 ztt eu1 eu2 zT mM mN y0
            go_wp2_with (first | (go_at_call 30; (with_reducible refine (decimal_any _ _ (by assumption)).mono ?_); rintro e w1 ⟨rfl, o1, n1, rfl⟩))
            go_roundw
            case rel =>
              refine ⟨j + 1, tt, by omega, by go_num, rfl, ⟨?_, HZ.out⟩, (by simp (maxDischargeDepth := 60))⟩
              rw [HU.out, take_at HSS.out, jobsS_snoc, HV.out.1]
            case measure => simp [intOf]; omega
          · obtain ⟨tt, ett⟩ : ∃ c, c = u2 ++ (⟨#[32, 49]⟩ : ByteArray) := ⟨_, rfl⟩
            have ztt : tt.size = u2.size + (⟨#[32, 49]⟩ : ByteArray).size := by rw [ett, ByteArray.size_append]
            have rtt := cat_run u2 (⟨#[32, 49]⟩ : ByteArray) tt ett (by have := sp_size; have := sp2_size; omega)
            replace ett := Lib.hid ett
            have HZ : Hid (tt.size ≤ 30 + 60 * k + 20 * (j + 1)) := by
              show tt.size ≤ 30 + 60 * k + 20 * (j + 1)
              have := sp_size
              have := sp2_size
              omega
            have HU : Hid (tt = V ++ jobS ⟨x0, true⟩) := by
              show tt = _
              rw [ett.out, eu2.out, eu1.out, one_text]
              apply ba_ext
              simp [jobS, ba_append, spS]
            clear zu1 zu2 ztt eu1 eu2 zT mM mN y0
            go_wp2_with (first | (go_at_call 30; (with_reducible refine (decimal_any _ _ (by assumption)).mono ?_); rintro e w1 ⟨rfl, o1, n1, rfl⟩))
            go_roundw
            case rel =>
              refine ⟨j + 1, tt, by omega, by go_num, rfl, ⟨?_, HZ.out⟩, (by simp (maxDischargeDepth := 60))⟩
              rw [HU.out, take_at HSS.out, jobsS_snoc, HV.out.1]
            case measure => simp [intOf]; omega
        · have hjn : j = m2 := by omega
          subst hjn
          go_wp2
          go_ret
          refine ⟨?_, HX.out.trans (by simp (maxDischargeDepth := 60))⟩
          show Ending.returned (Value.string V) = _
          unfold textS
          dsimp only
          rw [E1.out, E2.out, ← HV2.out.1]
          have := HV.out.1
          rw [List.take_of_length_le (by rw [E2.out]; omega)] at this
          rw [← this]
end Go.Proofs.YtplomeacjbkgnaaDoor
