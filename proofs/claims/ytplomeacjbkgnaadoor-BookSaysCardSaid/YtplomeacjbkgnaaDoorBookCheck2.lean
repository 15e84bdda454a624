/-
  The walk of book.Check: a book's fault.
-/
import Derived.Test.YtplomeacjbkgnaaDoorBookCheck
import Derived.Test.YtplomeacjbkgnaaDoorBookLaw
namespace Go.Proofs.YtplomeacjbkgnaaDoor
open Go.RowKit

theorem jobs_at (st : List Ch.Stay) {l : List Ch.Job} {k : Nat} {j : Ch.Job} (hj : l[k]? = some j) :
    Ch.jobsFault st (l.take k) (l.drop k) = if (st.any fun s => s.ticket == j.ticket) = false ∨ j ∈ l.take k then 3 else Ch.jobsFault st (l.take (k + 1)) (l.drop (k + 1)) := by
  have hk : k < l.length := by
    by_cases h : k < l.length
    · exact h
    · rw [List.getElem?_eq_none (by omega)] at hj; cases hj
  rw [List.drop_eq_getElem_cons hk, List.take_add_one, hj]
  rw [List.getElem?_eq_getElem hk] at hj
  cases hj
  rfl

theorem index_none {l : List Ch.Stay} {p : Ch.Stay → Bool} (h : l.any p = false) : Ch.indexOf p l = -1 := by
  unfold Ch.indexOf
  have : l.findIdx? p = none := by
    rw [List.findIdx?_eq_none_iff]
    intro x hx
    have h2 := List.any_eq_false.1 h x hx
    simpa using h2
  rw [this]

theorem index_some {l : List Ch.Stay} {p : Ch.Stay → Bool} (h : l.any p = true) : ∃ i : Nat, Ch.indexOf p l = i := by
  unfold Ch.indexOf
  cases h2 : l.findIdx? p with
  | none =>
    rw [List.findIdx?_eq_none_iff] at h2
    obtain ⟨x, hx, hp⟩ := List.any_eq_true.1 h
    have := h2 x hx
    rw [hp] at this
    cases this
  | some i => exact ⟨i, rfl⟩

theorem find_at (fi last t : Int) (a1 : Option Addr) (m1 c1 : Nat) (a2 : Option Addr) (m2 c2 : Nat) (l : List Ch.Stay) (w : World) (h : Sl w 8 stayCells l a1 m1 c1) (hf : Hid (Ch.indexOf (fun s => s.ticket == t) l = fi)) :
    Calls Tryd.prog 18 #[bookA last a1 m1 c1 a2 m2 c2, vi t] w fun e w' => e = .returned (vi fi) ∧ Ext w w' := by
  have := find_any last t a1 m1 c1 a2 m2 c2 l w h
  rw [hf.out] at this
  exact this

theorem containsJob_at (bb : Bool) (a : Option Addr) (n cap : Nat) (l : List Ch.Job) (t : Int) (f : Bool) (w : World) (h : Sl w 2 jobCells l a n cap) (hb : Hid (decide ((⟨t, f⟩ : Ch.Job) ∈ l) = bb)) :
    Calls Tryd.prog 25 #[.slice a n cap, .agg #[vi t, .bool f]] w fun e w' => e = .returned (.bool bb) ∧ Ext w w' := by
  have := containsJob_any a n cap l t f w h
  rw [hb.out] at this
  exact this

set_option maxRecDepth 100000 in
set_option maxHeartbeats 4000000 in
theorem bookcheck_any (last levels : Int) (a1 : Option Addr) (m1 c1 : Nat) (a2 : Option Addr) (m2 c2 : Nat) (l : List Ch.Stay) (js : List Ch.Job) (w : World) (h : Sl w 8 stayCells l a1 m1 c1) (h2 : Sl w 2 jobCells js a2 m2 c2) (hl4 : levels ≤ 4) :
    Calls Tryd.prog 11 #[bookA last a1 m1 c1 a2 m2 c2, vi levels] w fun e w' => e = .returned (errV (Ch.bookFault ⟨last, l, js⟩ levels)) ∧ Ext w w' := by
  have b1 := h.bound
  have b2 := h2.bound
  have HF := Lib.hid h
  have HJ := Lib.hid h2
  have E1 := Lib.hid h.len
  have E2 := Lib.hid h2.len
  clear h h2
  by_cases hl : last < 0 ∨ 999999 < last
  · have HB : Hid (Ch.bookFault ⟨last, l, js⟩ levels = 1) := by unfold Hid Ch.bookFault; rw [if_pos hl]
    by_cases hl1 : last < 0
    · clear hl
      go_enter Tryd.func11, Tryd.ntmps11
      go_wp2
      go_ret
      exact ⟨by rw [HB.out]; rfl, (by simp (maxDischargeDepth := 60))⟩
    · have hl2 : 999999 < last := by omega
      clear hl
      go_enter Tryd.func11, Tryd.ntmps11
      go_wp2
      go_ret
      exact ⟨by rw [HB.out]; rfl, (by simp (maxDischargeDepth := 60))⟩
  · have hl1 : 0 ≤ last := by omega
    have hl2 : last ≤ 999999 := by omega
    by_cases hm : 16 < m1 ∨ 8 < m2
    · have HB : Hid (Ch.bookFault ⟨last, l, js⟩ levels = 2) := by unfold Hid Ch.bookFault; rw [if_neg hl]; dsimp only; rw [E1.out, E2.out, if_pos hm]
      by_cases hm1 : 16 < m1
      · have hm1' : (16 : Int) < (m1 : Int) := by omega
        clear hl hm
        go_enter Tryd.func11, Tryd.ntmps11
        go_wp2
        go_ret
        exact ⟨by rw [HB.out]; rfl, (by simp (maxDischargeDepth := 60))⟩
      · have hm1' : (m1 : Int) ≤ 16 := by omega
        have hm2' : (8 : Int) < (m2 : Int) := by omega
        clear hl hm
        go_enter Tryd.func11, Tryd.ntmps11
        go_wp2
        go_ret
        exact ⟨by rw [HB.out]; rfl, (by simp (maxDischargeDepth := 60))⟩
    · have hm1' : (m1 : Int) ≤ 16 := by omega
      have hm2' : (m2 : Int) ≤ 8 := by omega
      by_cases hs : Ch.staysFault levels last [] l = 0
      · have HB : Hid (Ch.bookFault ⟨last, l, js⟩ levels = Ch.jobsFault l [] js) := by
          unfold Hid Ch.bookFault; rw [if_neg hl]; dsimp only; rw [E1.out, E2.out, if_neg hm, if_neg (by rw [hs]; decide)]
        have HE : Hid (errV (Ch.staysFault levels last [] l) = .nilIface) := by unfold Hid; rw [hs]; rfl
        clear hl hm hs
        go_enter Tryd.func11, Tryd.ntmps11
        go_wp2_with (go_at_call 24; (with_reducible refine (bookstays_any last levels a1 m1 c1 a2 m2 c2 l _ (Sl.below HF.out (Ext.below (by simp (maxDischargeDepth := 60)))) hl4).mono ?_); rintro e w1 ⟨he, oS, nS, rfl⟩; rw [HE.out] at he; subst he)
        generalize hW : World.plus _ _ _ = w0
        have k0 : w0.cell? ⟨w.heap.size, 0, none⟩ = some (vi last) := by rw [← hW]; simp [go_sem]
        have k1 : w0.cell? ⟨w.heap.size, 1, none⟩ = some (.slice a1 m1 c1) := by rw [← hW]; simp [go_sem]
        have k2 : w0.cell? ⟨w.heap.size, 2, none⟩ = some (.slice a2 m2 c2) := by rw [← hW]; simp [go_sem]
        have hx : Ext w w0 := by rw [← hW]; exact (by simp (maxDischargeDepth := 60))
        have HS := Lib.hid (Sl.below HF.out hx.below)
        have HK := Lib.hid (Sl.below HJ.out hx.below)
        have HX := Lib.hid hx
        have z1 := cell_lt k0
        clear hW hx HF HJ
        go_loopw [37] (fun i wr => ∃ k : Nat, k ≤ m2 ∧ i = .int .i64 k ∧ Hid (Ch.jobsFault l [] js = Ch.jobsFault l (js.take k) (js.drop k)) ∧ Ext w0 wr) (fun i _ => m2 - (intOf i).toNat)
        case atStart => exact ⟨0, by omega, rfl, by simp [Hid], (by simp (maxDischargeDepth := 60))⟩
        case round =>
          obtain ⟨k, hk, rfl, HT, o, m, rfl⟩ := hrel
          by_cases hlt : k < m2
          · obtain ⟨b, q, j, rfl, hj, dj⟩ := HK.out.get hlt
            have dj := at2 dj
            have hq := cell_lt dj.1
            obtain ⟨t, f⟩ := j
            dsimp only at dj
            have HJJ := Lib.hid hj
            have hk0 : (0 : Int) ≤ (k : Int) := by omega
            have hk1 : (k : Int) ≤ (m2 : Int) := by omega
            have hk2 : (k : Int) ≤ (c2 : Int) := by omega
            clear hj
            have HA : Hid (Ch.jobsFault l (js.take k) (js.drop k) = if (l.any fun s => s.ticket == t) = false ∨ (⟨t, f⟩ : Ch.Job) ∈ js.take k then 3 else Ch.jobsFault l (js.take (k + 1)) (js.drop (k + 1))) := jobs_at l HJJ.out
            cases ha : (l.any fun s => s.ticket == t)
            · have HI : Hid (Ch.indexOf (fun s : Ch.Stay => s.ticket == t) l = -1) := index_none ha
              have HR : Hid (Ch.jobsFault l (js.take k) (js.drop k) = 3) := by unfold Hid; rw [HA.out, if_pos (Or.inl ha)]
              clear ha
              go_upto_region 11 with fail
              generalize hW : World.alloc _ _ = w3
              have f0 : w3.cell? ⟨w0.heap.size + o.size, 0, none⟩ = some (vi t) := by rw [← hW]; simp [go_sem]
              have f1 : w3.cell? ⟨w0.heap.size + o.size, 1, none⟩ = some (.bool f) := by rw [← hW]; simp [go_sem]
              have hx3 : Ext w0 w3 := by rw [← hW]; exact (by simp (maxDischargeDepth := 60))
              have HX3 := Lib.hid hx3
              have g0 := ext_cell hx3 k0
              have g1 := ext_cell hx3 k1
              have g2 := ext_cell hx3 k2
              have gz := cell_lt f0
              have gz0 := cell_lt g0
              clear hW hx3
              (refine wp_region_ext (by kernel_rfl) (by kernel_rfl) ?_; (repeat (first | go_big_quiet_step ((first | (intro _; go_at_call 18; exact ext_callG (find_at (-1) _ _ _ _ _ _ _ _ l _ (Sl.below HS.out (HX3.out.trans (by simp (maxDischargeDepth := 60))).below) HI) (by rintro w' ⟨o', n', rfl⟩; exact ⟨_, n', by first | (simp only [plus_plus]; rfl) | (simp only [plus_plus, Array.append_assoc]; rfl) | rfl⟩)))) | quiet_step ((first | (intro _; go_at_call 18; exact ext_callG (find_at (-1) _ _ _ _ _ _ _ _ l _ (Sl.below HS.out (HX3.out.trans (by simp (maxDischargeDepth := 60))).below) HI) (by rintro w' ⟨o', n', rfl⟩; exact ⟨_, n', by first | (simp only [plus_plus]; rfl) | (simp only [plus_plus, Array.append_assoc]; rfl) | rfl⟩)))))); refine wpQuiet_nil ?_; intro _ hw'; obtain ⟨oq, nq, hw''⟩ := hw'; subst hw'')
              go_wp2
              go_ret
              exact ⟨by rw [HB.out, HT.out, HR.out]; rfl, (HX.out.trans HX3.out).trans (by simp (maxDischargeDepth := 60))⟩
            · obtain ⟨fi, hfi⟩ := index_some ha
              have HI : Hid (Ch.indexOf (fun s : Ch.Stay => s.ticket == t) l = (fi : Int)) := hfi
              have HAY := Lib.hid ha
              have hfi0 : ¬ ((fi : Int) < 0) := by omega
              clear ha hfi
              cases hc : decide ((⟨t, f⟩ : Ch.Job) ∈ js.take k)
              · have HC := Lib.hid hc
                have HR : Hid (Ch.jobsFault l (js.take k) (js.drop k) = Ch.jobsFault l (js.take (k + 1)) (js.drop (k + 1))) := by
                  unfold Hid; rw [HA.out, if_neg]
                  rintro (h1 | h1)
                  · rw [HAY.out] at h1; cases h1
                  · exact of_decide_eq_false hc h1
                clear hc
                go_upto_region 11 with fail
                generalize hW : World.alloc _ _ = w3
                have f0 : w3.cell? ⟨w0.heap.size + o.size, 0, none⟩ = some (vi t) := by rw [← hW]; simp [go_sem]
                have f1 : w3.cell? ⟨w0.heap.size + o.size, 1, none⟩ = some (.bool f) := by rw [← hW]; simp [go_sem]
                have hx3 : Ext w0 w3 := by rw [← hW]; exact (by simp (maxDischargeDepth := 60))
                have HX3 := Lib.hid hx3
                have g0 := ext_cell hx3 k0
                have g1 := ext_cell hx3 k1
                have g2 := ext_cell hx3 k2
                have gz := cell_lt f0
                have gz0 := cell_lt g0
                clear hW hx3
                (refine wp_region_ext (by kernel_rfl) (by kernel_rfl) ?_; (repeat (first | go_big_quiet_step ((first | (intro _; go_at_call 18; exact ext_callG (find_at (fi : Int) _ _ _ _ _ _ _ _ l _ (Sl.below HS.out (HX3.out.trans (by simp (maxDischargeDepth := 60))).below) HI) (by rintro w' ⟨o', n', rfl⟩; exact ⟨_, n', by first | (simp only [plus_plus]; rfl) | (simp only [plus_plus, Array.append_assoc]; rfl) | rfl⟩)) | (intro _; go_at_call 25; exact ext_callG (containsJob_at false _ _ _ (js.take k) _ _ _ (sl_takeB (Sl.below HK.out (HX3.out.trans (by simp (maxDischargeDepth := 60))).below) (by omega)) HC) (by rintro w' ⟨o', n', rfl⟩; exact ⟨_, n', by first | (simp only [plus_plus]; rfl) | (simp only [plus_plus, Array.append_assoc]; rfl) | rfl⟩)))) | quiet_step ((first | (intro _; go_at_call 18; exact ext_callG (find_at (fi : Int) _ _ _ _ _ _ _ _ l _ (Sl.below HS.out (HX3.out.trans (by simp (maxDischargeDepth := 60))).below) HI) (by rintro w' ⟨o', n', rfl⟩; exact ⟨_, n', by first | (simp only [plus_plus]; rfl) | (simp only [plus_plus, Array.append_assoc]; rfl) | rfl⟩)) | (intro _; go_at_call 25; exact ext_callG (containsJob_at false _ _ _ (js.take k) _ _ _ (sl_takeB (Sl.below HK.out (HX3.out.trans (by simp (maxDischargeDepth := 60))).below) (by omega)) HC) (by rintro w' ⟨o', n', rfl⟩; exact ⟨_, n', by first | (simp only [plus_plus]; rfl) | (simp only [plus_plus, Array.append_assoc]; rfl) | rfl⟩)))))); refine wpQuiet_nil ?_; intro _ hw'; obtain ⟨oq, nq, hw''⟩ := hw'; subst hw'')
                go_wp2
                go_roundw
                case rel => first | exact ⟨k + 1, by omega, by go_num, by unfold Hid; rw [HT.out, HR.out], HX3.out.trans (by simp (maxDischargeDepth := 60))⟩ | (repeat apply Exists.intro; refine ⟨?_, rfl⟩; exact ⟨k + 1, by omega, by go_num, by unfold Hid; rw [HT.out, HR.out], HX3.out.trans (by simp (maxDischargeDepth := 60))⟩)
                case measure => simp [intOf]; omega
              · have HC := Lib.hid hc
                have HR : Hid (Ch.jobsFault l (js.take k) (js.drop k) = 3) := by unfold Hid; rw [HA.out, if_pos (Or.inr (of_decide_eq_true hc))]
                clear hc
                go_upto_region 11 with fail
                generalize hW : World.alloc _ _ = w3
                have f0 : w3.cell? ⟨w0.heap.size + o.size, 0, none⟩ = some (vi t) := by rw [← hW]; simp [go_sem]
                have f1 : w3.cell? ⟨w0.heap.size + o.size, 1, none⟩ = some (.bool f) := by rw [← hW]; simp [go_sem]
                have hx3 : Ext w0 w3 := by rw [← hW]; exact (by simp (maxDischargeDepth := 60))
                have HX3 := Lib.hid hx3
                have g0 := ext_cell hx3 k0
                have g1 := ext_cell hx3 k1
                have g2 := ext_cell hx3 k2
                have gz := cell_lt f0
                have gz0 := cell_lt g0
                clear hW hx3
                (refine wp_region_ext (by kernel_rfl) (by kernel_rfl) ?_; (repeat (first | go_big_quiet_step ((first | (intro _; go_at_call 18; exact ext_callG (find_at (fi : Int) _ _ _ _ _ _ _ _ l _ (Sl.below HS.out (HX3.out.trans (by simp (maxDischargeDepth := 60))).below) HI) (by rintro w' ⟨o', n', rfl⟩; exact ⟨_, n', by first | (simp only [plus_plus]; rfl) | (simp only [plus_plus, Array.append_assoc]; rfl) | rfl⟩)) | (intro _; go_at_call 25; exact ext_callG (containsJob_at true _ _ _ (js.take k) _ _ _ (sl_takeB (Sl.below HK.out (HX3.out.trans (by simp (maxDischargeDepth := 60))).below) (by omega)) HC) (by rintro w' ⟨o', n', rfl⟩; exact ⟨_, n', by first | (simp only [plus_plus]; rfl) | (simp only [plus_plus, Array.append_assoc]; rfl) | rfl⟩)))) | quiet_step ((first | (intro _; go_at_call 18; exact ext_callG (find_at (fi : Int) _ _ _ _ _ _ _ _ l _ (Sl.below HS.out (HX3.out.trans (by simp (maxDischargeDepth := 60))).below) HI) (by rintro w' ⟨o', n', rfl⟩; exact ⟨_, n', by first | (simp only [plus_plus]; rfl) | (simp only [plus_plus, Array.append_assoc]; rfl) | rfl⟩)) | (intro _; go_at_call 25; exact ext_callG (containsJob_at true _ _ _ (js.take k) _ _ _ (sl_takeB (Sl.below HK.out (HX3.out.trans (by simp (maxDischargeDepth := 60))).below) (by omega)) HC) (by rintro w' ⟨o', n', rfl⟩; exact ⟨_, n', by first | (simp only [plus_plus]; rfl) | (simp only [plus_plus, Array.append_assoc]; rfl) | rfl⟩)))))); refine wpQuiet_nil ?_; intro _ hw'; obtain ⟨oq, nq, hw''⟩ := hw'; subst hw'')
                go_wp2
                go_ret
                exact ⟨by rw [HB.out, HT.out, HR.out]; rfl, (HX.out.trans HX3.out).trans (by simp (maxDischargeDepth := 60))⟩
          · go_wp2
            go_ret
            refine ⟨?_, HX.out.trans (by simp (maxDischargeDepth := 60))⟩
            rw [HB.out, HT.out, List.drop_of_length_le (by have := E2.out; omega)]; rfl
      · have HB : Hid (Ch.bookFault ⟨last, l, js⟩ levels = Ch.staysFault levels last [] l) := by
          unfold Hid Ch.bookFault; rw [if_neg hl]; dsimp only; rw [E1.out, E2.out, if_neg hm, if_pos hs]
        obtain ⟨E, HE⟩ : ∃ E, Hid (errV (Ch.staysFault levels last [] l) = .iface 23 (vi E)) := ⟨_, by unfold Hid errV; rw [if_neg hs]⟩
        clear hl hm hs
        go_enter Tryd.func11, Tryd.ntmps11
        go_wp2_with (go_at_call 24; (with_reducible refine (bookstays_any last levels a1 m1 c1 a2 m2 c2 l _ (Sl.below HF.out (Ext.below (by simp (maxDischargeDepth := 60)))) hl4).mono ?_); rintro e w1 ⟨he, oS, nS, rfl⟩; rw [HE.out] at he; subst he)
        go_ret
        exact ⟨by rw [HB.out, HE.out]; rfl, (by simp (maxDischargeDepth := 60))⟩
end Go.Proofs.YtplomeacjbkgnaaDoor
