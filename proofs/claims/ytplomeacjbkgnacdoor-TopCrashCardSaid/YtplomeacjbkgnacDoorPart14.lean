/-
  Walks of the program's functions, and what they need: BookCheck2, Pick, Pick2, Park, InPlace, Delete.
-/
import Derived.Test.YtplomeacjbkgnacDoorPart13
import Derived.Test.YtplomeacjbkgnacDoorPart05
import Derived.Test.YtplomeacjbkgnacDoorPart03
import Derived.Test.YtplomeacjbkgnacDoorPart12
import Derived.Deep.AppendLies
import Derived.Laws.OwnMore
import Derived.Laws.IdiomCopy
import Derived.Tactics
import Derived.Lib.SliceRun

namespace Go.Proofs.YtplomeacjbkgnacDoor
open Go.RowKit

theorem jobs_at (st : List Ch.Stay) {l : List Ch.Job} {k : Nat} {j : Ch.Job} (hj : l[k]? = some j) :
    Ch.jobsFault st (l.take k) (l.drop k) = if (st.any fun s => s.ticket == j.ticket) = false ∨ j ∈ l.take k then 3 else Ch.jobsFault st (l.take (k + 1)) (l.drop (k + 1)) := by
  have hk : k < l.length := by
    by_cases h : k < l.length
    · exact h
    · rw [List.getElem?_eq_none (by omega)] at hj; cases hj
  rw [List.drop_eq_getElem_cons hk, List.take_add_one, hj]
  rw [List.getElem?_eq_getElem hk] at hj
  cases hj
  rfl

theorem index_none {l : List Ch.Stay} {p : Ch.Stay → Bool} (h : l.any p = false) : Ch.indexOf p l = -1 := by
  unfold Ch.indexOf
  have : l.findIdx? p = none := by
    rw [List.findIdx?_eq_none_iff]
    intro x hx
    have h2 := List.any_eq_false.1 h x hx
    simpa using h2
  rw [this]

theorem index_some {l : List Ch.Stay} {p : Ch.Stay → Bool} (h : l.any p = true) : ∃ i : Nat, Ch.indexOf p l = i := by
  unfold Ch.indexOf
  cases h2 : l.findIdx? p with
  | none =>
    rw [List.findIdx?_eq_none_iff] at h2
    obtain ⟨x, hx, hp⟩ := List.any_eq_true.1 h
    have := h2 x hx
    rw [hp] at this
    cases this
  | some i => exact ⟨i, rfl⟩

theorem find_at (fi last t : Int) (a1 : Option Addr) (m1 c1 : Nat) (a2 : Option Addr) (m2 c2 : Nat) (l : List Ch.Stay) (w : World) (h : Sl w 8 stayCells l a1 m1 c1) (hf : Hid (Ch.indexOf (fun s => s.ticket == t) l = fi)) :
    Calls Tryd.prog 20 #[bookA last a1 m1 c1 a2 m2 c2, vi t] w fun e w' => e = .returned (vi fi) ∧ Ext w w' := by
  have := find_any last t a1 m1 c1 a2 m2 c2 l w h
  rw [hf.out] at this
  exact this

theorem containsJob_at (bb : Bool) (a : Option Addr) (n cap : Nat) (l : List Ch.Job) (t : Int) (f : Bool) (w : World) (h : Sl w 2 jobCells l a n cap) (hb : Hid (decide ((⟨t, f⟩ : Ch.Job) ∈ l) = bb)) :
    Calls Tryd.prog 21 #[.slice a n cap, .agg #[vi t, .bool f]] w fun e w' => e = .returned (.bool bb) ∧ Ext w w' := by
  have := containsJob_any a n cap l t f w h
  rw [hb.out] at this
  exact this

set_option maxRecDepth 100000 in
set_option maxHeartbeats 4000000 in
theorem bookcheck_any (last levels : Int) (a1 : Option Addr) (m1 c1 : Nat) (a2 : Option Addr) (m2 c2 : Nat) (l : List Ch.Stay) (js : List Ch.Job) (w : World) (h : Sl w 8 stayCells l a1 m1 c1) (h2 : Sl w 2 jobCells js a2 m2 c2) (hl4 : levels ≤ 4) :
    Calls Tryd.prog 7 #[bookA last a1 m1 c1 a2 m2 c2, vi levels] w fun e w' => e = .returned (errV (Ch.bookFault ⟨last, l, js⟩ levels)) ∧ Ext w w' := by
  have b1 := h.bound
  have b2 := h2.bound
  have HF := Lib.hid h
  have HJ := Lib.hid h2
  have E1 := Lib.hid h.len
  have E2 := Lib.hid h2.len
  clear h h2
  by_cases hl : last < 0 ∨ 999999 < last
  · have HB : Hid (Ch.bookFault ⟨last, l, js⟩ levels = 1) := by unfold Hid Ch.bookFault; rw [if_pos hl]
    by_cases hl1 : last < 0
    · clear hl
      go_enter Tryd.func7, Tryd.ntmps7
      go_wp2
      go_ret
      exact ⟨by rw [HB.out]; rfl, (by simp (maxDischargeDepth := 60))⟩
    · have hl2 : 999999 < last := by omega
      clear hl
      go_enter Tryd.func7, Tryd.ntmps7
      go_wp2
      go_ret
      exact ⟨by rw [HB.out]; rfl, (by simp (maxDischargeDepth := 60))⟩
  · have hl1 : 0 ≤ last := by omega
    have hl2 : last ≤ 999999 := by omega
    by_cases hm : 16 < m1 ∨ 8 < m2
    · have HB : Hid (Ch.bookFault ⟨last, l, js⟩ levels = 2) := by unfold Hid Ch.bookFault; rw [if_neg hl]; dsimp only; rw [E1.out, E2.out, if_pos hm]
      by_cases hm1 : 16 < m1
      · have hm1' : (16 : Int) < (m1 : Int) := by omega
        clear hl hm
        go_enter Tryd.func7, Tryd.ntmps7
        go_wp2
        go_ret
        exact ⟨by rw [HB.out]; rfl, (by simp (maxDischargeDepth := 60))⟩
      · have hm1' : (m1 : Int) ≤ 16 := by omega
        have hm2' : (8 : Int) < (m2 : Int) := by omega
        clear hl hm
        go_enter Tryd.func7, Tryd.ntmps7
        go_wp2
        go_ret
        exact ⟨by rw [HB.out]; rfl, (by simp (maxDischargeDepth := 60))⟩
    · have hm1' : (m1 : Int) ≤ 16 := by omega
      have hm2' : (m2 : Int) ≤ 8 := by omega
      by_cases hs : Ch.staysFault levels last [] l = 0
      · have HB : Hid (Ch.bookFault ⟨last, l, js⟩ levels = Ch.jobsFault l [] js) := by
          unfold Hid Ch.bookFault; rw [if_neg hl]; dsimp only; rw [E1.out, E2.out, if_neg hm, if_neg (by rw [hs]; decide)]
        have HE : Hid (errV (Ch.staysFault levels last [] l) = .nilIface) := by unfold Hid; rw [hs]; rfl
        clear hl hm hs
        go_enter Tryd.func7, Tryd.ntmps7
        go_wp2_with (go_at_call 19; (with_reducible refine (bookstays_any last levels a1 m1 c1 a2 m2 c2 l _ (Sl.below HF.out (Ext.below (by simp (maxDischargeDepth := 60)))) hl4).mono ?_); rintro e w1 ⟨he, oS, nS, rfl⟩; rw [HE.out] at he; subst he)
        generalize hW : World.plus _ _ _ = w0
        have k0 : w0.cell? ⟨w.heap.size, 0, none⟩ = some (vi last) := by rw [← hW]; simp [go_sem]
        have k1 : w0.cell? ⟨w.heap.size, 1, none⟩ = some (.slice a1 m1 c1) := by rw [← hW]; simp [go_sem]
        have k2 : w0.cell? ⟨w.heap.size, 2, none⟩ = some (.slice a2 m2 c2) := by rw [← hW]; simp [go_sem]
        have hx : Ext w w0 := by rw [← hW]; exact (by simp (maxDischargeDepth := 60))
        have HS := Lib.hid (Sl.below HF.out hx.below)
        have HK := Lib.hid (Sl.below HJ.out hx.below)
        have HX := Lib.hid hx
        have z1 := cell_lt k0
        clear hW hx HF HJ
        go_loopw [37] (fun i wr => ∃ k : Nat, k ≤ m2 ∧ i = .int .i64 k ∧ Hid (Ch.jobsFault l [] js = Ch.jobsFault l (js.take k) (js.drop k)) ∧ Ext w0 wr) (fun i _ => m2 - (intOf i).toNat)
        case atStart => exact ⟨0, by omega, rfl, by simp [Hid], (by simp (maxDischargeDepth := 60))⟩
        case round =>
          obtain ⟨k, hk, rfl, HT, o, m, rfl⟩ := hrel
          by_cases hlt : k < m2
          · obtain ⟨b, q, j, rfl, hj, dj⟩ := HK.out.get hlt
            have dj := at2 dj
            have hq := cell_lt dj.1
            obtain ⟨t, f⟩ := j
            dsimp only at dj
            have HJJ := Lib.hid hj
            have hk0 : (0 : Int) ≤ (k : Int) := by omega
            have hk1 : (k : Int) ≤ (m2 : Int) := by omega
            have hk2 : (k : Int) ≤ (c2 : Int) := by omega
            clear hj
            have HA : Hid (Ch.jobsFault l (js.take k) (js.drop k) = if (l.any fun s => s.ticket == t) = false ∨ (⟨t, f⟩ : Ch.Job) ∈ js.take k then 3 else Ch.jobsFault l (js.take (k + 1)) (js.drop (k + 1))) := jobs_at l HJJ.out
            cases ha : (l.any fun s => s.ticket == t)
            · have HI : Hid (Ch.indexOf (fun s : Ch.Stay => s.ticket == t) l = -1) := index_none ha
              have HR : Hid (Ch.jobsFault l (js.take k) (js.drop k) = 3) := by unfold Hid; rw [HA.out, if_pos (Or.inl ha)]
              clear ha
              go_upto_region 11 with fail
              generalize hW : World.alloc _ _ = w3
              have f0 : w3.cell? ⟨w0.heap.size + o.size, 0, none⟩ = some (vi t) := by rw [← hW]; simp [go_sem]
              have f1 : w3.cell? ⟨w0.heap.size + o.size, 1, none⟩ = some (.bool f) := by rw [← hW]; simp [go_sem]
              have hx3 : Ext w0 w3 := by rw [← hW]; exact (by simp (maxDischargeDepth := 60))
              have HX3 := Lib.hid hx3
              have g0 := ext_cell hx3 k0
              have g1 := ext_cell hx3 k1
              have g2 := ext_cell hx3 k2
              have gz := cell_lt f0
              have gz0 := cell_lt g0
              clear hW hx3
              (refine wp_region_ext (by kernel_rfl) (by kernel_rfl) ?_; (repeat (first | go_big_quiet_step ((first | (intro _; go_at_call 20; exact ext_callG (find_at (-1) _ _ _ _ _ _ _ _ l _ (Sl.below HS.out (HX3.out.trans (by simp (maxDischargeDepth := 60))).below) HI) (by rintro w' ⟨o', n', rfl⟩; exact ⟨_, n', by first | (simp only [plus_plus]; rfl) | (simp only [plus_plus, Array.append_assoc]; rfl) | rfl⟩)))) | quiet_step ((first | (intro _; go_at_call 20; exact ext_callG (find_at (-1) _ _ _ _ _ _ _ _ l _ (Sl.below HS.out (HX3.out.trans (by simp (maxDischargeDepth := 60))).below) HI) (by rintro w' ⟨o', n', rfl⟩; exact ⟨_, n', by first | (simp only [plus_plus]; rfl) | (simp only [plus_plus, Array.append_assoc]; rfl) | rfl⟩)))))); refine wpQuiet_nil ?_; intro _ hw'; obtain ⟨oq, nq, hw''⟩ := hw'; subst hw'')
              go_wp2
              go_ret
              exact ⟨by rw [HB.out, HT.out, HR.out]; rfl, (HX.out.trans HX3.out).trans (by simp (maxDischargeDepth := 60))⟩
            · obtain ⟨fi, hfi⟩ := index_some ha
              have HI : Hid (Ch.indexOf (fun s : Ch.Stay => s.ticket == t) l = (fi : Int)) := hfi
              have HAY := Lib.hid ha
              have hfi0 : ¬ ((fi : Int) < 0) := by omega
              clear ha hfi
              cases hc : decide ((⟨t, f⟩ : Ch.Job) ∈ js.take k)
              · have HC := Lib.hid hc
                have HR : Hid (Ch.jobsFault l (js.take k) (js.drop k) = Ch.jobsFault l (js.take (k + 1)) (js.drop (k + 1))) := by
                  unfold Hid; rw [HA.out, if_neg]
                  rintro (h1 | h1)
                  · rw [HAY.out] at h1; cases h1
                  · exact of_decide_eq_false hc h1
                clear hc
                go_upto_region 11 with fail
                generalize hW : World.alloc _ _ = w3
                have f0 : w3.cell? ⟨w0.heap.size + o.size, 0, none⟩ = some (vi t) := by rw [← hW]; simp [go_sem]
                have f1 : w3.cell? ⟨w0.heap.size + o.size, 1, none⟩ = some (.bool f) := by rw [← hW]; simp [go_sem]
                have hx3 : Ext w0 w3 := by rw [← hW]; exact (by simp (maxDischargeDepth := 60))
                have HX3 := Lib.hid hx3
                have g0 := ext_cell hx3 k0
                have g1 := ext_cell hx3 k1
                have g2 := ext_cell hx3 k2
                have gz := cell_lt f0
                have gz0 := cell_lt g0
                clear hW hx3
                (refine wp_region_ext (by kernel_rfl) (by kernel_rfl) ?_; (repeat (first | go_big_quiet_step ((first | (intro _; go_at_call 20; exact ext_callG (find_at (fi : Int) _ _ _ _ _ _ _ _ l _ (Sl.below HS.out (HX3.out.trans (by simp (maxDischargeDepth := 60))).below) HI) (by rintro w' ⟨o', n', rfl⟩; exact ⟨_, n', by first | (simp only [plus_plus]; rfl) | (simp only [plus_plus, Array.append_assoc]; rfl) | rfl⟩)) | (intro _; go_at_call 21; exact ext_callG (containsJob_at false _ _ _ (js.take k) _ _ _ (sl_takeB (Sl.below HK.out (HX3.out.trans (by simp (maxDischargeDepth := 60))).below) (by omega)) HC) (by rintro w' ⟨o', n', rfl⟩; exact ⟨_, n', by first | (simp only [plus_plus]; rfl) | (simp only [plus_plus, Array.append_assoc]; rfl) | rfl⟩)))) | quiet_step ((first | (intro _; go_at_call 20; exact ext_callG (find_at (fi : Int) _ _ _ _ _ _ _ _ l _ (Sl.below HS.out (HX3.out.trans (by simp (maxDischargeDepth := 60))).below) HI) (by rintro w' ⟨o', n', rfl⟩; exact ⟨_, n', by first | (simp only [plus_plus]; rfl) | (simp only [plus_plus, Array.append_assoc]; rfl) | rfl⟩)) | (intro _; go_at_call 21; exact ext_callG (containsJob_at false _ _ _ (js.take k) _ _ _ (sl_takeB (Sl.below HK.out (HX3.out.trans (by simp (maxDischargeDepth := 60))).below) (by omega)) HC) (by rintro w' ⟨o', n', rfl⟩; exact ⟨_, n', by first | (simp only [plus_plus]; rfl) | (simp only [plus_plus, Array.append_assoc]; rfl) | rfl⟩)))))); refine wpQuiet_nil ?_; intro _ hw'; obtain ⟨oq, nq, hw''⟩ := hw'; subst hw'')
                go_wp2
                go_roundw
                case rel => first | exact ⟨k + 1, by omega, by go_num, by unfold Hid; rw [HT.out, HR.out], HX3.out.trans (by simp (maxDischargeDepth := 60))⟩ | (repeat apply Exists.intro; refine ⟨?_, rfl⟩; exact ⟨k + 1, by omega, by go_num, by unfold Hid; rw [HT.out, HR.out], HX3.out.trans (by simp (maxDischargeDepth := 60))⟩)
                case measure => simp [intOf]; omega
              · have HC := Lib.hid hc
                have HR : Hid (Ch.jobsFault l (js.take k) (js.drop k) = 3) := by unfold Hid; rw [HA.out, if_pos (Or.inr (of_decide_eq_true hc))]
                clear hc
                go_upto_region 11 with fail
                generalize hW : World.alloc _ _ = w3
                have f0 : w3.cell? ⟨w0.heap.size + o.size, 0, none⟩ = some (vi t) := by rw [← hW]; simp [go_sem]
                have f1 : w3.cell? ⟨w0.heap.size + o.size, 1, none⟩ = some (.bool f) := by rw [← hW]; simp [go_sem]
                have hx3 : Ext w0 w3 := by rw [← hW]; exact (by simp (maxDischargeDepth := 60))
                have HX3 := Lib.hid hx3
                have g0 := ext_cell hx3 k0
                have g1 := ext_cell hx3 k1
                have g2 := ext_cell hx3 k2
                have gz := cell_lt f0
                have gz0 := cell_lt g0
                clear hW hx3
                (refine wp_region_ext (by kernel_rfl) (by kernel_rfl) ?_; (repeat (first | go_big_quiet_step ((first | (intro _; go_at_call 20; exact ext_callG (find_at (fi : Int) _ _ _ _ _ _ _ _ l _ (Sl.below HS.out (HX3.out.trans (by simp (maxDischargeDepth := 60))).below) HI) (by rintro w' ⟨o', n', rfl⟩; exact ⟨_, n', by first | (simp only [plus_plus]; rfl) | (simp only [plus_plus, Array.append_assoc]; rfl) | rfl⟩)) | (intro _; go_at_call 21; exact ext_callG (containsJob_at true _ _ _ (js.take k) _ _ _ (sl_takeB (Sl.below HK.out (HX3.out.trans (by simp (maxDischargeDepth := 60))).below) (by omega)) HC) (by rintro w' ⟨o', n', rfl⟩; exact ⟨_, n', by first | (simp only [plus_plus]; rfl) | (simp only [plus_plus, Array.append_assoc]; rfl) | rfl⟩)))) | quiet_step ((first | (intro _; go_at_call 20; exact ext_callG (find_at (fi : Int) _ _ _ _ _ _ _ _ l _ (Sl.below HS.out (HX3.out.trans (by simp (maxDischargeDepth := 60))).below) HI) (by rintro w' ⟨o', n', rfl⟩; exact ⟨_, n', by first | (simp only [plus_plus]; rfl) | (simp only [plus_plus, Array.append_assoc]; rfl) | rfl⟩)) | (intro _; go_at_call 21; exact ext_callG (containsJob_at true _ _ _ (js.take k) _ _ _ (sl_takeB (Sl.below HK.out (HX3.out.trans (by simp (maxDischargeDepth := 60))).below) (by omega)) HC) (by rintro w' ⟨o', n', rfl⟩; exact ⟨_, n', by first | (simp only [plus_plus]; rfl) | (simp only [plus_plus, Array.append_assoc]; rfl) | rfl⟩)))))); refine wpQuiet_nil ?_; intro _ hw'; obtain ⟨oq, nq, hw''⟩ := hw'; subst hw'')
                go_wp2
                go_ret
                exact ⟨by rw [HB.out, HT.out, HR.out]; rfl, (HX.out.trans HX3.out).trans (by simp (maxDischargeDepth := 60))⟩
          · go_wp2
            go_ret
            refine ⟨?_, HX.out.trans (by simp (maxDischargeDepth := 60))⟩
            rw [HB.out, HT.out, List.drop_of_length_le (by have := E2.out; omega)]; rfl
      · have HB : Hid (Ch.bookFault ⟨last, l, js⟩ levels = Ch.staysFault levels last [] l) := by
          unfold Hid Ch.bookFault; rw [if_neg hl]; dsimp only; rw [E1.out, E2.out, if_neg hm, if_pos hs]
        obtain ⟨E, HE⟩ : ∃ E, Hid (errV (Ch.staysFault levels last [] l) = .iface 63 (vi E)) := ⟨_, by unfold Hid errV; rw [if_neg hs]⟩
        clear hl hm hs
        go_enter Tryd.func7, Tryd.ntmps7
        go_wp2_with (go_at_call 19; (with_reducible refine (bookstays_any last levels a1 m1 c1 a2 m2 c2 l _ (Sl.below HF.out (Ext.below (by simp (maxDischargeDepth := 60)))) hl4).mono ?_); rintro e w1 ⟨he, oS, nS, rfl⟩; rw [HE.out] at he; subst he)
        go_ret
        exact ⟨by rw [HB.out, HE.out]; rfl, (by simp (maxDischargeDepth := 60))⟩
end Go.Proofs.YtplomeacjbkgnacDoor

namespace Go.Proofs.YtplomeacjbkgnacDoor
open Go.RowKit

/-- does somebody have this place? (the place's numbers one by one) -/
def hasB (l : List Ch.Stay) (a b c : Int) : Bool := l.any fun s => decide (s.home = ⟨a, b, c⟩)

theorem hasB_home (last : Int) (l : List Ch.Stay) (js : List Ch.Job) (p : Ch.Place) : Ch.hasHome ⟨last, l, js⟩ p = hasB l p.level p.side p.depth := rfl

/-- is a stay's car to be put away behind this place? -/
def waitB (js : List Ch.Job) (a b c : Int) (s : Ch.Stay) : Bool := !decide (s.home = ⟨a, b, c⟩) && decide (Ch.front s.home = ⟨a, b, c⟩) && decide ((⟨s.ticket, false⟩ : Ch.Job) ∈ js)

def waitsB (l : List Ch.Stay) (js : List Ch.Job) (a b c : Int) : Bool := l.any (waitB js a b c)

theorem waitsB_waits (last : Int) (l : List Ch.Stay) (js : List Ch.Job) (p : Ch.Place) : Ch.waits ⟨last, l, js⟩ p = waitsB l js p.level p.side p.depth := by
  unfold Ch.waits waitsB
  congr 1
  funext s
  unfold waitB
  simp only [List.contains_eq_mem]
  rfl

end Go.Proofs.YtplomeacjbkgnacDoor

namespace Go.Proofs.YtplomeacjbkgnacDoor
open Go.RowKit

/-- would this place do? -/
def doP (l : List Ch.Stay) (js : List Ch.Job) (levels : List Ch.Size) (s : Ch.Size) (p : Ch.Place) : Bool :=
  Ch.fits s (levels.getD (p.level - 1).toNat default) && !hasB l p.level p.side p.depth && !hasB l p.level p.side 0 && !waitsB l js p.level p.side p.depth

theorem pick_doP (last : Int) (l : List Ch.Stay) (js : List Ch.Job) (levels : List Ch.Size) (c : Ch.Car) : Ch.pick ⟨last, l, js⟩ levels c = (Ch.places levels.length).find? (doP l js levels c.size) := by
  unfold Ch.pick
  congr 1
  funext p
  rw [hasB_home, hasB_home, waitsB_waits]
  rfl

/-- the answer as a value -/
def pickV (o : Option Ch.Place) : Value := .tuple #[placeA (o.getD ⟨0, 0, 0⟩), .bool o.isSome]

theorem find_no {α : Type} {P : α → Bool} {l : List α} {k : Nat} {x : α} (hx : l[k]? = some x) (h : P x = false) : (l.drop k).find? P = (l.drop (k + 1)).find? P := by
  have hk : k < l.length := by
    rcases Nat.lt_or_ge k l.length with h1 | h1
    · exact h1
    · rw [List.getElem?_eq_none h1] at hx; cases hx
  rw [List.drop_eq_getElem_cons hk, List.find?_cons]
  rw [List.getElem?_eq_getElem hk] at hx
  cases hx
  rw [h]

theorem find_yes {α : Type} {P : α → Bool} {l : List α} {k : Nat} {x : α} (hx : l[k]? = some x) (h : P x = true) : (l.drop k).find? P = some x := by
  have hk : k < l.length := by
    rcases Nat.lt_or_ge k l.length with h1 | h1
    · exact h1
    · rw [List.getElem?_eq_none h1] at hx; cases hx
  rw [List.drop_eq_getElem_cons hk, List.find?_cons]
  rw [List.getElem?_eq_getElem hk] at hx
  cases hx
  rw [h]

/-- three stores into a block of the call's own -/
theorem put3 {w a : World} {R : Nat} {x y z x' y' z' : Value} (hx : Ext w a) (hR : w.heap.size ≤ R) (c0 : a.cell? ⟨R, 0, none⟩ = some x') (c1 : a.cell? ⟨R, 1, none⟩ = some y') (c2 : a.cell? ⟨R, 2, none⟩ = some z') :
    (((a.setCell ⟨R, 0, none⟩ x).setCell ⟨R, 1, none⟩ y).setCell ⟨R, 2, none⟩ z).cell? ⟨R, 0, none⟩ = some x ∧ (((a.setCell ⟨R, 0, none⟩ x).setCell ⟨R, 1, none⟩ y).setCell ⟨R, 2, none⟩ z).cell? ⟨R, 1, none⟩ = some y ∧
    (((a.setCell ⟨R, 0, none⟩ x).setCell ⟨R, 1, none⟩ y).setCell ⟨R, 2, none⟩ z).cell? ⟨R, 2, none⟩ = some z ∧ Ext w (((a.setCell ⟨R, 0, none⟩ x).setCell ⟨R, 1, none⟩ y).setCell ⟨R, 2, none⟩ z) := by
  have n01 : (⟨R, 0, none⟩ : Addr) ≠ ⟨R, 1, none⟩ := by intro e; cases e
  have n02 : (⟨R, 0, none⟩ : Addr) ≠ ⟨R, 2, none⟩ := by intro e; cases e
  have n12 : (⟨R, 1, none⟩ : Addr) ≠ ⟨R, 2, none⟩ := by intro e; cases e
  refine ⟨?_, ?_, ?_, ?_⟩
  · rw [World.cell?_setCell_other (h := n02.symm), World.cell?_setCell_other (h := n01.symm), World.cell?_setCell_same (h := c0)]
  · rw [World.cell?_setCell_other (h := n12.symm), World.cell?_setCell_same (h := (show (a.setCell ⟨R, 0, none⟩ x).cell? ⟨R, 1, none⟩ = some y' by rw [World.cell?_setCell_other (h := n01)]; exact c1))]
  · rw [World.cell?_setCell_same (h := (show ((a.setCell ⟨R, 0, none⟩ x).setCell ⟨R, 1, none⟩ y).cell? ⟨R, 2, none⟩ = some z' by rw [World.cell?_setCell_other (h := n12), World.cell?_setCell_other (h := n02)]; exact c2))]
  · exact Ext.of_below (below_kept (S := fun i => w.heap.size ≤ i) (Ext.refl w).below (Nat.le_refl _) ((((Kept.of_ext hx).setCell (Or.inl hR) _).setCell (Or.inl hR) _).setCell (Or.inl hR) _) (fun _ h => h))

theorem new_below {B : Nat} {w a b : World} (h : Below B w a) (hb : B ≤ w.heap.size) (k : Kept (fun i => B ≤ i) a b) : Below B w b := below_kept h hb k (fun _ hi => hi)

end Go.Proofs.YtplomeacjbkgnacDoor

namespace Go.Proofs.YtplomeacjbkgnacDoor
open Go.RowKit

/-- a book's three cells, in a block that may be written -/
structure BookCell (w : World) (T : Nat) (x y z : Value) : Prop where
  c0 : w.cell? ⟨T, 0, none⟩ = some x
  c1 : w.cell? ⟨T, 1, none⟩ = some y
  c2 : w.cell? ⟨T, 2, none⟩ = some z
  fz : ∀ i, w.frozen? ⟨T, i, none⟩ = false

theorem BookCell.lt {w : World} {T : Nat} {x y z : Value} (h : BookCell w T x y z) : T < w.heap.size := cell_lt h.c0

theorem BookCell.same {w w' : World} {T : Nat} {x y z : Value} (h : BookCell w T x y z) (e : w'.heap[T]? = w.heap[T]?) : BookCell w' T x y z :=
  ⟨(World.cell?_of_block e).trans h.c0, (World.cell?_of_block e).trans h.c1, (World.cell?_of_block e).trans h.c2, fun i => (World.frozen?_of_block e).trans (h.fz i)⟩

theorem BookCell.ext {w w' : World} {T : Nat} {x y z : Value} (h : BookCell w T x y z) (e : Ext w w') : BookCell w' T x y z := by
  obtain ⟨o, n, rfl⟩ := e
  exact h.same (plus_heap w o n T h.lt)

theorem BookCell.grown {w w' : World} {row : Option Nat} {T : Nat} {x y z : Value} (h : BookCell w T x y z) (g : w.grownBy w' row) (hn : row ≠ some T) : BookCell w' T x y z :=
  h.same (g.block T h.lt (fun e => hn e.symm))

theorem BookCell.far {w : World} {T : Nat} {x y z : Value} (h : BookCell w T x y z) {a : Addr} (u : Value) (hn : a.block ≠ T) : BookCell (w.setCell a u) T x y z :=
  h.same (setCell_other (fun e => hn e.symm))

theorem BookCell.set0 {w : World} {T : Nat} {x y z : Value} (h : BookCell w T x y z) (u : Value) : BookCell (w.setCell ⟨T, 0, none⟩ u) T u y z :=
  ⟨World.cell?_setCell_same _ _ _ h.c0, by rw [World.cell?_setCell_other (h := by intro e; cases e)]; exact h.c1, by rw [World.cell?_setCell_other (h := by intro e; cases e)]; exact h.c2, fun i => by rw [World.frozen?_setCell]; exact h.fz i⟩

theorem BookCell.set1 {w : World} {T : Nat} {x y z : Value} (h : BookCell w T x y z) (u : Value) : BookCell (w.setCell ⟨T, 1, none⟩ u) T x u z :=
  ⟨by rw [World.cell?_setCell_other (h := by intro e; cases e)]; exact h.c0, World.cell?_setCell_same _ _ _ h.c1, by rw [World.cell?_setCell_other (h := by intro e; cases e)]; exact h.c2, fun i => by rw [World.frozen?_setCell]; exact h.fz i⟩

theorem BookCell.set2 {w : World} {T : Nat} {x y z : Value} (h : BookCell w T x y z) (u : Value) : BookCell (w.setCell ⟨T, 2, none⟩ u) T x y u :=
  ⟨by rw [World.cell?_setCell_other (h := by intro e; cases e)]; exact h.c0, by rw [World.cell?_setCell_other (h := by intro e; cases e)]; exact h.c1, World.cell?_setCell_same _ _ _ h.c2, fun i => by rw [World.frozen?_setCell]; exact h.fz i⟩

theorem BookCell.set {w : World} {T : Nat} {x y z : Value} (h : BookCell w T x y z) (x' y' z' : Value) : BookCell (((w.setCell ⟨T, 0, none⟩ x').setCell ⟨T, 1, none⟩ y').setCell ⟨T, 2, none⟩ z') T x' y' z' := ((h.set0 x').set1 y').set2 z'

theorem checkCar_at (V : Value) (x a b c : Int) (w : World) (hv : Hid (errV (Ch.carFault ⟨x, ⟨a, b, c⟩⟩) = V)) : Calls Tryd.prog 36 #[.agg #[vi x, vi a, vi b, vi c]] w fun e w' => e = .returned V ∧ Ext w w' := by
  have := checkCar_f x a b c w
  rw [hv.out] at this
  exact this

theorem of_none {l : List Ch.Stay} {t : Int} {last : Int} {js : List Ch.Job} (h : ((⟨last, l, js⟩ : Ch.Book).of t).isSome = false) : Ch.indexOf (fun s : Ch.Stay => s.car.id == t) l = -1 := by
  apply index_none
  simpa [Ch.Book.of] using h

theorem of_some {l : List Ch.Stay} {t : Int} {last : Int} {js : List Ch.Job} (h : ((⟨last, l, js⟩ : Ch.Book).of t).isSome = true) : ∃ i : Nat, Ch.indexOf (fun s : Ch.Stay => s.car.id == t) l = i := by
  apply index_some
  simpa [Ch.Book.of] using h

/-- nothing was done: what came back -/
abbrev parkErrV (f : Int) : Value := .tuple #[bookA 0 none 0 0 none 0 0, vi 0, errV f]

/-- a book that is new, and what came back with it -/
def NewBook (w : World) (x : Ch.Book) (r : Value → Value) (e : Ending) (w' : World) : Prop := ∃ v1 v2, e = .returned (r (.agg #[vi x.last, v1, v2])) ∧ OwnBook w w' x.last x.stays x.jobs v1 v2 ∧ Ext w w'

theorem infoOfStay : (Tryd.prog.info? 60).map (fun i => (i.zero, i.size, i.bytes)) = some (some (.agg #[vi 0, vi 0, vi 0, vi 0, vi 0, vi 0, vi 0, vi 0]), 8, 64) := infoStay

end Go.Proofs.YtplomeacjbkgnacDoor

namespace Go.Proofs.YtplomeacjbkgnacDoor

/-! ### the sieve -/

structure Sieve {α : Type} (p : α → Bool) (l xs : List α) (i j : Nat) : Prop where
  le : j ≤ l.length
  is : ∃ mid, xs = (l.take j).filter (fun x => !p x) ++ mid ++ l.drop j ∧ i = ((l.take j).filter (fun x => !p x)).length ∧ mid.length + i = j ∧ 0 < mid.length

section
variable {α : Type} {p : α → Bool} {l xs : List α} {i j : Nat} {v : α}

theorem lt_of_get {l : List α} {j : Nat} {v : α} (h : l[j]? = some v) : j < l.length := by
  rcases Nat.lt_or_ge j l.length with h1 | h1
  · exact h1
  · rw [List.getElem?_eq_none h1] at h; cases h

theorem drop_at {l : List α} {j : Nat} {v : α} (h : l[j]? = some v) : l.drop j = v :: l.drop (j + 1) := by
  have hj := lt_of_get h
  rw [List.drop_eq_getElem_cons hj]
  rw [List.getElem?_eq_getElem hj] at h
  cases h; rfl

theorem filter_take {l : List α} {j : Nat} {v : α} (q : α → Bool) (h : l[j]? = some v) : (l.take (j + 1)).filter q = (l.take j).filter q ++ (if q v then [v] else []) := by
  rw [List.take_add_one, h, List.filter_append]
  congr 1
  cases hq : q v <;> simp [hq]

theorem Sieve.start (h : l[j]? = some v) (hp : p v = true) (hb : ∀ k s, k < j → l[k]? = some s → p s = false) : Sieve p l l j (j + 1) := by
  have hj := lt_of_get h
  have hf : (l.take j).filter (fun x => !p x) = l.take j := by
    rw [List.filter_eq_self]
    intro a ha
    obtain ⟨k, hk, rfl⟩ := List.getElem_of_mem ha
    have hk2 : k < j := by rw [List.length_take] at hk; omega
    have := hb k _ hk2 (by rw [List.getElem?_eq_getElem (by omega)])
    rw [List.getElem_take]
    simp [this]
  refine ⟨hj, [v], ?_, ?_, ?_, by simp⟩
  · rw [filter_take _ h, hf, hp]
    simp only [Bool.not_true, Bool.false_eq_true, if_false, List.append_nil]
    rw [List.append_assoc, List.singleton_append, ← drop_at h, List.take_append_drop]
  · rw [filter_take _ h, hf, hp]
    simp only [Bool.not_true, Bool.false_eq_true, if_false, List.append_nil]
    rw [List.length_take]; omega
  · simp; omega

theorem Sieve.skip (s : Sieve p l xs i j) (h : l[j]? = some v) (hp : p v = true) : Sieve p l xs i (j + 1) := by
  have hj := lt_of_get h
  obtain ⟨mid, h1, h2, h3, h4⟩ := s.is
  refine ⟨hj, mid ++ [v], ?_, ?_, by simp; omega, by simp⟩
  · rw [filter_take _ h, hp]
    simp only [Bool.not_true, Bool.false_eq_true, if_false, List.append_nil]
    rw [h1, drop_at h]; simp
  · rw [filter_take _ h, hp]
    simpa using h2

theorem Sieve.keep (s : Sieve p l xs i j) (h : l[j]? = some v) (hp : p v = false) : Sieve p l (xs.set i v) (i + 1) (j + 1) := by
  have hj := lt_of_get h
  obtain ⟨mid, h1, h2, h3, h4⟩ := s.is
  match mid, h4 with
  | m :: mid, _ =>
    refine ⟨hj, mid ++ [v], ?_, ?_, by simp at *; omega, by simp⟩
    · rw [filter_take _ h, hp]
      simp only [Bool.not_false, if_true]
      rw [h1, drop_at h, h2]
      simp
    · rw [filter_take _ h, hp]
      simp only [Bool.not_false, if_true, List.length_append, List.length_singleton]
      omega

theorem Sieve.at (s : Sieve p l xs i j) : xs[j]? = l[j]? := by
  obtain ⟨mid, h1, h2, h3, h4⟩ := s.is
  rw [h1, List.append_assoc, List.getElem?_append_right (by omega), List.getElem?_append_right (by omega)]
  rw [List.getElem?_drop]
  congr 1; omega

theorem Sieve.len (s : Sieve p l xs i j) : xs.length = l.length := by
  obtain ⟨mid, h1, h2, h3, h4⟩ := s.is
  have := s.le
  rw [h1]
  simp only [List.length_append, List.length_drop]
  omega

theorem Sieve.lt (s : Sieve p l xs i j) : i < j ∧ j ≤ l.length := by
  obtain ⟨mid, h1, h2, h3, h4⟩ := s.is
  exact ⟨by omega, s.le⟩

theorem Sieve.done (s : Sieve p l xs i j) (hj : j = l.length) : xs.take i = l.filter (fun x => !p x) ∧ i = (l.filter (fun x => !p x)).length := by
  obtain ⟨mid, h1, h2, h3, h4⟩ := s.is
  subst hj
  rw [List.take_length] at h1 h2
  refine ⟨?_, h2⟩
  rw [h1, h2, List.append_assoc]
  exact List.take_left
end

/-! ### cells written in a list of one's own -/

def putAll (xs : List Value) (o : Nat) : List Value → List Value
  | [] => xs
  | v :: r => putAll (xs.set o v) (o + 1) r

theorem putAll_len : ∀ (vs : List Value) (xs : List Value) (o : Nat), (putAll xs o vs).length = xs.length
  | [], _, _ => rfl
  | v :: r, xs, o => by rw [putAll, putAll_len r, List.length_set]

theorem putAll_mid {C : List Value} : ∀ (B B' A : List Value), B.length = B'.length → putAll (A ++ B ++ C) A.length B' = A ++ B' ++ C
  | [], [], A, _ => rfl
  | b :: B, b' :: B', A, h => by
    have ih := putAll_mid (C := C) B B' (A ++ [b']) (by simpa using h)
    have e : (A ++ b :: B ++ C).set A.length b' = A ++ [b'] ++ B ++ C := by simp
    rw [putAll, e]
    rw [List.length_append] at ih
    simpa using ih

theorem putAll_flat {α : Type} {enc : α → List Value} {c : Nat} (he : ∀ x, (enc x).length = c) (xs : List α) (i : Nat) (v : α) (hi : i < xs.length) : putAll (xs.flatMap enc) (i * c) (enc v) = (xs.set i v).flatMap enc := by
  have hlen : ∀ l : List α, (l.flatMap enc).length = l.length * c := by
    intro l
    induction l with
    | nil => simp
    | cons x l ih => simp [ih, he, Nat.add_mul]; omega
  have e : xs = xs.take i ++ xs[i] :: xs.drop (i + 1) := by
    rw [← List.drop_eq_getElem_cons hi, List.take_append_drop]
  have e2 : xs.set i v = xs.take i ++ v :: xs.drop (i + 1) := by
    conv => lhs; rw [e]
    rw [List.set_append_right _ _ (by rw [List.length_take]; omega)]
    rw [List.length_take, show i - min i xs.length = 0 by omega, List.set_cons_zero]
  have e3 : xs.flatMap enc = (xs.take i).flatMap enc ++ enc xs[i] ++ (xs.drop (i + 1)).flatMap enc := by
    conv => lhs; rw [e]
    rw [List.flatMap_append, List.flatMap_cons, List.append_assoc]
  rw [e2, e3, List.flatMap_append, List.flatMap_cons, ← List.append_assoc]
  have := putAll_mid (C := (xs.drop (i + 1)).flatMap enc) (enc xs[i]) (enc v) ((xs.take i).flatMap enc) (by rw [he, he])
  rw [hlen, List.length_take, Nat.min_eq_left (by omega)] at this
  exact this

theorem owns_setCells {base e size g n cap : Nat} : ∀ (vs : List Value) (o : Nat) {w : World} {xs : List Value}, w.ownsRow base e size (.slice (some ⟨g, 0, none⟩) n cap) n xs →
    (w.setCells g o vs).ownsRow base e size (.slice (some ⟨g, 0, none⟩) n cap) n (putAll xs o vs) ∧ w.grownBy (w.setCells g o vs) (some g)
  | [], _, w, _, h => ⟨h, ⟨rfl, rfl, rfl, Nat.le_refl _, fun _ _ _ => rfl⟩⟩
  | v :: r, o, w, xs, h => by
    have h1 := h.stored o v
    have h2 := owns_setCells r (o + 1) h1.1
    refine ⟨h2.1, ⟨h2.2.os.trans h1.2.os, h2.2.tape.trans h1.2.tape, h2.2.output.trans h1.2.output, Nat.le_trans h1.2.size h2.2.size, fun k hk hn => ?_⟩⟩
    rw [World.setCells, h2.2.block k (Nat.lt_of_lt_of_le hk h1.2.size) hn, h1.2.block k hk hn]

/-- the first of a list of one's own -/
theorem owns_prefix {w : World} {base e size g n cap i : Nat} {xs : List Value} (h : w.ownsRow base e size (.slice (some ⟨g, 0, none⟩) n cap) n xs) (hi : i ≤ n) :
    w.ownsRow base e size (.slice (some ⟨g, 0, none⟩) i cap) i (xs.take (i * size)) := by
  have hm : i * size ≤ n * size := Nat.mul_le_mul_right _ hi
  refine ⟨by rw [List.length_take, h.1]; omega, ?_⟩
  rcases h.2 with ⟨h', _⟩ | ⟨g', cap', cur, h', hb, hg, hnc, hcm, hcs, htake⟩
  · simp at h'
  · simp only [Value.slice.injEq, Option.some.injEq, Addr.mk.injEq, and_true, true_and] at h'
    obtain ⟨rfl, rfl⟩ := h'
    exact .inr ⟨g, cap, cur, rfl, hb, hg, by omega, hcm, hcs, by rw [← htake, List.take_take, Nat.min_eq_left hm]⟩

theorem take_flat {α : Type} {enc : α → List Value} {c : Nat} (he : ∀ x, (enc x).length = c) : ∀ (xs : List α) (i : Nat), (xs.flatMap enc).take (i * c) = (xs.take i).flatMap enc
  | [], i => by simp
  | x :: xs, 0 => by simp
  | x :: xs, i + 1 => by
    rw [List.flatMap_cons, List.take_succ_cons, List.flatMap_cons, Nat.add_mul, Nat.one_mul, List.take_append, he, ← take_flat he xs i]
    rw [List.take_of_length_le (by rw [he]; omega), show i * c + c - c = i * c by omega]

theorem putAll_take {o k : Nat} : ∀ (vs xs : List Value), k ≤ o → (putAll xs o vs).take k = xs.take k := by
  intro vs
  induction vs generalizing o with
  | nil => intro xs _; rfl
  | cons v r ih =>
    intro xs h
    rw [putAll, ih _ (by omega), List.take_set]
    exact List.set_eq_of_length_le (by rw [List.length_take]; omega)

/-- 'clear(s)' of a slice whose elements are of some cells: so many zeros are stored -/
theorem run_clear_cells {P : Program} (w : World) (t e ty : TypeId) (z : Value) (ht : P.underlying t = some (.slice e)) (hv : ∀ w, (zeroValue e).run P w = .ok z w) (h1 : ∀ v ∈ z.cells.toList, v.oneCell' = true) (b o n c : Nat) (hn : 0 < n)
    (hc : ∀ j, j < n * z.cells.size → (w.cell? ⟨b, o + j, none⟩).isSome = true) (hf : ∀ j, j < n * z.cells.size → w.frozen? ⟨b, o + j, none⟩ = false) :
    (Builtin.clear_ #[t] ty #[.slice (some ⟨b, o, none⟩) n c]).run P w = .ok (.tuple #[]) (w.setCells b o (Builtin.zeroCells z.cells n).toList) := by
  have hlen : (Builtin.zeroCells z.cells n).toList.length = n * z.cells.size := by simp [Builtin.zeroCells]
  have hone : ∀ v ∈ (Builtin.zeroCells z.cells n).toList, v.oneCell' = true := by
    intro v hv'
    simp only [Builtin.zeroCells, Array.toList_map, List.mem_map, Array.mem_toList_iff, Array.mem_range] at hv'
    obtain ⟨i, hi, rfl⟩ := hv'
    have hs : 0 < z.cells.size := by
      rcases Nat.eq_zero_or_pos z.cells.size with h0 | h0
      · rw [h0] at hi; simp at hi
      · exact h0
    have hm : i % z.cells.size < z.cells.size := Nat.mod_lt _ hs
    rw [getElem!_pos z.cells (i % z.cells.size) hm]
    exact h1 _ (by simp)
  have hst := run_storeCells_cells (P := P) b o (Builtin.zeroCells z.cells n).toList 0 w (by intro j hj; rw [hlen] at hj; simpa using hc j hj) (by intro j hj; rw [hlen] at hj; simpa using hf j hj) hone
  simp only [Nat.add_zero] at hst
  obtain ⟨m, rfl⟩ : ∃ m, n = m + 1 := ⟨n - 1, by omega⟩
  simp only [Builtin.clear_]
  simp [run_underlying ht, hv, hst]
/-- the tail of a list of one's own is cleared: the first of it are as they were -/
theorem clear_tail {P : Program} {w : World} {base e c g n cap i k : Nat} {xs : List Value} (t ty : TypeId) (z : Value) (ht : P.underlying t = some (.slice e)) (hv : ∀ w, (zeroValue e).run P w = .ok z w) (hz : z.cells.size = c) (h1 : ∀ v ∈ z.cells.toList, v.oneCell' = true)
    (h : w.ownsRow base e c (.slice (some ⟨g, 0, none⟩) n cap) n xs) (hi : i < n) :
    ∃ wz, (Builtin.clear_ #[t] ty #[.slice (some ⟨g, i * c, none⟩) (n - i) k]).run P w = .ok (.tuple #[]) wz ∧ wz.ownsRow base e c (.slice (some ⟨g, 0, none⟩) i cap) i (xs.take (i * c)) ∧ w.grownBy wz (some g) := by
  have hlen := h.1
  have hmul : (n - i) * c + i * c = n * c := by rw [← Nat.add_mul]; congr 1; omega
  have hr := run_clear_cells (P := P) w t e ty z ht hv h1 g (i * c) (n - i) k (by omega)
    (fun j hj => by
      rw [hz] at hj
      have hj2 : i * c + j < n * c := by omega
      rw [h.cellAt _ hj2, List.getElem?_eq_getElem (by omega)]; rfl)
    (fun j _ => h.frozenAt _)
  have ho := owns_setCells (Builtin.zeroCells z.cells (n - i)).toList (i * c) h
  refine ⟨_, hr, ?_, ho.2⟩
  have hp := owns_prefix ho.1 (Nat.le_of_lt hi)
  rw [putAll_take _ _ (Nat.le_refl _)] at hp
  exact hp
end Go.Proofs.YtplomeacjbkgnacDoor

namespace Go.Proofs.YtplomeacjbkgnacDoor
open Go.RowKit

/-- a function value that answers a predicate of jobs, in whatever world that is as this one but for some blocks -/
structure JobPredIn (w : World) (S : Nat → Prop) (K : Nat) (caps : Array Value) (pred : Ch.Job → Bool) : Prop where
  enters : ∀ args w, (callFunc K args).run Tryd.prog w = .ok (.enter K args) w
  answers : ∀ (s : Ch.Job) (W : World), Kept S w W → Calls Tryd.prog K (#[jobA s] ++ caps) W fun e w' => e = .returned (.bool (pred s)) ∧ Ext W w'

structure StayPredIn (w : World) (S : Nat → Prop) (K : Nat) (caps : Array Value) (pred : Ch.Stay → Bool) : Prop where
  enters : ∀ args w, (callFunc K args).run Tryd.prog w = .ok (.enter K args) w
  answers : ∀ (s : Ch.Stay) (W : World), Kept S w W → Calls Tryd.prog K (#[stayA s] ++ caps) W fun e w' => e = .returned (.bool (pred s)) ∧ Ext W w'

theorem StayPredIn.stay {w : World} {S : Nat → Prop} {K : Nat} {caps : Array Value} {pred : Ch.Stay → Bool} (h : StayPredIn w S K caps pred) : StayPred w K caps pred :=
  ⟨h.enters, fun s W x => h.answers s W (Kept.of_ext x)⟩

theorem index_split {α : Type} (p : α → Bool) (l : List α) : (Ch.indexOf p l = -1 ∧ l.filter (fun x => !p x) = l) ∨ ∃ (k : Nat) (x : α), Ch.indexOf p l = (k : Int) ∧ l[k]? = some x ∧ p x = true ∧ ∀ j s, j < k → l[j]? = some s → p s = false := by
  unfold Ch.indexOf
  cases h : l.findIdx? p with
  | none =>
    rw [List.findIdx?_eq_none_iff] at h
    exact Or.inl ⟨rfl, List.filter_eq_self.2 (fun x hx => by simp [h x hx])⟩
  | some k =>
    rw [List.findIdx?_eq_some_iff_getElem] at h
    obtain ⟨hk, hp, hb⟩ := h
    refine Or.inr ⟨k, l[k], rfl, by simp [hk], hp, fun j s hj hs => ?_⟩
    have hjl : j < l.length := by omega
    rw [List.getElem?_eq_getElem hjl] at hs
    cases hs
    have := hb j hj
    simpa using this

/-- what is left -/
def Left (w : World) (B e c : Nat) (v : Value) {α : Type} (enc : α → List Value) (l : List α) (en : Ending) (w' : World) : Prop :=
  ∃ v', en = .returned v' ∧ w'.ownsRow B e c v' l.length (l.flatMap enc) ∧ (∀ k, v'.ownBlock = some k → v.ownBlock = some k) ∧ Kept (fun k => v.ownBlock = some k) w w'

theorem index_at {P : Program} {F : FuncId} {args : Array Value} {w : World} {x y : Int} (h : Calls P F args w fun e w' => e = .returned (vi x) ∧ Ext w w') (e : Hid (x = y)) : Calls P F args w fun e w' => e = .returned (vi y) ∧ Ext w w' := by
  rw [← e.out]; exact h

end Go.Proofs.YtplomeacjbkgnacDoor
