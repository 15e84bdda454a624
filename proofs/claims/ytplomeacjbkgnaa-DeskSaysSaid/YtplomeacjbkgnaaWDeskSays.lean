/-
  The walk of DeskSays.
-/
import Derived.Test.YtplomeacjbkgnaaDeskBack
namespace Go.Proofs.Ytplomeacjbkgnaa
open Go.RowKit

theorem ext_to {w w' : World} (o : Array Obj) (n : Nat) (h : w' = w.plus o n) : Ext w w' := ⟨o, n, h⟩

/-- a world is named, with what is known of it -/
theorem gen_wp {f : World → Prop} {W : World} (p : World → Prop) (hp : p W) (h : ∀ w3, p w3 → f w3) : f W := h W hp

theorem Sl.keptX {α : Type} {w w' W : World} {c : Nat} {enc : α → List Value} {l : List α} {a : Option Addr} {n cap T : Nat} (h0 : Sl W c enc l a n cap) (h : Sl w c enc l a n cap) (k : Kept (Is T) w w') (hT : W.heap.size ≤ T) (he : ∀ x, enc x ≠ []) : Sl w' c enc l a n cap :=
  Sl.kept h k (fun hn b o e => by subst e; have := Sl.block_lt h0 hn he; omega)

theorem want_us {b x : Ch.Book} {t g : Int} (h : wantR (Ch.want b t) = (x, g)) : x.stays = [] ∨ x.stays = b.stays := by
  unfold Ch.want at h
  split at h
  · simp only [wantR, Prod.mk.injEq] at h; rw [← h.1]; exact Or.inl rfl
  · split at h
    · simp only [wantR, Prod.mk.injEq] at h; rw [← h.1]; exact Or.inl rfl
    · split at h
      · simp only [wantR, Prod.mk.injEq] at h; rw [← h.1]; exact Or.inl rfl
      · simp only [wantR, Prod.mk.injEq] at h; rw [← h.1]; exact Or.inr rfl

set_option maxRecDepth 100000 in
set_option maxHeartbeats 16000000 in
theorem deskSays_walk (last id lo hi he jt : Int) (jf gone : Bool) (a1 : Option Addr) (m1 c1 : Nat) (a2 : Option Addr) (m2 c2 : Nat) (aL : Option Addr) (nL cL : Nat) (l : List Ch.Stay) (js : List Ch.Job) (ls : List Ch.Size) (w : World)
    (h : Sl w 8 stayCells l a1 m1 c1) (h2 : Sl w 2 jobCells js a2 m2 c2) (hL : Sl w 3 sizeCells ls aL nL cL) :
    Calls Try.prog 8 #[bookA last a1 m1 c1 a2 m2 c2, .slice aL nL cL, .agg #[vi id, vi lo, vi hi, vi he], .agg #[vi jt, .bool jf], .bool gone] w fun e w' => e = .returned (.bool true) ∧ Ext w w' := by
  have b0 := hL.bound
  have bs0 := h.bound
  have bj0 := h2.bound
  have HF := Lib.hid h
  have HJ := Lib.hid h2
  have HL := Lib.hid hL
  have E1 := Lib.hid h.len
  have E2 := Lib.hid h2.len
  have E3 := Lib.hid hL.len
  clear h h2 hL
  go_enter Try.func8, Try.ntmps8
  go_upto_region 1 with fail
  generalize hW : World.alloc _ _ = w0
  have k0 : w0.cell? ⟨w.heap.size, 0, none⟩ = some (vi last) := by rw [← hW]; simp [go_sem]
  have k1 : w0.cell? ⟨w.heap.size, 1, none⟩ = some (.slice a1 m1 c1) := by rw [← hW]; simp [go_sem]
  have k2 : w0.cell? ⟨w.heap.size, 2, none⟩ = some (.slice a2 m2 c2) := by rw [← hW]; simp [go_sem]
  have q0 : w0.cell? ⟨w.heap.size + 1, 0, none⟩ = some (vi id) := by rw [← hW]; simp [go_sem]
  have q1 : w0.cell? ⟨w.heap.size + 1, 1, none⟩ = some (vi lo) := by rw [← hW]; simp [go_sem]
  have q2 : w0.cell? ⟨w.heap.size + 1, 2, none⟩ = some (vi hi) := by rw [← hW]; simp [go_sem]
  have q3 : w0.cell? ⟨w.heap.size + 1, 3, none⟩ = some (vi he) := by rw [← hW]; simp [go_sem]
  have j0 : w0.cell? ⟨w.heap.size + 1 + 1, 0, none⟩ = some (vi jt) := by rw [← hW]; simp [go_sem]
  have j1 : w0.cell? ⟨w.heap.size + 1 + 1, 1, none⟩ = some (.bool jf) := by rw [← hW]; simp [go_sem]
  have hx : Ext w w0 := by rw [← hW]; exact (by simp (maxDischargeDepth := 60))
  have HX := Lib.hid hx
  have HS := Lib.hid (Sl.below HF.out hx.below)
  have HK := Lib.hid (Sl.below HJ.out hx.below)
  have HZ := Lib.hid (Sl.below HL.out hx.below)
  have z1 := cell_lt k0
  have z2 := cell_lt q1
  have z3 := cell_lt j0
  clear hW hx
  cases hb : decide (m1 ≤ 20 ∧ m2 ≤ 12)
  · have HB := Lib.hid hb
    clear hb
    go_wp2_with (first | (go_at_call 63; (with_reducible refine (desks_any _).mono ?_); rintro e w1 ⟨rfl, o1, n1, rfl⟩) | (go_at_call 64; (with_reducible refine (lightBook_any false _ _ _ _ _ _ _ _ HB).mono ?_); rintro e w1 ⟨rfl, o1, n1, rfl⟩))
    go_ret
    exact ⟨rfl, HX.out.trans (by simp (maxDischargeDepth := 60))⟩
  have HB := Lib.hid hb
  have hb12 := of_decide_eq_true hb
  have hm1 : m1 ≤ 20 := hb12.1
  have hm2 : m2 ≤ 12 := hb12.2
  clear hb hb12
  by_cases h6 : 6 < nL
  · have i6 : (6 : Int) < (nL : Int) := by omega
    go_wp2_with (first | (go_at_call 63; (with_reducible refine (desks_any _).mono ?_); rintro e w1 ⟨rfl, o1, n1, rfl⟩) | (go_at_call 64; (with_reducible refine (lightBook_any true _ _ _ _ _ _ _ _ HB).mono ?_); rintro e w1 ⟨rfl, o1, n1, rfl⟩))
    go_ret
    exact ⟨rfl, HX.out.trans (by simp (maxDischargeDepth := 60))⟩
  have i6 : (nL : Int) ≤ 6 := by omega
  have i6' : ¬ ((6 : Int) < (nL : Int)) := by omega
  by_cases hlf : Ch.levelsFault ls = 0
  · have HLV : Hid (Ch.levelsFault ls = 0) := hlf
    have n1 := levels_len hlf
    rw [E3.out] at n1
    have nn1 := n1.1
    have nn4 := n1.2
    have i4 : (nL : Int) ≤ 4 := by omega
    have i1 : (1 : Int) ≤ (nL : Int) := by omega
    clear hlf n1
    by_cases hbf : Ch.bookFault ⟨last, l, js⟩ (nL : Int) = 0
    · have HBF : Hid (Ch.bookFault ⟨last, l, js⟩ (nL : Int) = 0) := hbf
      have hok := Ch.bookFault_iff.1 hbf
      have l0 := hok.l1
      have l9 := hok.l2
      dsimp only at l0 l9
      have hdp : ∀ s ∈ l, s.home.depth = 0 ∨ s.home.depth = 1 := by
        intro s hs
        have := Ch.placeFault_iff.1 (hok.stays.1 s hs).2.1
        omega
      have htk : ∀ s ∈ l, 1 ≤ s.ticket := fun s hs => (hok.stays.1 s hs).2.2.1
      have HDP := Lib.hid hdp
      have HTK := Lib.hid htk
      clear hbf hok hdp htk
      obtain ⟨px, py, pz, bb, HPV⟩ : ∃ px py pz bb, Hid (pickV (Ch.pick ⟨last, l, js⟩ ls ⟨id, ⟨lo, hi, he⟩⟩) = .tuple #[.agg #[vi px, vi py, vi pz], .bool bb]) := ⟨_, _, _, _, rfl⟩
      obtain ⟨⟨xl, xs, xj⟩, kk, f, HPK⟩ : ∃ x kk f, Hid (parkR (Ch.park ⟨last, l, js⟩ ls ⟨id, ⟨lo, hi, he⟩⟩) = (x, kk, f)) := ⟨_, _, _, rfl⟩
      obtain ⟨⟨ul, us, uj⟩, g, HWT⟩ : ∃ x g, Hid (wantR (Ch.want ⟨last, l, js⟩ jt) = (x, g)) := ⟨_, _, rfl⟩
      obtain ⟨⟨vl, vs, vj⟩, HDN⟩ : ∃ x, Hid (Ch.doneWith ⟨last, l, js⟩ ⟨jt, jf⟩ gone = x) := ⟨_, rfl⟩
      have NF : Hid (0 ≤ f) := by have := park_nn ⟨last, l, js⟩ ls ⟨id, ⟨lo, hi, he⟩⟩; rw [HPK.out] at this; exact this
      have NG : Hid (0 ≤ g) := by have := want_nn ⟨last, l, js⟩ jt; rw [HWT.out] at this; exact this
      have hq : ∀ w, (Go.binOp .neq 23 (.agg #[vi px, vi py, vi pz]) (.agg #[vi px, vi py, vi pz])).run Try.prog w = .ok (.bool false) w := fun w => by rw [neqStruct w (eqPlace w 9998 ⟨px, py, pz⟩ ⟨px, py, pz⟩)]; simp
      go_upto_region 8 with (first
        | (go_at_call 63; (with_reducible refine (desks_any _).mono ?_); rintro e w1 ⟨rfl, o1, n1, rfl⟩)
        | (go_at_call 64; (with_reducible refine (lightBook_any true _ _ _ _ _ _ _ _ HB).mono ?_); rintro e w1 ⟨rfl, o1, n1, rfl⟩)
        | (go_at_call 36; (with_reducible refine (rlevels_at 0 _ _ _ ls _ (Sl.below HZ.out (Ext.below (by simp (maxDischargeDepth := 60)))) HLV).mono ?_); rintro e w1 ⟨rfl, o1, n1, rfl⟩)
        | (go_at_call 65; (with_reducible refine (rfault_at 0 last (nL : Int) a1 m1 c1 a2 m2 c2 l js _ (Sl.below HS.out (Ext.below (by simp (maxDischargeDepth := 60)))) (Sl.below HK.out (Ext.below (by simp (maxDischargeDepth := 60)))) i1 i4 HBF).mono ?_); rintro e w1 ⟨rfl, o1, n1, rfl⟩)
        | (go_at_call 66; (with_reducible refine (pick_at px py pz bb last id lo hi he a1 m1 c1 a2 m2 c2 aL nL cL l js ls _ (Sl.below HS.out (Ext.below (by simp (maxDischargeDepth := 60)))) (Sl.below HK.out (Ext.below (by simp (maxDischargeDepth := 60)))) (Sl.below HZ.out (Ext.below (by simp (maxDischargeDepth := 60)))) nn1 nn4 HPV).mono ?_); rintro e w1 ⟨rfl, o1, n1, rfl⟩)
        | (go_at_call 67; (with_reducible refine (rpicked_at _ last id lo hi he a1 m1 c1 a2 m2 c2 aL nL cL l js ls _ (Sl.below HS.out (Ext.below (by simp (maxDischargeDepth := 60)))) (Sl.below HK.out (Ext.below (by simp (maxDischargeDepth := 60)))) (Sl.below HZ.out (Ext.below (by simp (maxDischargeDepth := 60)))) nn1 nn4 HDP.out HPV).mono ?_); rintro e w1 ⟨rfl, o1, n1, rfl⟩))
      generalize hW : World.alloc _ _ = wa
      have hxa : Ext w0 wa := by rw [← hW]; exact (by simp (maxDischargeDepth := 60))
      clear hW
      have ka0 := ext_cell hxa k0
      have ka1 := ext_cell hxa k1
      have ka2 := ext_cell hxa k2
      have qa0 := ext_cell hxa q0
      have qa1 := ext_cell hxa q1
      have qa2 := ext_cell hxa q2
      have qa3 := ext_cell hxa q3
      have ja0 := ext_cell hxa j0
      have ja1 := ext_cell hxa j1
      have za1 := cell_lt ka0
      have za2 := cell_lt qa1
      have za3 := cell_lt ja0
      have HXA := Lib.hid hxa
      have SA := Lib.hid (Sl.below HS.out hxa.below)
      have JA := Lib.hid (Sl.below HK.out hxa.below)
      have LA := Lib.hid (Sl.below HZ.out hxa.below)
      clear hxa k0 k1 k2 q0 q1 q2 q3 j0 j1 z1 z2 z3 hq
      go_upto_region 9 with (go_at_call 68; (with_reducible refine (park_back last id lo hi he a1 m1 c1 a2 m2 c2 aL nL cL l js ls _ SA.out JA.out LA.out nn1 nn4 (by omega) (by omega) l0 l9 ⟨xl, xs, xj⟩ kk f HPK).mono ?_); rintro e wp ⟨y1, d1, y2, d2, rfl, s1, s2, hxp, m1y, m2y⟩)
      generalize hW : World.alloc _ _ = wb
      generalize hX : wp.heap.size = X
      have hxb : Ext wa wb := by rw [← hW]; exact hxp.alloc _
      have kx0 : wb.cell? ⟨X, 0, none⟩ = some (vi xl) := by rw [← hW, ← hX]; simp [go_sem]
      have kx1 : wb.cell? ⟨X, 1, none⟩ = some (.slice y1 xs.length d1) := by rw [← hW, ← hX]; simp [go_sem]
      have kx2 : wb.cell? ⟨X, 2, none⟩ = some (.slice y2 xj.length d2) := by rw [← hW, ← hX]; simp [go_sem]
      have fx : ∀ i, wb.frozen? ⟨X, i, none⟩ = false := by intro i; rw [← hW, ← hX]; simp [go_sem]
      have sx1 : Sl wb 8 stayCells xs y1 xs.length d1 := by rw [← hW]; exact Sl.alloc s1 _
      have sx2 : Sl wb 2 jobCells xj y2 xj.length d2 := by rw [← hW]; exact Sl.alloc s2 _
      have BX := Lib.hid (⟨kx0, kx1, kx2, fx⟩ : BookCell wb X (vi xl) (.slice y1 xs.length d1) (.slice y2 xj.length d2))
      have SX1 := Lib.hid sx1
      have SX2 := Lib.hid sx2
      have HXB := Lib.hid hxb
      have kb0 := ext_cell hxb ka0
      have kb1 := ext_cell hxb ka1
      have kb2 := ext_cell hxb ka2
      have qb0 := ext_cell hxb qa0
      have qb1 := ext_cell hxb qa1
      have qb2 := ext_cell hxb qa2
      have qb3 := ext_cell hxb qa3
      have jb0 := ext_cell hxb ja0
      have jb1 := ext_cell hxb ja1
      have zb1 := cell_lt kb0
      have zb2 := cell_lt qb1
      have zb3 := cell_lt jb0
      have zx := cell_lt kx0
      have hX0 : w.heap.size + 1 + 1 < X := by rw [← hX]; have := hxp.below.size; omega
      have SB := Lib.hid (Sl.below SA.out hxb.below)
      have JB := Lib.hid (Sl.below JA.out hxb.below)
      have LB := Lib.hid (Sl.below LA.out hxb.below)
      clear hW hX hxb ka0 ka1 ka2 qa0 qa1 qa2 qa3 ja0 ja1 za1 za2 za3 s1 s2 sx1 sx2 hxp kx0 kx1 kx2 fx
      go_upto_region 10 with (go_at_call 69; (with_reducible refine (rpark_back last id lo hi he a1 m1 c1 a2 m2 c2 aL nL cL l js ls _ SB.out JB.out LB.out nn1 nn4 HDP.out HTK.out (by omega) (by omega) l0 l9 ⟨xl, xs, xj⟩ kk f HPK).mono ?_); rintro e wp ⟨y3, d3, y4, d4, rfl, s3, s4, hxp, -, -⟩)
      generalize hW : World.alloc _ _ = wc
      generalize hY : wp.heap.size = Y
      have hxc : Ext wb wc := by rw [← hW]; exact hxp.alloc _
      have ky0 : wc.cell? ⟨Y, 0, none⟩ = some (vi xl) := by rw [← hW, ← hY]; simp [go_sem]
      have ky1 : wc.cell? ⟨Y, 1, none⟩ = some (.slice y3 xs.length d3) := by rw [← hW, ← hY]; simp [go_sem]
      have ky2 : wc.cell? ⟨Y, 2, none⟩ = some (.slice y4 xj.length d4) := by rw [← hW, ← hY]; simp [go_sem]
      have fy : ∀ i, wc.frozen? ⟨Y, i, none⟩ = false := by intro i; rw [← hW, ← hY]; simp [go_sem]
      have sy1 : Sl wc 8 stayCells xs y3 xs.length d3 := by rw [← hW]; exact Sl.alloc s3 _
      have sy2 : Sl wc 2 jobCells xj y4 xj.length d4 := by rw [← hW]; exact Sl.alloc s4 _
      have hXY : X < Y := by rw [← hY]; have := hxp.below.size; omega
      have BY := Lib.hid (⟨ky0, ky1, ky2, fy⟩ : BookCell wc Y (vi xl) (.slice y3 xs.length d3) (.slice y4 xj.length d4))
      have BXc := Lib.hid (BX.out.ext hxc)
      have SY1 := Lib.hid sy1
      have SY2 := Lib.hid sy2
      have SXc := Lib.hid (Sl.below SX1.out hxc.below)
      have SXd := Lib.hid (Sl.below SX2.out hxc.below)
      have HXC := Lib.hid hxc
      have kx0 := BXc.out.c0
      have kx1 := BXc.out.c1
      have kx2 := BXc.out.c2
      have kc0 := ext_cell hxc kb0
      have kc1 := ext_cell hxc kb1
      have kc2 := ext_cell hxc kb2
      have jc0 := ext_cell hxc jb0
      have jc1 := ext_cell hxc jb1
      have zc1 := cell_lt kc0
      have zc3 := cell_lt jc0
      have zx := cell_lt kx0
      have zy := cell_lt ky0
      have SC := Lib.hid (Sl.below SB.out hxc.below)
      have JC := Lib.hid (Sl.below JB.out hxc.below)
      clear hW hY hxc kb0 kb1 kb2 qb0 qb1 qb2 qb3 jb0 jb1 zb1 zb2 zb3 s3 s4 sy1 sy2 hxp fy BX SX1 SX2 SB JB LB SA JA LA HS HK HZ
      go_upto_region 12 with (first
        | (go_at_call 30; (with_reducible refine (same_yes f _ NF.out).mono ?_); rintro e w1 ⟨rfl, o1, n1, rfl⟩)
        | (go_at_call 70; (with_reducible refine (sameBook_yes xl y1 xs.length d1 y2 xj.length d2 y3 d3 y4 d4 xs xj _ (Sl.below SXc.out (Ext.below (by simp (maxDischargeDepth := 60)))) (Sl.below SXd.out (Ext.below (by simp (maxDischargeDepth := 60)))) (Sl.below SY1.out (Ext.below (by simp (maxDischargeDepth := 60)))) (Sl.below SY2.out (Ext.below (by simp (maxDischargeDepth := 60))))).mono ?_); rintro e w1 ⟨rfl, o1, n1, rfl⟩))
      refine gen_wp (fun w3 => Ext wc w3) (by simp (maxDischargeDepth := 60)) ?_
      intro wd hxd
      have kd0 := ext_cell hxd kc0
      have kd1 := ext_cell hxd kc1
      have kd2 := ext_cell hxd kc2
      have jd0 := ext_cell hxd jc0
      have jd1 := ext_cell hxd jc1
      have zd1 := cell_lt kd0
      have zd3 := cell_lt jd0
      have BXd := Lib.hid (BXc.out.ext hxd)
      have BYd := Lib.hid (BY.out.ext hxd)
      have SD := Lib.hid (Sl.below SC.out hxd.below)
      have JD := Lib.hid (Sl.below JC.out hxd.below)
      have HXD := Lib.hid hxd
      have zX := BXd.out.lt
      have zY := BYd.out.lt
      clear hxd kc0 kc1 kc2 jc0 jc1 kx0 kx1 kx2 zc1 zc3 zx zy ky0 ky1 ky2 BXc BY SC JC SXc SXd SY1 SY2
      go_upto_region 13 with (go_at_call 71; (with_reducible refine (want_back last jt a1 m1 c1 a2 m2 c2 l js _ SD.out JD.out (by omega) (by omega) ⟨ul, us, uj⟩ g HWT).mono ?_); rintro e we ⟨y5, d5, y6, d6, rfl, s5, s6, hxe, f5, f6⟩; have x0 := (BXd.out.ext hxe).c0; have x1 := (BXd.out.ext hxe).c1; have x2 := (BXd.out.ext hxe).c2; have xf := (BXd.out.ext hxe).fz; have zxe := cell_lt x0; replace hxe := Lib.hid hxe; replace s5 := Lib.hid s5; replace s6 := Lib.hid s6; replace f5 := Lib.hid f5; replace f6 := Lib.hid f6)
      refine gen_wp (fun w3 => BookCell w3 X (vi ul) (.slice y5 us.length d5) (.slice y6 uj.length d6) ∧ Kept (Is X) we w3) ⟨(BXd.out.ext hxe.out).set _ _ _, (((Kept.refl (Is X) we).put 0 _).put 1 _).put 2 _⟩ ?_
      rintro wf ⟨bx, hkf⟩
      have hYX : Y ≠ X := by omega
      have kf0 := hkf.cell (xcell hxe.out kd0) (by omega)
      have kf1 := hkf.cell (xcell hxe.out kd1) (by omega)
      have kf2 := hkf.cell (xcell hxe.out kd2) (by omega)
      have jf0 := hkf.cell (xcell hxe.out jd0) (by omega)
      have jf1 := hkf.cell (xcell hxe.out jd1) (by omega)
      have BYf := Lib.hid (((BYd.out.ext hxe.out).same (hkf.other (BYd.out.ext hxe.out).lt hYX)))
      have SF := Lib.hid (Sl.keptX HF.out (Sl.below SD.out hxe.out.below) hkf (by omega) (by intro x; simp [stayCells]))
      have JF := Lib.hid (Sl.keptX HJ.out (Sl.below JD.out hxe.out.below) hkf (by omega) (by intro x; simp [jobCells]))
      have S5 := Lib.hid (Sl.kept s5.out hkf (fun _ b o e => by rcases f5.out b o e with h | h <;> first | omega | (rw [e] at h; cases h)))
      have S6 := Lib.hid (Sl.kept s6.out hkf (fun _ b o e => by have := f6.out b o e; omega))
      have g5 : Hid (∀ b o, y5 = some ⟨b, o, none⟩ → b ≠ Y) := fun b o e => by rcases f5.out b o e with h | h <;> first | omega | (rw [e] at h; cases h)
      have g6 : Hid (∀ b o, y6 = some ⟨b, o, none⟩ → b ≠ Y) := fun b o e => by have := f6.out b o e; omega
      have HKF := Lib.hid hkf
      have BXf := Lib.hid bx
      have zf1 := cell_lt kf0
      have zf3 := cell_lt jf0
      have zfX := bx.lt
      have zfY := BYf.out.lt
      have HXE := Lib.hid ((HXD.out).trans hxe.out)
      clear hkf bx kd0 kd1 kd2 jd0 jd1 zd1 zd3 zX zY BXd BYd SD JD s5 s6 f5 f6 hxe x0 x1 x2 xf zxe
      go_upto_region 14 with (go_at_call 72; (with_reducible refine (rwant_back last jt a1 m1 c1 a2 m2 c2 l js _ SF.out JF.out (by omega) ⟨ul, us, uj⟩ g HWT).mono ?_); rintro e wg ⟨y7, d7, y8, d8, rfl, s7, s8, hxg, f7, f8⟩; have x0 := (BYf.out.ext hxg).c0; have x1 := (BYf.out.ext hxg).c1; have x2 := (BYf.out.ext hxg).c2; have xf := (BYf.out.ext hxg).fz; have zxe := cell_lt x0; replace hxg := Lib.hid hxg; replace s7 := Lib.hid s7; replace s8 := Lib.hid s8; replace f7 := Lib.hid f7; replace f8 := Lib.hid f8)
      refine gen_wp (fun w3 => BookCell w3 Y (vi ul) (.slice y7 us.length d7) (.slice y8 uj.length d8) ∧ Kept (Is Y) wg w3) ⟨(BYf.out.ext hxg.out).set _ _ _, (((Kept.refl (Is Y) wg).put 0 _).put 1 _).put 2 _⟩ ?_
      rintro wh ⟨by', hkh⟩
      have hXY' : X ≠ Y := by omega
      have kg0 := hkh.cell (xcell hxg.out kf0) (by omega)
      have kg1 := hkh.cell (xcell hxg.out kf1) (by omega)
      have kg2 := hkh.cell (xcell hxg.out kf2) (by omega)
      have jg0 := hkh.cell (xcell hxg.out jf0) (by omega)
      have jg1 := hkh.cell (xcell hxg.out jf1) (by omega)
      have BXg := ((BXf.out.ext hxg.out).same (hkh.other (BXf.out.ext hxg.out).lt hXY'))
      have SG := Lib.hid (Sl.keptX HF.out (Sl.below SF.out hxg.out.below) hkh (by omega) (by intro x; simp [stayCells]))
      have JG := Lib.hid (Sl.keptX HJ.out (Sl.below JF.out hxg.out.below) hkh (by omega) (by intro x; simp [jobCells]))
      have T5 := Lib.hid (Sl.kept (Sl.below S5.out hxg.out.below) hkh (fun _ b o e => g5.out b o e))
      have T6 := Lib.hid (Sl.kept (Sl.below S6.out hxg.out.below) hkh (fun _ b o e => g6.out b o e))
      have T7 := Lib.hid (Sl.kept s7.out hkh (fun hp b o e => by
        rcases f7.out b o e with h | h
        · omega
        · rcases want_us HWT.out with hu | hu
          · dsimp only at hu; subst hu; exact absurd hp (by simp)
          · dsimp only at hu
            rw [e] at h
            have h0 := HF.out
            rw [← h] at h0
            have := Sl.block_lt h0 (by rw [hu] at hp; rw [← E1.out]; exact hp) (by intro x; simp [stayCells])
            omega))
      have T8 := Lib.hid (Sl.kept s8.out hkh (fun _ b o e => by have := f8.out b o e; omega))
      have HXH : Hid (Ext w w0) := HX
      have zg1 := cell_lt kg0
      have zg3 := cell_lt jg0
      have v0 := BXg.c0
      have v1 := BXg.c1
      have v2 := BXg.c2
      have u0 := by'.c0
      have u1 := by'.c1
      have u2 := by'.c2
      have zgX := cell_lt v0
      have zgY := cell_lt u0
      have hExt : Hid (Ext w wh) := by
        have e1 : Ext w wf := Kept.widen HKF.out (((((HX.out.trans HXA.out).trans HXB.out).trans HXC.out).trans HXE.out)) (by omega)
        exact Kept.widen hkh (e1.trans hxg.out) (by omega)
      clear hkh by' BXg kf0 kf1 kf2 jf0 jf1 zf1 zf3 zfX zfY BXf BYf SF JF S5 S6 g5 g6 HKF s7 s8 f7 f8 hxg x0 x1 x2 xf zxe
      go_region_held3 (fun w' => w'.cell? ⟨w.heap.size, 0, none⟩ = some (vi last) ∧ w'.cell? ⟨w.heap.size, 1, none⟩ = some (.slice a1 m1 c1) ∧ w'.cell? ⟨w.heap.size, 2, none⟩ = some (.slice a2 m2 c2) ∧ w'.cell? ⟨w.heap.size + 1 + 1, 0, none⟩ = some (vi jt) ∧ w'.cell? ⟨w.heap.size + 1 + 1, 1, none⟩ = some (.bool jf) ∧ w'.cell? ⟨X, 0, none⟩ = some (vi ul) ∧ w'.cell? ⟨X, 1, none⟩ = some (.slice y5 us.length d5) ∧ w'.cell? ⟨X, 2, none⟩ = some (.slice y6 uj.length d6) ∧ w'.cell? ⟨Y, 0, none⟩ = some (vi ul) ∧ w'.cell? ⟨Y, 1, none⟩ = some (.slice y7 us.length d7) ∧ w'.cell? ⟨Y, 2, none⟩ = some (.slice y8 uj.length d8))
        (first | ((try dsimp only); (repeat' apply And.intro) <;> first | (with_reducible assumption) | (refine xcell (w := wh) ?_ (by with_reducible assumption); simp (maxDischargeDepth := 60); done)))
        (first
          | (go_at_call 30; (with_reducible refine (same_yes g _ NG.out).mono ?_); rintro e w1 ⟨rfl, oA, nA, rfl⟩)
          | (go_at_call_of 70 (Value.agg #[vi ul, Value.slice y5 us.length d5, Value.slice y6 uj.length d6]); (with_reducible refine (sameBook_yes ul y5 us.length d5 y6 uj.length d6 y7 d7 y8 d8 us uj _ (Sl.below T5.out (Ext.below (by simp (maxDischargeDepth := 60)))) (Sl.below T6.out (Ext.below (by simp (maxDischargeDepth := 60)))) (Sl.below T7.out (Ext.below (by simp (maxDischargeDepth := 60)))) (Sl.below T8.out (Ext.below (by simp (maxDischargeDepth := 60))))).mono ?_); rintro e w1 ⟨rfl, oB, nB, rfl⟩)
          | (go_at_call 73; (with_reducible refine (done_any last jt jf gone a1 m1 c1 a2 m2 c2 l js _ (Sl.below SG.out (Ext.below (by simp (maxDischargeDepth := 60)))) (Sl.below JG.out (Ext.below (by simp (maxDischargeDepth := 60)))) (by omega) (by omega)).mono ?_); intro e wi hb; rw [HDN.out] at hb; obtain ⟨y9, d9, y10, d10, rfl, s9, s10, ⟨o9, n9, rfl⟩, -, -⟩ := NewBook.back (A := none) hb; clear hb; dsimp only at s9 s10 ⊢; replace s9 := Lib.hid s9; replace s10 := Lib.hid s10)
          | (go_at_call 74; (with_reducible refine (rdone_any last jt jf gone a1 m1 c1 a2 m2 c2 l js _ (Sl.below SG.out (Ext.below (by simp (maxDischargeDepth := 60)))) (Sl.below JG.out (Ext.below (by simp (maxDischargeDepth := 60)))) (by omega) (by omega)).mono ?_); intro e wi hb; rw [HDN.out] at hb; obtain ⟨y11, d11, y12, d12, rfl, s11, s12, ⟨o11, n11, rfl⟩, -, -⟩ := NewBook.back (A := none) hb; clear hb; dsimp only at s11 s12 ⊢; replace s11 := Lib.hid s11; replace s12 := Lib.hid s12)
          | (go_at_call_of 70 (Value.agg #[vi vl, Value.slice y9 vs.length d9, Value.slice y10 vj.length d10]); (with_reducible refine (sameBook_yes vl y9 vs.length d9 y10 vj.length d10 y11 d11 y12 d12 vs vj _ (by first | exact s9.out | exact Sl.below s9.out (Ext.below (ext_to o11 n11 (by simp only [plus_plus, Array.append_assoc]))) | exact Sl.below s9.out (Ext.below (by simp (maxDischargeDepth := 60)))) (by first | exact s10.out | exact Sl.below s10.out (Ext.below (ext_to o11 n11 (by simp only [plus_plus, Array.append_assoc]))) | exact Sl.below s10.out (Ext.below (by simp (maxDischargeDepth := 60)))) (by first | exact s11.out | exact Sl.below s11.out (Ext.below (by simp (maxDischargeDepth := 60)))) (by first | exact s12.out | exact Sl.below s12.out (Ext.below (by simp (maxDischargeDepth := 60))))).mono ?_); rintro e w1 ⟨rfl, oC, nC, rfl⟩)
          | (go_at_call_of 70 (bookA vl y9 vs.length d9 y10 vj.length d10); (with_reducible refine (sameBook_yes vl y9 vs.length d9 y10 vj.length d10 y11 d11 y12 d12 vs vj _ (by first | exact s9.out | exact Sl.below s9.out (Ext.below (ext_to o11 n11 (by simp only [plus_plus, Array.append_assoc]))) | exact Sl.below s9.out (Ext.below (by simp (maxDischargeDepth := 60)))) (by first | exact s10.out | exact Sl.below s10.out (Ext.below (ext_to o11 n11 (by simp only [plus_plus, Array.append_assoc]))) | exact Sl.below s10.out (Ext.below (by simp (maxDischargeDepth := 60)))) (by first | exact s11.out | exact Sl.below s11.out (Ext.below (by simp (maxDischargeDepth := 60)))) (by first | exact s12.out | exact Sl.below s12.out (Ext.below (by simp (maxDischargeDepth := 60))))).mono ?_); rintro e w1 ⟨rfl, oC, nC, rfl⟩))
      all_goals
        go_wp2
        go_ret
        exact ⟨rfl, hExt.out.trans (by simp (maxDischargeDepth := 60))⟩
    · obtain ⟨F, HBF⟩ : ∃ F, Hid (Ch.bookFault ⟨last, l, js⟩ (nL : Int) = F) := ⟨_, rfl⟩
      have hF : 0 < F := by have := bookFault_nn ⟨last, l, js⟩ (nL : Int); rw [HBF.out] at this hbf; omega
      clear hbf
      go_wp2_with (first
        | (go_at_call 63; (with_reducible refine (desks_any _).mono ?_); rintro e w1 ⟨rfl, o1, n1, rfl⟩)
        | (go_at_call 64; (with_reducible refine (lightBook_any true _ _ _ _ _ _ _ _ HB).mono ?_); rintro e w1 ⟨rfl, o1, n1, rfl⟩)
        | (go_at_call 36; (with_reducible refine (rlevels_at 0 _ _ _ ls _ (Sl.below HZ.out (Ext.below (by simp (maxDischargeDepth := 60)))) HLV).mono ?_); rintro e w1 ⟨rfl, o1, n1, rfl⟩)
        | (go_at_call 65; (with_reducible refine (rfault_at F last (nL : Int) a1 m1 c1 a2 m2 c2 l js _ (Sl.below HS.out (Ext.below (by simp (maxDischargeDepth := 60)))) (Sl.below HK.out (Ext.below (by simp (maxDischargeDepth := 60)))) i1 i4 HBF).mono ?_); rintro e w1 ⟨rfl, o1, n1, rfl⟩))
      go_ret
      exact ⟨rfl, HX.out.trans (by simp (maxDischargeDepth := 60))⟩
  · obtain ⟨F, HLV⟩ : ∃ F, Hid (Ch.levelsFault ls = F) := ⟨_, rfl⟩
    have hF : 0 < F := by have := levelsFault_nn ls; rw [HLV.out] at this hlf; omega
    clear hlf
    go_wp2_with (first
      | (go_at_call 63; (with_reducible refine (desks_any _).mono ?_); rintro e w1 ⟨rfl, o1, n1, rfl⟩)
      | (go_at_call 64; (with_reducible refine (lightBook_any true _ _ _ _ _ _ _ _ HB).mono ?_); rintro e w1 ⟨rfl, o1, n1, rfl⟩)
      | (go_at_call 36; (with_reducible refine (rlevels_at F _ _ _ ls _ (Sl.below HZ.out (Ext.below (by simp (maxDischargeDepth := 60)))) HLV).mono ?_); rintro e w1 ⟨rfl, o1, n1, rfl⟩))
    go_ret
    exact ⟨rfl, HX.out.trans (by simp (maxDischargeDepth := 60))⟩
end Go.Proofs.Ytplomeacjbkgnaa
