/-
  The walk of TopStay. (Laid by wip/mk_stay.py.)
-/
import Derived.Test.YtplomeacjbkgnabLists
import Derived.Deep.RegionHeld3
namespace Go.Proofs.Ytplomeacjbkgnab
open Go.RowKit

/-- how it stands with the machine at a round's head -/
structure StayAt (w wr : World) (pb mb : Nat) (p : Ch.Plant) : Prop where
  at_ : PlantAt wr pb mb p
  wf : p.WF
  nd : p.cars.Nodup
  below : Below w.heap.size w wr

theorem StayAt.next {w wr w' : World} {pb mb : Nat} {p q : Ch.Plant} (h : StayAt w wr pb mb p) (h1 : PlantAt w' pb mb q) (h2 : q.WF) (h3 : q.cars.Nodup) (k : Kept (Own pb mb) wr w') (hb1 : w.heap.size ≤ pb) (hb2 : w.heap.size ≤ mb) : StayAt w w' pb mb q :=
  ⟨h1, h2, h3, below_kept h.below (Nat.le_refl _) k (fun i hi => by rcases hi with rfl | rfl <;> omega)⟩

theorem StayAt.ext {w wr w' : World} {pb mb : Nat} {p : Ch.Plant} (h : StayAt w wr pb mb p) (x : Ext wr w') (hb1 : w.heap.size ≤ pb) (hb2 : w.heap.size ≤ mb) : StayAt w w' pb mb p :=
  h.next (h.at_.ext x) h.wf h.nd (Kept.of_ext x) hb1 hb2

theorem StayAt.grown {w wr w' : World} {pb mb : Nat} {p : Ch.Plant} {row : Option Nat} (h : StayAt w wr pb mb p) (g : wr.grownBy w' row) (hr : ∀ k, row = some k → w.heap.size ≤ k ∧ ¬ Own pb mb k) : StayAt w w' pb mb p := by
  have hl := h.at_.lt
  refine ⟨h.at_.same (g.block _ hl.1 fun e => (hr pb e.symm).2 (Or.inl rfl)) (g.block _ hl.2 fun e => (hr mb e.symm).2 (Or.inr rfl)), h.wf, h.nd, h.below.grown g h.below.size (fun k e => (hr k e).1)⟩

theorem NewInts.both {w : World} {l : List Int} {e : Ending} {w' : World} (h : NewInts w l e w') : ∃ a n cap, e = .returned (.slice a n cap) ∧ Sl w' 1 intCells l a n cap ∧ w'.ownsRow w.heap.size 3 1 (.slice a n cap) n (l.flatMap intCells) ∧ (∀ b o, a = some ⟨b, o, none⟩ → w.heap.size ≤ b) ∧ Ext w w' := by
  obtain ⟨v, rfl, ho, hx⟩ := h
  obtain ⟨a, cap, rfl, hs⟩ := Sl.of_owns ho (by decide) (fun _ => rfl)
  refine ⟨a, _, cap, rfl, hs, ho, ?_, hx⟩
  rintro b o rfl
  exact (ho.lt b rfl).1

theorem sl_keptB {α : Type} {w w' : World} {c : Nat} {enc : α → List Value} {l : List α} {a : Option Addr} {n cap : Nat} {S : Nat → Prop} (h : Sl w c enc l a n cap) (k : Kept S w w') (hs : ∀ b o, a = some ⟨b, o, none⟩ → ¬ S b) : Sl w' c enc l a n cap := by
  refine ⟨h.1, h.2.1, h.2.2.1, fun h0 => ?_⟩
  obtain ⟨b, o, rfl, hc⟩ := h.2.2.2 h0
  refine ⟨b, o, rfl, fun i x hx j y hy => ?_⟩
  exact cell_kept k (hc i x hx j y hy) (hs b o rfl)

theorem sl_take {α : Type} {w : World} {c : Nat} {enc : α → List Value} {l : List α} {a : Option Addr} {n cap : Nat} (h : Sl w c enc l a n cap) {m : Nat} (hm : m ≤ n) : Sl w c enc (l.take m) a m cap := by
  refine ⟨by rw [List.length_take, h.1]; omega, Nat.le_trans hm h.2.1, h.2.2.1, fun h0 => ?_⟩
  obtain ⟨b, o, e, f⟩ := h.2.2.2 (by omega)
  refine ⟨b, o, e, fun i x hx j y hy => f i x ?_ j y hy⟩
  rw [List.getElem?_take] at hx
  split at hx
  · exact hx
  · cases hx

theorem owns_keptB {w w' : World} {base e size : Nat} {v : Value} {n : Nat} {xs : List Value} {S : Nat → Prop} (h : w.ownsRow base e size v n xs) (k : Kept S w w') (hs : ∀ b, v.ownBlock = some b → ¬ S b) : w'.ownsRow base e size v n xs := by
  refine ⟨h.1, ?_⟩
  rcases h.2 with h2 | ⟨g, cap, cur, hv, hb, hg, hn, hc, hz, ht⟩
  · exact .inl h2
  · refine .inr ⟨g, cap, cur, hv, hb, ?_, hn, hc, hz, ht⟩
    subst hv
    rw [k.block g ?_ (hs g rfl)]
    · exact hg
    · rcases Nat.lt_or_ge g w.heap.size with hlt | hge
      · exact hlt
      · rw [Array.getElem?_eq_none hge] at hg; cases hg

theorem cars_len (p : Ch.Plant) : p.cars.length ≤ 18 := by rw [← carsTo_all]; exact carsTo_len p 16 (by omega)

theorem cars_ne {p : Ch.Plant} {v : Int} (h : v ∈ p.cars) : v ≠ 0 := by
  rintro rfl
  have := List.count_pos_iff.2 h
  rw [Ch.count_cars, if_pos rfl] at this
  omega

theorem nodup_take {l : List Int} (h : l.Nodup) {m : Nat} {y : Int} (hy : l[m]? = some y) : y ∉ l.take m := by
  intro hc
  obtain ⟨j, hj⟩ := List.getElem?_of_mem hc
  rw [List.getElem?_take] at hj
  split at hj
  · rename_i hlt
    have hl : m < l.length := by
      rcases Nat.lt_or_ge m l.length with h1 | h1
      · exact h1
      · rw [List.getElem?_eq_none h1] at hy; cases hy
    have h2 := (List.pairwise_iff_getElem.1 h) j m (by omega) hl hlt
    rw [List.getElem?_eq_getElem (by omega)] at hj hy
    exact h2 ((Option.some.inj hj).trans (Option.some.inj hy).symm)
  · cases hj

theorem filter_yes {l : List Int} {id y : Int} {j : Nat} (hy : l[j]? = some y) (h : (y != id) = true) : (l.take (j + 1)).filter (fun x => x != id) = (l.take j).filter (fun x => x != id) ++ [y] := by
  rw [List.take_add_one, hy, List.filter_append]
  simp [h]

theorem filter_no {l : List Int} {id y : Int} {j : Nat} (hy : l[j]? = some y) (h : (y != id) = false) : (l.take (j + 1)).filter (fun x => x != id) = (l.take j).filter (fun x => x != id) := by
  rw [List.take_add_one, hy, List.filter_append]
  simp [h]

theorem filter_len {l : List Int} {id : Int} {j : Nat} (h : l.length ≤ 18) : ((l.take j).filter (fun x => x != id)).length ≤ 18 := by
  have h1 := List.length_filter_le (fun x : Int => x != id) (l.take j)
  have h2 : (l.take j).length ≤ l.length := by rw [List.length_take]; omega
  omega

theorem arrive_nodup {p : Ch.Plant} (hp : p.WF) (hd : p.cars.Nodup) {a : Ch.Act} (h1 : a.kind = Ch.kArrive) : (p.arrive a.a).1.cars.Nodup := by
  have e : p.outside a = (p.arrive a.a).1 := by unfold Ch.Plant.outside; rw [h1]; rfl
  rw [← e]; exact Ch.nodup_next hp hd a

theorem leave_nodup {p : Ch.Plant} (hp : p.WF) (hd : p.cars.Nodup) {a : Ch.Act} (h1 : a.kind = Ch.kLeave) : p.leave.1.cars.Nodup := by
  have e : p.outside a = p.leave.1 := by unfold Ch.Plant.outside; rw [h1]; rfl
  rw [← e]; exact Ch.nodup_next hp hd a

set_option maxRecDepth 100000 in
set_option maxHeartbeats 4000000 in
theorem topStay_ok (L : Int) (a : Option Addr) (n cap : Nat) (l : List RAct) (w : World) (h : Sl w 12 ractCells l a n cap) (hg : ∀ x ∈ l, x.Good) (L1 : 1 ≤ L) (L2 : L ≤ 4) :
    Calls Try.prog 6 #[vi L, .slice a n cap] w fun e w' => e = .returned (.bool true) ∧ Ext w w' := by
  obtain ⟨i0, hi, hz0, hz1, hz2⟩ := info_parts infoInt
  have HS := Lib.hid h
  have HG := Lib.hid hg
  have hb := h.bound
  clear h hg
  go_enter Try.func6, Try.ntmps6
  go_wp2_with (first
    | (go_at_call 26; (with_reducible refine (moved_any _).mono ?_); rintro e w1 ⟨rfl, o1, n1, rfl⟩)
    | (go_at_call 22; (with_reducible refine (lightActs_any _ _ _ _ l _ (Sl.below HS.out (Ext.below (by simp (maxDischargeDepth := 60)))) HG.out).mono ?_); rintro e w2 ⟨lb, rfl, o2, n2, rfl⟩; cases lb)
    | (go_at_call 27; (with_reducible refine (new_any L _ L1 L2).mono ?_); rintro e w3 ⟨pb, mb, rfl, hq, hx, hb1, hb2⟩))
  · go_ret
    exact ⟨rfl, (by simp (maxDischargeDepth := 60))⟩
  have b1 : w.heap.size ≤ pb := by simp at hb1; omega
  have b2 : w.heap.size ≤ mb := by simp at hb2; omega
  have hx0 : Ext w w3 := Ext.trans (by simp (maxDischargeDepth := 60)) hx
  have S0 : StayAt w w3 pb mb (Ch.Plant.new L) := ⟨hq, Ch.Plant.WF.new L1 L2, by rw [Ch.new_cars]; exact List.nodup_nil, hx0.below⟩
  have HS0 := Lib.hid S0
  clear hq hx hx0 hb1 hb2 S0
  go_loopw [8] (fun i wr => ∃ (k : Nat) (p : Ch.Plant), k ≤ n ∧ i = .int .i64 k ∧ StayAt w wr pb mb p) (fun i _ => n - (intOf i).toNat)
  case atStart => exact ⟨0, _, by omega, rfl, HS0.out⟩
  case round =>
    obtain ⟨k, p, hk, rfl, hp⟩ := hrel
    have hwf := hp.wf
    have HND := Lib.hid hp.nd
    have HP := Lib.hid hp
    have hpl := hp.at_.lt
    have HCL := Lib.hid (cars_len p)
    by_cases hlt : k < n
    · obtain ⟨b, q, x0, rfl, hx0, dx0⟩ := HS.out.get hlt
      have dx0 := at12 dx0
      have hb0 := cell_lt dx0.1
      obtain ⟨x, hx, dx⟩ := (Sl.below HS.out hp.below).get' hlt
      have dx := at12 dx
      have hbl := cell_lt dx.1
      have hbo : ¬ Own pb mb b := by intro c; rcases c with c | c <;> omega
      have HBO := Lib.hid hbo
      have gx := HG.out x (List.mem_of_getElem? hx)
      have l1 := gx.s
      unfold maxLen at l1
      have GX := Lib.hid gx
      clear hp gx hx hx0 dx0 hbo
      by_cases hk1 : x.kind = Ch.kArrive
      · have e1 : (x.kind.toList == [97, 114, 114, 105, 118, 101]) = true := kind_is hk1
        have HND' := Lib.hid (arrive_nodup (a := x.act) hwf HND.out hk1)
        clear hk1
        by_cases h7 : (p.arrive x.a).2 = 0
        · have HZ : Hid (errV (p.arrive x.a).2 = .nilIface) := by unfold Hid; rw [h7]; rfl
          have HAC := Lib.hid (Ch.arrive_cars hwf x.a h7)
          have HPB := Lib.hid HP.out.below.size
          clear h7
          go_upto_region 17 with (first
            | (go_at_call 28; refine (cars_any (HP.out.at_.ext (by simp (maxDischargeDepth := 60))) hwf).mono ?_; rintro e wc hc; obtain ⟨ca, cn, cc, rfl, hcl, hcw, hcb, oC, nC, rfl⟩ := NewInts.both hc; clear hc; have HCS := Lib.hid hcl; have HCW := Lib.hid hcw; have HCB := Lib.hid hcb; clear hcl hcw hcb)
            | (go_at_call 29; (with_reducible refine (arrive_any (HP.out.at_.ext (by simp (maxDischargeDepth := 60))) hwf x.a).mono ?_); rintro e w4 ⟨he, hq4, hk4'⟩; rw [HZ.out] at he; subst he))
          have hk4 : Kept (Own pb mb) wr w4 := (Kept.of_ext (by simp (maxDischargeDepth := 60))).trans hk4'
          have hlc : cn ≤ 18 := by have := HCS.out.len; have := HCL.out; omega
          have HN4 := Lib.hid (HP.out.next hq4 (hwf.arrive _) HND'.out hk4 b1 b2)
          have d4 := cell_kept hk4 dx.2.1 HBO.out
          have hb4 := cell_lt d4
          have HK4 := Lib.hid hk4'
          have HC4 := Lib.hid (sl_keptB (Sl.below HCS.out (Ext.below (by simp (maxDischargeDepth := 60)))) hk4' (fun b o e c => by have := HCB.out b o e; rcases c with c | c <;> omega))
          have HW4 := Lib.hid (owns_keptB (owns_later HCW.out (by simp (maxDischargeDepth := 60))) hk4' (fun b e c => by have := owns_block HCW.out b e; rcases c with c | c <;> omega))
          clear hq4 hk4 hk4'
          go_upto_region 30 with (at_builtin; refine wpList_append_lies _ rfl _ _ _ rfl wr.heap.size 3 i0 _ 1 8 Try.underlying64 hi hz0 hz1 hz2 rfl (by decide) (.slice ca cn cc) cn (p.cars.flatMap intCells) rfl (owns_later HW4.out (by simp (maxDischargeDepth := 60))) _ 1 1 [vi x.a] rfl rfl (World.news_of_block (alloc_at _ _ _ (by simp))) (by simp [Value.oneCell']) (by decide) (by unfold maxLen; omega) (by omega) (by have := HK4.out.size; simp at this; first | omega | (simp; omega)) _ rfl ?_; intro gg capB w5 hown5 hgrow hat hlt5; have HN := Lib.hid ((HN4.out.ext (by simp (maxDischargeDepth := 60)) b1 b2).grown hgrow (fun k e => by have h1 := owns_block HCW.out k e; refine ⟨by have := HPB.out; omega, fun c => ?_⟩; rcases c with c | c <;> omega)); have HO := Lib.hid hown5; clear hown5 hgrow hat hlt5)
          have HSL0 : ∃ sa sc, Value.slice (some ⟨gg, 0, none⟩) (cn + 1) capB = .slice sa (cn + 1) sc ∧ Sl w5 1 intCells (p.cars ++ [x.a]) sa (cn + 1) sc := Sl.of_owns (c := 1) (enc := intCells) (by rw [List.flatMap_append]; exact HO.out) (by decide) (fun _ => rfl)
          have HSL : Hid (Sl w5 1 intCells (p.cars ++ [x.a]) (some ⟨gg, 0, none⟩) (cn + 1) capB) := by
            unfold Hid
            obtain ⟨sa, sc, e, hs⟩ := HSL0
            cases e
            exact hs
          clear HSL0
          have HPM := Lib.hid HAC.out.1
          have HQW := Lib.hid HN.out.wf
          go_upto_region 33 with (first
            | (go_at_call 28; refine (cars_any (HN.out.at_.ext (by simp (maxDischargeDepth := 60))) HQW.out).mono ?_; rintro e wc hc; obtain ⟨na, nn, nc, rfl, hnl, hnw, hnb, hxn⟩ := NewInts.both hc; clear hc hnw hnb; have HNL := Lib.hid hnl; have HNN := Lib.hid (HN.out.ext (Ext.trans (by simp (maxDischargeDepth := 60)) hxn) b1 b2); have HSN := Lib.hid (Sl.below HSL.out (Ext.below (Ext.trans (by simp (maxDischargeDepth := 60)) hxn))); clear hnl hxn)
            | (go_at_call 33; refine (alike_yes _ _ _ _ _ _ _ (p.cars ++ [x.a]) _ (Sl.below HNL.out (Ext.below (by simp (maxDischargeDepth := 60)))) (Sl.below HSN.out (Ext.below (by simp (maxDischargeDepth := 60)))) HPM.out).mono ?_; rintro e wk ⟨rfl, oK, nK, rfl⟩))
          have hnn := HNL.out.bound
          go_wp2
          go_loopw [15] (fun j wl => ∃ m : Nat, m ≤ nn ∧ j = .int .i64 m ∧ Ext wc wl) (fun j _ => nn - (intOf j).toNat)
          case atStart => exact ⟨0, by omega, rfl, (by simp (maxDischargeDepth := 60))⟩
          case round =>
            obtain ⟨m, hm, rfl, oM, nM, rfl⟩ := hrel
            by_cases hlm : m < nn
            · obtain ⟨nb, no, y, rfl, hy, dy⟩ := HNL.out.get hlm
              have dy := at1' dy
              rw [Nat.mul_one] at dy
              have hny := cell_lt dy
              have hm0 : (0 : Int) ≤ (m : Int) := by omega
              have hm1 : (m : Int) ≤ (nn : Int) := by omega
              have hm2 : (m : Int) ≤ (nc : Int) := by omega
              have HY : Hid (Ch.Plant.has (p.arrive x.a).1 y = true) := (Ch.has_iff HQW.out (cars_ne (List.mem_of_getElem? hy))).2 (List.mem_of_getElem? hy)
              have HT : Hid (decide (y ∈ (Ch.Plant.cars (p.arrive x.a).1).take m) = false) := decide_eq_false (nodup_take HNN.out.nd hy)
              clear hy
              go_upto_region 36 with fail
              go_region_held3 (fun w' => w'.cell? ⟨nb, no + m, none⟩ = some (vi y))
                (first | ((try dsimp only); first | assumption | (refine xcell (w := wc) ?_ (by assumption); simp (maxDischargeDepth := 60); done)))
                (first
                | (go_at_call 34; refine (has_any (HNN.out.at_.ext (by simp (maxDischargeDepth := 60))) HQW.out y).mono ?_; rintro e wh ⟨he, oH, nH, rfl⟩; rw [HY.out] at he; subst he)
                | (go_at_call 31; refine (has_ints _ _ _ ((Ch.Plant.cars (p.arrive x.a).1).take m) _ _ (sl_take (Sl.below HNL.out (Ext.below (by simp (maxDischargeDepth := 60)))) (by omega))).mono ?_; rintro e wh ⟨he, oJ, nJ, rfl⟩; rw [HT.out] at he; subst he))
              go_wp2
              go_roundw
              case rel => first | exact ⟨m + 1, by omega, by go_num, (by simp (maxDischargeDepth := 60))⟩ | (repeat apply Exists.intro; refine ⟨?_, rfl⟩; exact ⟨m + 1, by omega, by go_num, (by simp (maxDischargeDepth := 60))⟩)
              case measure => simp [intOf]; omega
            · go_wp2
              go_roundw
              case rel => first | exact ⟨k + 1, _, by omega, by go_num, HNN.out.ext (by simp (maxDischargeDepth := 60)) b1 b2⟩ | (repeat apply Exists.intro; refine ⟨?_, rfl⟩; exact ⟨k + 1, _, by omega, by go_num, HNN.out.ext (by simp (maxDischargeDepth := 60)) b1 b2⟩)
              case measure => simp [intOf]; omega
        · have HPM : Hid ((p.arrive x.a).1.cars.Perm p.cars) := by unfold Hid; rw [Ch.arrive_not x.a h7]
          obtain ⟨E, HZ⟩ : ∃ E, Hid (errV (p.arrive x.a).2 = .iface 100 (vi E)) := ⟨_, by unfold Hid errV; rw [if_neg h7]⟩
          clear h7
          go_upto_region 30 with (first
            | (go_at_call 28; refine (cars_any (HP.out.at_.ext (by simp (maxDischargeDepth := 60))) hwf).mono ?_; rintro e wc hc; obtain ⟨ca, cn, cc, rfl, hcl, hcw, hcb, oC, nC, rfl⟩ := NewInts.both hc; clear hc; have HCS := Lib.hid hcl; have HCW := Lib.hid hcw; have HCB := Lib.hid hcb; clear hcl hcw hcb)
            | (go_at_call 29; (with_reducible refine (arrive_any (HP.out.at_.ext (by simp (maxDischargeDepth := 60))) hwf x.a).mono ?_); rintro e w4 ⟨he, hq4, hk4'⟩; rw [HZ.out] at he; subst he))
          have hk4 : Kept (Own pb mb) wr w4 := (Kept.of_ext (by simp (maxDischargeDepth := 60))).trans hk4'
          have HN := Lib.hid (HP.out.next hq4 (hwf.arrive _) HND'.out hk4 b1 b2)
          have HK4 := Lib.hid hk4'
          have HC4 := Lib.hid (sl_keptB (Sl.below HCS.out (Ext.below (by simp (maxDischargeDepth := 60)))) hk4' (fun b o e c => by have := HCB.out b o e; rcases c with c | c <;> omega))
          have HW4 := Lib.hid (owns_keptB (owns_later HCW.out (by simp (maxDischargeDepth := 60))) hk4' (fun b e c => by have := owns_block HCW.out b e; rcases c with c | c <;> omega))
          have HSL := HC4
          clear hq4 hk4 hk4'
          have HQW := Lib.hid HN.out.wf
          go_upto_region 33 with (first
            | (go_at_call 28; refine (cars_any (HN.out.at_.ext (by simp (maxDischargeDepth := 60))) HQW.out).mono ?_; rintro e wc hc; obtain ⟨na, nn, nc, rfl, hnl, hnw, hnb, hxn⟩ := NewInts.both hc; clear hc hnw hnb; have HNL := Lib.hid hnl; have HNN := Lib.hid (HN.out.ext (Ext.trans (by simp (maxDischargeDepth := 60)) hxn) b1 b2); have HSN := Lib.hid (Sl.below HSL.out (Ext.below (Ext.trans (by simp (maxDischargeDepth := 60)) hxn))); clear hnl hxn)
            | (go_at_call 33; refine (alike_yes _ _ _ _ _ _ _ p.cars _ (Sl.below HNL.out (Ext.below (by simp (maxDischargeDepth := 60)))) (Sl.below HSN.out (Ext.below (by simp (maxDischargeDepth := 60)))) HPM.out).mono ?_; rintro e wk ⟨rfl, oK, nK, rfl⟩))
          have hnn := HNL.out.bound
          go_wp2
          go_loopw [15] (fun j wl => ∃ m : Nat, m ≤ nn ∧ j = .int .i64 m ∧ Ext wc wl) (fun j _ => nn - (intOf j).toNat)
          case atStart => exact ⟨0, by omega, rfl, (by simp (maxDischargeDepth := 60))⟩
          case round =>
            obtain ⟨m, hm, rfl, oM, nM, rfl⟩ := hrel
            by_cases hlm : m < nn
            · obtain ⟨nb, no, y, rfl, hy, dy⟩ := HNL.out.get hlm
              have dy := at1' dy
              rw [Nat.mul_one] at dy
              have hny := cell_lt dy
              have hm0 : (0 : Int) ≤ (m : Int) := by omega
              have hm1 : (m : Int) ≤ (nn : Int) := by omega
              have hm2 : (m : Int) ≤ (nc : Int) := by omega
              have HY : Hid (Ch.Plant.has (p.arrive x.a).1 y = true) := (Ch.has_iff HQW.out (cars_ne (List.mem_of_getElem? hy))).2 (List.mem_of_getElem? hy)
              have HT : Hid (decide (y ∈ (Ch.Plant.cars (p.arrive x.a).1).take m) = false) := decide_eq_false (nodup_take HNN.out.nd hy)
              clear hy
              go_upto_region 36 with fail
              go_region_held3 (fun w' => w'.cell? ⟨nb, no + m, none⟩ = some (vi y))
                (first | ((try dsimp only); first | assumption | (refine xcell (w := wc) ?_ (by assumption); simp (maxDischargeDepth := 60); done)))
                (first
                | (go_at_call 34; refine (has_any (HNN.out.at_.ext (by simp (maxDischargeDepth := 60))) HQW.out y).mono ?_; rintro e wh ⟨he, oH, nH, rfl⟩; rw [HY.out] at he; subst he)
                | (go_at_call 31; refine (has_ints _ _ _ ((Ch.Plant.cars (p.arrive x.a).1).take m) _ _ (sl_take (Sl.below HNL.out (Ext.below (by simp (maxDischargeDepth := 60)))) (by omega))).mono ?_; rintro e wh ⟨he, oJ, nJ, rfl⟩; rw [HT.out] at he; subst he))
              go_wp2
              go_roundw
              case rel => first | exact ⟨m + 1, by omega, by go_num, (by simp (maxDischargeDepth := 60))⟩ | (repeat apply Exists.intro; refine ⟨?_, rfl⟩; exact ⟨m + 1, by omega, by go_num, (by simp (maxDischargeDepth := 60))⟩)
              case measure => simp [intOf]; omega
            · go_wp2
              go_roundw
              case rel => first | exact ⟨k + 1, _, by omega, by go_num, HNN.out.ext (by simp (maxDischargeDepth := 60)) b1 b2⟩ | (repeat apply Exists.intro; refine ⟨?_, rfl⟩; exact ⟨k + 1, _, by omega, by go_num, HNN.out.ext (by simp (maxDischargeDepth := 60)) b1 b2⟩)
              case measure => simp [intOf]; omega
      · have e1 : (x.kind.toList == [97, 114, 114, 105, 118, 101]) = false := str_ne hk1
        by_cases hk2 : x.kind = Ch.kLeave
        · have e2 : (x.kind.toList == [108, 101, 97, 118, 101]) = true := kind_is hk2
          have HND' := Lib.hid (leave_nodup (a := x.act) hwf HND.out hk2)
          clear hk1 hk2
          by_cases h7 : p.leave.2.2 = 0
          · have HZ : Hid (errV p.leave.2.2 = .nilIface) := by unfold Hid; rw [h7]; rfl
            obtain ⟨id, HID⟩ : ∃ id, Hid (p.leave.2.1 = id) := ⟨_, rfl⟩
            have HAC : Hid (p.leave.1.cars.Perm (p.cars.filter fun x => x != id)) := by unfold Hid; rw [← HID.out]; exact (Ch.leave_cars HND.out h7).1
            have HM : Hid (decide (id ∈ p.cars) = true) := by unfold Hid; rw [← HID.out]; exact decide_eq_true (Ch.leave_cars HND.out h7).2
            clear h7
            go_upto_region 20 with (first
              | (go_at_call 28; refine (cars_any (HP.out.at_.ext (by simp (maxDischargeDepth := 60))) hwf).mono ?_; rintro e wc hc; obtain ⟨ca, cn, cc, rfl, hcl, hcw, hcb, oC, nC, rfl⟩ := NewInts.both hc; clear hc; have HCS := Lib.hid hcl; have HCW := Lib.hid hcw; have HCB := Lib.hid hcb; clear hcl hcw hcb)
              | (go_at_call 30; (with_reducible refine (leave_any (HP.out.at_.ext (by simp (maxDischargeDepth := 60)))).mono ?_); rintro e w4 ⟨he, hq4, hk4'⟩; rw [HZ.out, HID.out] at he; subst he))
            have hk4 : Kept (Own pb mb) wr w4 := (Kept.of_ext (by simp (maxDischargeDepth := 60))).trans hk4'
            have hlc : cn ≤ 18 := by have := HCS.out.len; have := HCL.out; omega
            have HN4 := Lib.hid (HP.out.next hq4 hwf.leave HND'.out hk4 b1 b2)
            have HK4 := Lib.hid hk4'
            have HC4 := Lib.hid (sl_keptB (Sl.below HCS.out (Ext.below (by simp (maxDischargeDepth := 60)))) hk4' (fun b o e c => by have := HCB.out b o e; rcases c with c | c <;> omega))
            have HW4 := Lib.hid (owns_keptB (owns_later HCW.out (by simp (maxDischargeDepth := 60))) hk4' (fun b e c => by have := owns_block HCW.out b e; rcases c with c | c <;> omega))
            clear hq4 hk4 hk4'
            go_upto_region 24 with (go_at_call 31; refine (has_ints _ _ _ p.cars _ _ (Sl.below HC4.out (Ext.below (by simp (maxDischargeDepth := 60))))).mono ?_; rintro e wh ⟨he, oH, nH, rfl⟩; rw [HM.out] at he; subst he)
            go_wp2
            go_loopw [12, 13] (fun v j wl => ∃ m : Nat, m ≤ cn ∧ j = .int .i64 m ∧ Gathered w4 ((p.cars.take m).filter fun x => x != id) v wl) (fun _ j _ => cn - (intOf j).toNat)
            case atStart => exact ⟨0, by omega, rfl, World.ownsRow_nil _ _ _ _, (by simp (maxDischargeDepth := 60))⟩
            case round =>
              obtain ⟨m, hm, rfl, hgat⟩ := hrel
              have HGA := Lib.hid hgat
              clear hgat
              by_cases hlm : m < cn
              · obtain ⟨nb, no, y, rfl, hy, dy0⟩ := HC4.out.get hlm
                obtain ⟨og, ng, rfl⟩ := HGA.out.ext
                have dy := at1' dy0
                rw [Nat.mul_one] at dy
                have hny := cell_lt dy
                clear dy0
                cases hne : (y != id)
                · have HF := Lib.hid (filter_no hy hne)
                  clear hy
                  go_wp2
                  go_roundw
                  case rel => first | exact ⟨m + 1, by omega, by go_num, by rw [HF.out]; exact ⟨owns_later HGA.out.1 (by simp (maxDischargeDepth := 60)), (by simp (maxDischargeDepth := 60))⟩⟩ | (repeat apply Exists.intro; refine ⟨?_, rfl⟩; exact ⟨m + 1, by omega, by go_num, by rw [HF.out]; exact ⟨owns_later HGA.out.1 (by simp (maxDischargeDepth := 60)), (by simp (maxDischargeDepth := 60))⟩⟩)
                  case measure => simp [intOf]; omega
                · have HF := Lib.hid (filter_yes hy hne)
                  have hfl := filter_len (id := id) (j := m) HCL.out
                  clear hy
                  go_wp2_with (at_builtin; refine wpList_append_lies _ rfl _ _ _ rfl w4.heap.size 3 i0 _ 1 8 Try.underlying64 hi hz0 hz1 hz2 rfl (by decide) u12 ((p.cars.take m).filter fun x => x != id).length _ rfl (owns_later HGA.out.1 (by simp (maxDischargeDepth := 60))) _ 1 1 [vi y] rfl rfl (World.news_of_block (alloc_at _ _ _ (by simp))) (by simp [Value.oneCell']) (by decide) (by unfold maxLen; omega) (by omega) (by first | omega | (simp; omega)) _ rfl ?_; intro gg capB w5 hown5 hgrow hat hlt5; have HG3 : Hid (Gathered w4 ((p.cars.take m).filter (fun x => x != id) ++ [y]) (.slice (some ⟨gg, 0, none⟩) (((p.cars.take m).filter fun x => x != id).length + 1) capB) w5) := ⟨gather hown5, ext_grown (w := w4) (by simp (maxDischargeDepth := 60)) hgrow (owns_block HGA.out.1)⟩; clear hown5 hgrow hat hlt5)
                  go_roundw
                  case rel => first | exact ⟨m + 1, by omega, by go_num, by rw [HF.out]; exact HG3.out⟩ | (repeat apply Exists.intro; refine ⟨?_, rfl⟩; exact ⟨m + 1, by omega, by go_num, by rw [HF.out]; exact HG3.out⟩)
                  case measure => simp [intOf]; omega
              · have hmn : m = cn := by omega
                have hall : p.cars.take m = p.cars := List.take_of_length_le (by have := HCS.out.len; omega)
                have HGB : Hid (Gathered w4 (p.cars.filter fun x => x != id) u12 wr) := by unfold Hid; rw [← hall]; exact HGA.out
                clear hall
                obtain ⟨sa, sc, rfl, hs⟩ := Sl.of_owns HGB.out.1 (by decide) (fun _ => rfl)
                have HSL := Lib.hid hs
                have HN := Lib.hid (HN4.out.ext HGB.out.ext b1 b2)
                have HPM := HAC
                have hsb := hs.bound
                clear hs
                have HQW := Lib.hid HN.out.wf
                go_upto_region 33 with (first
                  | (go_at_call 28; refine (cars_any (HN.out.at_.ext (by simp (maxDischargeDepth := 60))) HQW.out).mono ?_; rintro e wc hc; obtain ⟨na, nn, nc, rfl, hnl, hnw, hnb, hxn⟩ := NewInts.both hc; clear hc hnw hnb; have HNL := Lib.hid hnl; have HNN := Lib.hid (HN.out.ext (Ext.trans (by simp (maxDischargeDepth := 60)) hxn) b1 b2); have HSN := Lib.hid (Sl.below HSL.out (Ext.below (Ext.trans (by simp (maxDischargeDepth := 60)) hxn))); clear hnl hxn)
                  | (go_at_call 33; refine (alike_yes _ _ _ _ _ _ _ (p.cars.filter fun x => x != id) _ (Sl.below HNL.out (Ext.below (by simp (maxDischargeDepth := 60)))) (Sl.below HSN.out (Ext.below (by simp (maxDischargeDepth := 60)))) HPM.out).mono ?_; rintro e wk ⟨rfl, oK, nK, rfl⟩))
                have hnn := HNL.out.bound
                go_wp2
                go_loopw [15] (fun j wl => ∃ m : Nat, m ≤ nn ∧ j = .int .i64 m ∧ Ext wc wl) (fun j _ => nn - (intOf j).toNat)
                case atStart => exact ⟨0, by omega, rfl, (by simp (maxDischargeDepth := 60))⟩
                case round =>
                  obtain ⟨m, hm, rfl, oM, nM, rfl⟩ := hrel
                  by_cases hlm : m < nn
                  · obtain ⟨nb, no, y, rfl, hy, dy⟩ := HNL.out.get hlm
                    have dy := at1' dy
                    rw [Nat.mul_one] at dy
                    have hny := cell_lt dy
                    have hm0 : (0 : Int) ≤ (m : Int) := by omega
                    have hm1 : (m : Int) ≤ (nn : Int) := by omega
                    have hm2 : (m : Int) ≤ (nc : Int) := by omega
                    have HY : Hid (Ch.Plant.has p.leave.1 y = true) := (Ch.has_iff HQW.out (cars_ne (List.mem_of_getElem? hy))).2 (List.mem_of_getElem? hy)
                    have HT : Hid (decide (y ∈ (Ch.Plant.cars p.leave.1).take m) = false) := decide_eq_false (nodup_take HNN.out.nd hy)
                    clear hy
                    go_upto_region 36 with fail
                    go_region_held3 (fun w' => w'.cell? ⟨nb, no + m, none⟩ = some (vi y))
                      (first | ((try dsimp only); first | assumption | (refine xcell (w := wc) ?_ (by assumption); simp (maxDischargeDepth := 60); done)))
                      (first
                      | (go_at_call 34; refine (has_any (HNN.out.at_.ext (by simp (maxDischargeDepth := 60))) HQW.out y).mono ?_; rintro e wh ⟨he, oH, nH, rfl⟩; rw [HY.out] at he; subst he)
                      | (go_at_call 31; refine (has_ints _ _ _ ((Ch.Plant.cars p.leave.1).take m) _ _ (sl_take (Sl.below HNL.out (Ext.below (by simp (maxDischargeDepth := 60)))) (by omega))).mono ?_; rintro e wh ⟨he, oJ, nJ, rfl⟩; rw [HT.out] at he; subst he))
                    go_wp2
                    go_roundw
                    case rel => first | exact ⟨m + 1, by omega, by go_num, (by simp (maxDischargeDepth := 60))⟩ | (repeat apply Exists.intro; refine ⟨?_, rfl⟩; exact ⟨m + 1, by omega, by go_num, (by simp (maxDischargeDepth := 60))⟩)
                    case measure => simp [intOf]; omega
                  · go_wp2
                    go_roundw
                    case rel => first | exact ⟨k + 1, _, by omega, by go_num, HNN.out.ext (by simp (maxDischargeDepth := 60)) b1 b2⟩ | (repeat apply Exists.intro; refine ⟨?_, rfl⟩; exact ⟨k + 1, _, by omega, by go_num, HNN.out.ext (by simp (maxDischargeDepth := 60)) b1 b2⟩)
                    case measure => simp [intOf]; omega
          · have HPM : Hid (p.leave.1.cars.Perm p.cars) := by unfold Hid; rw [(Ch.leave_not h7).1]
            obtain ⟨E, HZ⟩ : ∃ E, Hid (errV p.leave.2.2 = .iface 100 (vi E)) := ⟨_, by unfold Hid errV; rw [if_neg h7]⟩
            clear h7
            go_upto_region 30 with (first
              | (go_at_call 28; refine (cars_any (HP.out.at_.ext (by simp (maxDischargeDepth := 60))) hwf).mono ?_; rintro e wc hc; obtain ⟨ca, cn, cc, rfl, hcl, hcw, hcb, oC, nC, rfl⟩ := NewInts.both hc; clear hc; have HCS := Lib.hid hcl; have HCW := Lib.hid hcw; have HCB := Lib.hid hcb; clear hcl hcw hcb)
              | (go_at_call 30; (with_reducible refine (leave_any (HP.out.at_.ext (by simp (maxDischargeDepth := 60)))).mono ?_); rintro e w4 ⟨he, hq4, hk4'⟩; rw [HZ.out] at he; subst he))
            have hk4 : Kept (Own pb mb) wr w4 := (Kept.of_ext (by simp (maxDischargeDepth := 60))).trans hk4'
            have HN := Lib.hid (HP.out.next hq4 hwf.leave HND'.out hk4 b1 b2)
            have HK4 := Lib.hid hk4'
            have HC4 := Lib.hid (sl_keptB (Sl.below HCS.out (Ext.below (by simp (maxDischargeDepth := 60)))) hk4' (fun b o e c => by have := HCB.out b o e; rcases c with c | c <;> omega))
            have HW4 := Lib.hid (owns_keptB (owns_later HCW.out (by simp (maxDischargeDepth := 60))) hk4' (fun b e c => by have := owns_block HCW.out b e; rcases c with c | c <;> omega))
            have HSL := HC4
            clear hq4 hk4 hk4'
            have HQW := Lib.hid HN.out.wf
            go_upto_region 33 with (first
              | (go_at_call 28; refine (cars_any (HN.out.at_.ext (by simp (maxDischargeDepth := 60))) HQW.out).mono ?_; rintro e wc hc; obtain ⟨na, nn, nc, rfl, hnl, hnw, hnb, hxn⟩ := NewInts.both hc; clear hc hnw hnb; have HNL := Lib.hid hnl; have HNN := Lib.hid (HN.out.ext (Ext.trans (by simp (maxDischargeDepth := 60)) hxn) b1 b2); have HSN := Lib.hid (Sl.below HSL.out (Ext.below (Ext.trans (by simp (maxDischargeDepth := 60)) hxn))); clear hnl hxn)
              | (go_at_call 33; refine (alike_yes _ _ _ _ _ _ _ p.cars _ (Sl.below HNL.out (Ext.below (by simp (maxDischargeDepth := 60)))) (Sl.below HSN.out (Ext.below (by simp (maxDischargeDepth := 60)))) HPM.out).mono ?_; rintro e wk ⟨rfl, oK, nK, rfl⟩))
            have hnn := HNL.out.bound
            go_wp2
            go_loopw [15] (fun j wl => ∃ m : Nat, m ≤ nn ∧ j = .int .i64 m ∧ Ext wc wl) (fun j _ => nn - (intOf j).toNat)
            case atStart => exact ⟨0, by omega, rfl, (by simp (maxDischargeDepth := 60))⟩
            case round =>
              obtain ⟨m, hm, rfl, oM, nM, rfl⟩ := hrel
              by_cases hlm : m < nn
              · obtain ⟨nb, no, y, rfl, hy, dy⟩ := HNL.out.get hlm
                have dy := at1' dy
                rw [Nat.mul_one] at dy
                have hny := cell_lt dy
                have hm0 : (0 : Int) ≤ (m : Int) := by omega
                have hm1 : (m : Int) ≤ (nn : Int) := by omega
                have hm2 : (m : Int) ≤ (nc : Int) := by omega
                have HY : Hid (Ch.Plant.has p.leave.1 y = true) := (Ch.has_iff HQW.out (cars_ne (List.mem_of_getElem? hy))).2 (List.mem_of_getElem? hy)
                have HT : Hid (decide (y ∈ (Ch.Plant.cars p.leave.1).take m) = false) := decide_eq_false (nodup_take HNN.out.nd hy)
                clear hy
                go_upto_region 36 with fail
                go_region_held3 (fun w' => w'.cell? ⟨nb, no + m, none⟩ = some (vi y))
                  (first | ((try dsimp only); first | assumption | (refine xcell (w := wc) ?_ (by assumption); simp (maxDischargeDepth := 60); done)))
                  (first
                  | (go_at_call 34; refine (has_any (HNN.out.at_.ext (by simp (maxDischargeDepth := 60))) HQW.out y).mono ?_; rintro e wh ⟨he, oH, nH, rfl⟩; rw [HY.out] at he; subst he)
                  | (go_at_call 31; refine (has_ints _ _ _ ((Ch.Plant.cars p.leave.1).take m) _ _ (sl_take (Sl.below HNL.out (Ext.below (by simp (maxDischargeDepth := 60)))) (by omega))).mono ?_; rintro e wh ⟨he, oJ, nJ, rfl⟩; rw [HT.out] at he; subst he))
                go_wp2
                go_roundw
                case rel => first | exact ⟨m + 1, by omega, by go_num, (by simp (maxDischargeDepth := 60))⟩ | (repeat apply Exists.intro; refine ⟨?_, rfl⟩; exact ⟨m + 1, by omega, by go_num, (by simp (maxDischargeDepth := 60))⟩)
                case measure => simp [intOf]; omega
              · go_wp2
                go_roundw
                case rel => first | exact ⟨k + 1, _, by omega, by go_num, HNN.out.ext (by simp (maxDischargeDepth := 60)) b1 b2⟩ | (repeat apply Exists.intro; refine ⟨?_, rfl⟩; exact ⟨k + 1, _, by omega, by go_num, HNN.out.ext (by simp (maxDischargeDepth := 60)) b1 b2⟩)
                case measure => simp [intOf]; omega
        · have e2 : (x.kind.toList == [108, 101, 97, 118, 101]) = false := str_ne hk2
          have HPM := Lib.hid (Ch.outside_cars (a := x.act) hwf hk1 hk2)
          have HND' := Lib.hid (Ch.nodup_next hwf HND.out x.act)
          clear hk1 hk2
          go_upto_region 30 with (first
            | (go_at_call 28; refine (cars_any (HP.out.at_.ext (by simp (maxDischargeDepth := 60))) hwf).mono ?_; rintro e wc hc; obtain ⟨ca, cn, cc, rfl, hcl, hcw, hcb, oC, nC, rfl⟩ := NewInts.both hc; clear hc; have HCS := Lib.hid hcl; have HCW := Lib.hid hcw; have HCB := Lib.hid hcb; clear hcl hcw hcb)
            | (go_at_call 32; (with_reducible refine (outside_any (HP.out.at_.ext (by simp (maxDischargeDepth := 60))) hwf x GX.out).mono ?_); rintro e w4 ⟨rfl, hq4, hk4'⟩))
          have hk4 : Kept (Own pb mb) wr w4 := (Kept.of_ext (by simp (maxDischargeDepth := 60))).trans hk4'
          have HN := Lib.hid (HP.out.next hq4 (hwf.outside _) HND'.out hk4 b1 b2)
          have HK4 := Lib.hid hk4'
          have HC4 := Lib.hid (sl_keptB (Sl.below HCS.out (Ext.below (by simp (maxDischargeDepth := 60)))) hk4' (fun b o e c => by have := HCB.out b o e; rcases c with c | c <;> omega))
          have HW4 := Lib.hid (owns_keptB (owns_later HCW.out (by simp (maxDischargeDepth := 60))) hk4' (fun b e c => by have := owns_block HCW.out b e; rcases c with c | c <;> omega))
          have HSL := HC4
          clear hq4 hk4 hk4'
          have HQW := Lib.hid HN.out.wf
          go_upto_region 33 with (first
            | (go_at_call 28; refine (cars_any (HN.out.at_.ext (by simp (maxDischargeDepth := 60))) HQW.out).mono ?_; rintro e wc hc; obtain ⟨na, nn, nc, rfl, hnl, hnw, hnb, hxn⟩ := NewInts.both hc; clear hc hnw hnb; have HNL := Lib.hid hnl; have HNN := Lib.hid (HN.out.ext (Ext.trans (by simp (maxDischargeDepth := 60)) hxn) b1 b2); have HSN := Lib.hid (Sl.below HSL.out (Ext.below (Ext.trans (by simp (maxDischargeDepth := 60)) hxn))); clear hnl hxn)
            | (go_at_call 33; refine (alike_yes _ _ _ _ _ _ _ p.cars _ (Sl.below HNL.out (Ext.below (by simp (maxDischargeDepth := 60)))) (Sl.below HSN.out (Ext.below (by simp (maxDischargeDepth := 60)))) HPM.out).mono ?_; rintro e wk ⟨rfl, oK, nK, rfl⟩))
          have hnn := HNL.out.bound
          go_wp2
          go_loopw [15] (fun j wl => ∃ m : Nat, m ≤ nn ∧ j = .int .i64 m ∧ Ext wc wl) (fun j _ => nn - (intOf j).toNat)
          case atStart => exact ⟨0, by omega, rfl, (by simp (maxDischargeDepth := 60))⟩
          case round =>
            obtain ⟨m, hm, rfl, oM, nM, rfl⟩ := hrel
            by_cases hlm : m < nn
            · obtain ⟨nb, no, y, rfl, hy, dy⟩ := HNL.out.get hlm
              have dy := at1' dy
              rw [Nat.mul_one] at dy
              have hny := cell_lt dy
              have hm0 : (0 : Int) ≤ (m : Int) := by omega
              have hm1 : (m : Int) ≤ (nn : Int) := by omega
              have hm2 : (m : Int) ≤ (nc : Int) := by omega
              have HY : Hid (Ch.Plant.has (p.outside x.act) y = true) := (Ch.has_iff HQW.out (cars_ne (List.mem_of_getElem? hy))).2 (List.mem_of_getElem? hy)
              have HT : Hid (decide (y ∈ (Ch.Plant.cars (p.outside x.act)).take m) = false) := decide_eq_false (nodup_take HNN.out.nd hy)
              clear hy
              go_upto_region 36 with fail
              go_region_held3 (fun w' => w'.cell? ⟨nb, no + m, none⟩ = some (vi y))
                (first | ((try dsimp only); first | assumption | (refine xcell (w := wc) ?_ (by assumption); simp (maxDischargeDepth := 60); done)))
                (first
                | (go_at_call 34; refine (has_any (HNN.out.at_.ext (by simp (maxDischargeDepth := 60))) HQW.out y).mono ?_; rintro e wh ⟨he, oH, nH, rfl⟩; rw [HY.out] at he; subst he)
                | (go_at_call 31; refine (has_ints _ _ _ ((Ch.Plant.cars (p.outside x.act)).take m) _ _ (sl_take (Sl.below HNL.out (Ext.below (by simp (maxDischargeDepth := 60)))) (by omega))).mono ?_; rintro e wh ⟨he, oJ, nJ, rfl⟩; rw [HT.out] at he; subst he))
              go_wp2
              go_roundw
              case rel => first | exact ⟨m + 1, by omega, by go_num, (by simp (maxDischargeDepth := 60))⟩ | (repeat apply Exists.intro; refine ⟨?_, rfl⟩; exact ⟨m + 1, by omega, by go_num, (by simp (maxDischargeDepth := 60))⟩)
              case measure => simp [intOf]; omega
            · go_wp2
              go_roundw
              case rel => first | exact ⟨k + 1, _, by omega, by go_num, HNN.out.ext (by simp (maxDischargeDepth := 60)) b1 b2⟩ | (repeat apply Exists.intro; refine ⟨?_, rfl⟩; exact ⟨k + 1, _, by omega, by go_num, HNN.out.ext (by simp (maxDischargeDepth := 60)) b1 b2⟩)
              case measure => simp [intOf]; omega
    · go_wp2
      go_ret
      exact ⟨rfl, Ext.of_below HP.out.below⟩

set_option maxRecDepth 100000 in
set_option maxHeartbeats 4000000 in
theorem topStay_bad (L : Int) (a : Option Addr) (n cap : Nat) (l : List RAct) (w : World) (h : Sl w 12 ractCells l a n cap) (hg : ∀ x ∈ l, x.Good) (hL : L < 1 ∨ 4 < L) :
    Calls Try.prog 6 #[vi L, .slice a n cap] w fun e w' => e = .returned (.bool true) ∧ Ext w w' := by
  have HS := Lib.hid h
  have HG := Lib.hid hg
  have HL := Lib.hid hL
  have hb := h.bound
  have e1 : errV 1 = .iface 100 (vi 1) := rfl
  clear h hg hL
  go_enter Try.func6, Try.ntmps6
  go_wp2_with (first
    | (go_at_call 26; (with_reducible refine (moved_any _).mono ?_); rintro e w1 ⟨rfl, o1, n1, rfl⟩)
    | (go_at_call 22; (with_reducible refine (lightActs_any _ _ _ _ l _ (Sl.below HS.out (Ext.below (by simp (maxDischargeDepth := 60)))) HG.out).mono ?_); rintro e w2 ⟨lb, rfl, o2, n2, rfl⟩; cases lb)
    | (go_at_call 27; (with_reducible refine (new_bad L _ HL.out).mono ?_); rintro e w1 ⟨rfl, o1, n1, rfl⟩))
  all_goals
    go_ret
    exact ⟨rfl, (by simp (maxDischargeDepth := 60))⟩

theorem topStay_walk (L : Int) {a : Option Addr} {n cap : Nat} {l : List RAct} {w : World} (h : Sl w 12 ractCells l a n cap) (hg : ∀ x ∈ l, x.Good) :
    Calls Try.prog 6 #[vi L, .slice a n cap] w fun e w' => e = .returned (.bool true) ∧ Ext w w' := by
  by_cases hL : L < 1 ∨ 4 < L
  · exact topStay_bad L a n cap l w h hg hL
  · exact topStay_ok L a n cap l w h hg (by omega) (by omega)
end Go.Proofs.Ytplomeacjbkgnab
