/-
  'TopCrash' holds, and its card: the law's Go text answers true, whatever the input; what it lists is tied to the program's text. No conditions.
-/
import Derived.Test.YtplomeacjbkgnacDoorRows
import Derived.Test.YtplomeacjbkgnacDoorTie
import Derived.Test.YtplomeacjbkgnacDoorCards
import Derived.Test.YtplomeacjbkgnacDoorPart22
import Derived.Test.YtplomeacjbkgnacDoorPart23
import Derived.SevenTiedAt
import Derived.Shelf.Lay
import Derived.Lay
import Derived.LaidOnce
import Derived.Stop.Joined

namespace Go.Proofs.YtplomeacjbkgnacDoor
open Go.ChangeShapes Go.WideShapes Go.ChangeAt Go.RowKit

theorem topCrash_libs {W : World} (hL : laidMetH Tryd.prog Rows.topCrashRow.laid W) (hs : W.ShapedOpen Tryd.prog) : Libs W := by
  rw [Go.MakeChecks.laidMetH_plain _ _ _ (by kernel_rfl)] at hL
  exact libs_of hL hs rfl rfl (by decide) rfl (by decide) (by kernel_rfl) (by kernel_rfl) (by kernel_rfl)

set_option maxRecDepth 100000 in
theorem topCrash_lifted (os : Os) (started : os.Started) (H : Type) (enc : TypeId × Value → H) :
    ReturnsInHanded {} Tryd.checked os 4 .any (fun w args => (Rows.topCrashSpec.pre enc Tryd.prog Tryd.f4 [] false w args ∧ laidMetH Tryd.prog Rows.topCrashRow.laid w) ∧ sizedMet enc Tryd.prog Tryd.f4 (OpenSpec.ofChange Rows.topCrashSpec) false w args)
      (Rows.topCrashSpec.post enc Tryd.prog Tryd.f4 false true false false) := by
  refine handed_laid_shaped (C := Tryd.checked) (X := fun w _ => laidMetH Tryd.prog Rows.topCrashRow.laid w) (fun _ _ _ hh h => h.of_heap hh) own started (by kernel_rfl) Tryd.func4
    (ChangeSpec.witness_shaped (enc := enc) (C := Tryd.checked) (os := os) (X := fun w _ => laidMetH Tryd.prog Rows.topCrashRow.laid w) false (World.laidAll Tryd.prog os Rows.topCrashRow.laid) #[.int .i64 0, .slice none 0 0, .int .i64 0, .int .u64 0] 8 (World.laidAll_os _ _ _)
      (World.shaped_of_ZipB (by kernel_rfl) (by kernel_rfl)) (by kernel_rfl) (by kernel_rfl) (by kernel_rfl)
      (by rw [Go.MakeChecks.laidMetH_plain _ _ _ (by kernel_rfl)]; exact laidMet_laidAll _ (by kernel_rfl) (by kernel_rfl))) ?_
  intro W base args ds gs before hval0 hW _ hL hsh
  have hval : ∀ (j : Nat) t v, Tryd.f4.params[j]? = some t → args[j]? = some v → Value.okWide Tryd.prog W .any base t v := hval0
  refine law_contract (tb := 4) laidOut Tryd.underlying4 (by kernel_rfl) rfl (fun ds hd => ?_) (by kernel_rfl) hW ?_
  · match ds, hd with
    | [_, _, _, _], _ => rfl
  obtain ⟨p, q, hA0, hV, rfl, hfz, hnd⟩ := hW
  have hA : DataW.TrodAll enc Tryd.prog W 0 (fun _ => true) true Tryd.f4.params.toList args.toList ds p := hA0
  rw [Tryd.params4] at hA hval
  obtain ⟨v0, vs0, d0, ds0, p0, q0, hargs, rfl, rfl, h0, r0⟩ := trodAll_cons hA
  obtain ⟨v1, vs1, d1, ds1, p1, q1, rfl, rfl, rfl, h1, r1⟩ := trodAll_cons r0
  obtain ⟨v2, vs2, d2, ds2, p2, q2, rfl, rfl, rfl, h2, r2⟩ := trodAll_cons r1
  obtain ⟨v3, vs3, d3, ds3, p3, q3, rfl, rfl, rfl, h3, r3⟩ := trodAll_cons r2
  obtain ⟨rfl, rfl, rfl⟩ := trodAll_nil r3
  obtain rfl : args = #[v0, v1, v2, v3] := by cases args; simp_all
  obtain ⟨x0, rfl⟩ := okWide_int Tryd.underlying3 (hval 0 _ v0 rfl rfl)
  obtain ⟨_, e0, g0⟩ := rd_int Tryd.underlying3 (rd_of_trod h0)
  obtain rfl : x0 = _ := by simpa [Value.cells] using e0
  obtain ⟨a1, n1, c1, rfl⟩ := okWide_slice Tryd.underlying35 (hval 1 _ v1 rfl rfl)
  obtain ⟨x1, _, _, _, e1, s1, g1⟩ := rd_list (c := 12) ractCells (RAct.Whole W) (by decide) (fun _ => rfl) Tryd.underlying35 (by kernel_rfl) (fun ecs h => rd_actB h) (rd_of_trod h1)
  simp only [Value.cells, List.cons.injEq, Value.slice.injEq, and_true] at e1
  obtain ⟨rfl, rfl, rfl⟩ := e1
  obtain ⟨x2, rfl⟩ := okWide_int Tryd.underlying3 (hval 2 _ v2 rfl rfl)
  obtain ⟨_, e2, g2⟩ := rd_int Tryd.underlying3 (rd_of_trod h2)
  obtain rfl : x2 = _ := by simpa [Value.cells] using e2
  obtain ⟨x3, rfl⟩ := okWide_int Tryd.underlying36 (hval 3 _ v3 rfl rfl)
  obtain ⟨_, e3, g3, gg3⟩ := rd_u64 Tryd.underlying36 (rd_of_trod h3)
  obtain rfl : x3 = _ := by simpa [Value.cells] using e3
  exact by
    obtain ⟨k3, rfl⟩ := Int.eq_ofNat_of_zero_le g3
    exact topCrash_walk x0 x2 k3 (by omega) g2 s1 (wholes_good g1) (fun x hx => (g1 x hx).2) (topCrash_libs hL hsh)

theorem topCrash_holds : Rows.TopCrashSaid :=
  OpenClaim.holds_of_wide 4 Tryd.f4 rfl rfl rfl rfl rfl rfl rfl ⟨rfl, rfl, rfl, rfl, rfl⟩ rfl rfl rfl rfl rfl (by kernel_rfl) Tryd.func4 (by kernel_rfl)
    (of_decide_eq_true (by kernel_rfl)) (by unfold Func.isWrapper; first | (rw [if_pos (by decide +kernel)]; kernel_rfl) | (rw [if_neg (by decide +kernel)]; exact ⟨rfl, rfl⟩))
    (fun os started H enc _ => topCrash_lifted os started H enc)

/-- THE CARD -/
theorem topCrash_proved : Rows.TopCrashCardSaid :=
  Claim7.holds_tied_plain_at .later [] [.data, .data, .data, .data, .sentinel, .sentinel, .pinned] true Rows.topCrashCard.stood.harness true
    topCrash_holds (fun _ h => by cases h) (by kernel_rfl) (fun _ h => by cases h) topCrash_row_tie rfl ⟨rfl, rfl⟩ (by kernel_rfl) rfl
    (fun f fn hf hfn => by
      obtain rfl : f = 4 := Option.some.inj ((show Tryd.prog.funcNamed Tryd.f4.name = some 4 by kernel_rfl).symm.trans hf) |>.symm
      obtain rfl : fn = Tryd.f4 := (Option.some.inj (Tryd.func4.symm.trans hfn)).symm
      have hall : (Tryd.f4.params.toList.all fun u => !Tryd.prog.wantsStandIn u) = true := by kernel_rfl
      exact ⟨by kernel_rfl, fun j t ht => by
        have hm : t ∈ Tryd.f4.params.toList := Array.mem_toList_iff.2 (Array.mem_of_getElem? ht)
        exact (show Tryd.prog.wantsStandIn t = false by simpa using List.all_eq_true.1 hall t hm)⟩)
    (by kernel_rfl)
#print axioms topCrash_proved
end Go.Proofs.YtplomeacjbkgnacDoor
