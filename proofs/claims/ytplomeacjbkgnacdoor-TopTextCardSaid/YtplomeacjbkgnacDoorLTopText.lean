/-
  'TopText' holds, and its card: the law's Go text answers true, whatever the input; what it lists is tied to the program's text. No conditions.
-/
import Derived.Test.YtplomeacjbkgnacDoorRows
import Derived.Test.YtplomeacjbkgnacDoorTie
import Derived.Test.YtplomeacjbkgnacDoorCards
import Derived.Test.YtplomeacjbkgnacDoorWTopText
import Derived.Test.YtplomeacjbkgnacDoorCard
import Derived.Test.YtplomeacjbkgnacDoorReadBook
import Derived.SevenTiedAt
import Derived.Shelf.Lay
import Derived.Lay
import Derived.LaidOnce
import Derived.Stop.Joined
namespace Go.Proofs.YtplomeacjbkgnacDoor
open Go.ChangeShapes Go.WideShapes Go.ChangeAt Go.RowKit

theorem topText_libs {W : World} (hL : laidMetH Tryd.prog Rows.topTextRow.laid W) (hs : W.ShapedOpen Tryd.prog) : Libs W := by
  rw [Go.MakeChecks.laidMetH_plain _ _ _ (by kernel_rfl)] at hL
  exact libs_of hL hs rfl rfl (by decide) rfl (by decide) (by kernel_rfl) (by kernel_rfl) (by kernel_rfl)

set_option maxRecDepth 100000 in
theorem topText_lifted (os : Os) (started : os.Started) (H : Type) (enc : TypeId × Value → H) :
    ReturnsInHanded {} Tryd.checked os 3 .any (fun w args => (Rows.topTextSpec.pre enc Tryd.prog Tryd.f3 [] false w args ∧ laidMetH Tryd.prog Rows.topTextRow.laid w) ∧ sizedMet enc Tryd.prog Tryd.f3 (OpenSpec.ofChange Rows.topTextSpec) false w args)
      (Rows.topTextSpec.post enc Tryd.prog Tryd.f3 false true false false) := by
  refine handed_laid_shaped (C := Tryd.checked) (X := fun w _ => laidMetH Tryd.prog Rows.topTextRow.laid w) (fun _ _ _ hh h => h.of_heap hh) own started (by kernel_rfl) Tryd.func3
    (ChangeSpec.witness_shaped (enc := enc) (C := Tryd.checked) (os := os) (X := fun w _ => laidMetH Tryd.prog Rows.topTextRow.laid w) false (World.laidAll Tryd.prog os Rows.topTextRow.laid) #[.agg #[.int .i64 0, .slice none 0 0, .slice none 0 0], .int .i64 0] 8 (World.laidAll_os _ _ _)
      (World.shaped_of_ZipB (by kernel_rfl) (by kernel_rfl)) (by kernel_rfl) (by kernel_rfl) (by kernel_rfl)
      (by rw [Go.MakeChecks.laidMetH_plain _ _ _ (by kernel_rfl)]; exact laidMet_laidAll _ (by kernel_rfl) (by kernel_rfl))) ?_
  intro W base args ds gs before hval0 hW _ hL hsh
  have hval : ∀ (j : Nat) t v, Tryd.f3.params[j]? = some t → args[j]? = some v → Value.okWide Tryd.prog W .any base t v := hval0
  refine law_contract (tb := 4) laidOut Tryd.underlying4 (by kernel_rfl) rfl (fun ds hd => ?_) (by kernel_rfl) hW ?_
  · match ds, hd with
    | [_, _], _ => rfl
  obtain ⟨p, q, hA0, hV, rfl, hfz, hnd⟩ := hW
  have hA : DataW.TrodAll enc Tryd.prog W 0 (fun _ => true) true Tryd.f3.params.toList args.toList ds p := hA0
  rw [Tryd.params3] at hA hval
  obtain ⟨v0, vs0, d0, ds0, p0, q0, hargs, rfl, rfl, h0, r0⟩ := trodAll_cons hA
  obtain ⟨v1, vs1, d1, ds1, p1, q1, rfl, rfl, rfl, h1, r1⟩ := trodAll_cons r0
  obtain ⟨rfl, rfl, rfl⟩ := trodAll_nil r1
  obtain rfl : args = #[v0, v1] := by cases args; simp_all
  obtain ⟨last0, a0, n0, c0, a0', n0', c0', l0, js0, e0, s0, s0', g0, _⟩ := rd_book (rd_of_trod h0)
  obtain rfl := arg_struct (by kernel_rfl) (hval 0 _ v0 rfl rfl) e0
  obtain ⟨x1, rfl⟩ := okWide_int Tryd.underlying3 (hval 1 _ v1 rfl rfl)
  exact topText_walk _ _ _ _ _ _ _ _ _ _ _ s0 s0' (topText_libs hL hsh)

theorem topText_holds : Rows.TopTextSaid :=
  OpenClaim.holds_of_wide 3 Tryd.f3 rfl rfl rfl rfl rfl rfl rfl ⟨rfl, rfl, rfl, rfl, rfl⟩ rfl rfl rfl rfl rfl (by kernel_rfl) Tryd.func3 (by kernel_rfl)
    (of_decide_eq_true (by kernel_rfl)) (by unfold Func.isWrapper; first | (rw [if_pos (by decide +kernel)]; kernel_rfl) | (rw [if_neg (by decide +kernel)]; exact ⟨rfl, rfl⟩))
    (fun os started H enc _ => topText_lifted os started H enc)

/-- THE CARD -/
theorem topText_proved : Rows.TopTextCardSaid :=
  Claim7.holds_tied_plain_at .later [] [.data, .data, .data, .data, .sentinel, .sentinel, .pinned] true Rows.topTextCard.stood.harness true
    topText_holds (fun _ h => by cases h) (by kernel_rfl) (fun _ h => by cases h) topText_row_tie rfl ⟨rfl, rfl⟩ (by kernel_rfl) rfl
    (fun f fn hf hfn => by
      obtain rfl : f = 3 := Option.some.inj ((show Tryd.prog.funcNamed Tryd.f3.name = some 3 by kernel_rfl).symm.trans hf) |>.symm
      obtain rfl : fn = Tryd.f3 := (Option.some.inj (Tryd.func3.symm.trans hfn)).symm
      have hall : (Tryd.f3.params.toList.all fun u => !Tryd.prog.wantsStandIn u) = true := by kernel_rfl
      exact ⟨by kernel_rfl, fun j t ht => by
        have hm : t ∈ Tryd.f3.params.toList := Array.mem_toList_iff.2 (Array.mem_of_getElem? ht)
        exact (show Tryd.prog.wantsStandIn t = false by simpa using List.all_eq_true.1 hall t hm)⟩)
    (by kernel_rfl)
#print axioms topText_proved
end Go.Proofs.YtplomeacjbkgnacDoor
