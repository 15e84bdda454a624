/-
  'BookSays' holds, and its card: the law's Go text answers true, whatever the input; what it lists is tied to the program's text. No conditions.
-/
import Derived.Test.YtplomeacjbkgnaaDoorRows
import Derived.Test.YtplomeacjbkgnaaDoorTie
import Derived.Test.YtplomeacjbkgnaaDoorCards
import Derived.Test.YtplomeacjbkgnaaDoorWBookSays
import Derived.Test.YtplomeacjbkgnaaDoorCard
import Derived.Test.YtplomeacjbkgnaaDoorReadBook
import Derived.SevenTiedAt
import Derived.Shelf.Lay
import Derived.Lay
import Derived.LaidOnce
import Derived.Stop.Joined
namespace Go.Proofs.YtplomeacjbkgnaaDoor
open Go.ChangeShapes Go.WideShapes Go.ChangeAt Go.RowKit

theorem bookSays_libs {W : World} (hL : laidMetH Tryd.prog Rows.bookSaysRow.laid W) (hs : W.ShapedOpen Tryd.prog) : Libs W := by
  rw [Go.MakeChecks.laidMetH_plain _ _ _ (by kernel_rfl)] at hL
  exact libs_of hL hs rfl rfl (by decide) rfl (by decide) (by kernel_rfl) (by kernel_rfl) (by kernel_rfl)

set_option maxRecDepth 100000 in
theorem bookSays_lifted (os : Os) (started : os.Started) (H : Type) (enc : TypeId × Value → H) :
    ReturnsInHanded {} Tryd.checked os 4 .any (fun w args => (Rows.bookSaysSpec.pre enc Tryd.prog Tryd.f4 [] false w args ∧ laidMetH Tryd.prog Rows.bookSaysRow.laid w) ∧ sizedMet enc Tryd.prog Tryd.f4 (OpenSpec.ofChange Rows.bookSaysSpec) false w args)
      (Rows.bookSaysSpec.post enc Tryd.prog Tryd.f4 false true false false) := by
  refine handed_laid_shaped (C := Tryd.checked) (X := fun w _ => laidMetH Tryd.prog Rows.bookSaysRow.laid w) (fun _ _ _ hh h => h.of_heap hh) own started (by kernel_rfl) Tryd.func4
    (ChangeSpec.witness_shaped (enc := enc) (C := Tryd.checked) (os := os) (X := fun w _ => laidMetH Tryd.prog Rows.bookSaysRow.laid w) false (World.laidAll Tryd.prog os Rows.bookSaysRow.laid) #[.agg #[.int .i64 0, .slice none 0 0, .slice none 0 0], .string ⟨#[]⟩, .int .i64 0, .int .i64 0, .int .i64 0] 8 (World.laidAll_os _ _ _)
      (World.shaped_of_ZipB (by kernel_rfl) (by kernel_rfl)) (by kernel_rfl) (by kernel_rfl) (by kernel_rfl)
      (by rw [Go.MakeChecks.laidMetH_plain _ _ _ (by kernel_rfl)]; exact laidMet_laidAll _ (by kernel_rfl) (by kernel_rfl))) ?_
  intro W base args ds gs before hval0 hW _ hL hsh
  have hval : ∀ (j : Nat) t v, Tryd.f4.params[j]? = some t → args[j]? = some v → Value.okWide Tryd.prog W .any base t v := hval0
  refine law_contract (tb := 4) laidOut Tryd.underlying4 (by kernel_rfl) rfl (fun ds hd => ?_) (by kernel_rfl) hW ?_
  · match ds, hd with
    | [_, _, _, _, _], _ => rfl
  obtain ⟨p, q, hA0, hV, rfl, hfz, hnd⟩ := hW
  have hA : DataW.TrodAll enc Tryd.prog W 0 (fun _ => true) true Tryd.f4.params.toList args.toList ds p := hA0
  rw [Tryd.params4] at hA hval
  obtain ⟨v0, vs0, d0, ds0, p0, q0, hargs, rfl, rfl, h0, r0⟩ := trodAll_cons hA
  obtain ⟨v1, vs1, d1, ds1, p1, q1, rfl, rfl, rfl, h1, r1⟩ := trodAll_cons r0
  obtain ⟨v2, vs2, d2, ds2, p2, q2, rfl, rfl, rfl, h2, r2⟩ := trodAll_cons r1
  obtain ⟨v3, vs3, d3, ds3, p3, q3, rfl, rfl, rfl, h3, r3⟩ := trodAll_cons r2
  obtain ⟨v4, vs4, d4, ds4, p4, q4, rfl, rfl, rfl, h4, r4⟩ := trodAll_cons r3
  obtain ⟨rfl, rfl, rfl⟩ := trodAll_nil r4
  obtain rfl : args = #[v0, v1, v2, v3, v4] := by cases args; simp_all
  obtain ⟨last0, a0, n0, c0, a0', n0', c0', l0, js0, e0, s0, s0', g0, _⟩ := rd_book (rd_of_trod h0)
  obtain rfl := arg_struct (by kernel_rfl) (hval 0 _ v0 rfl rfl) e0
  obtain ⟨x1, rfl⟩ := okWide_string Tryd.underlying9 (hval 1 _ v1 rfl rfl)
  obtain ⟨x2, rfl⟩ := okWide_int Tryd.underlying3 (hval 2 _ v2 rfl rfl)
  obtain ⟨x3, rfl⟩ := okWide_int Tryd.underlying3 (hval 3 _ v3 rfl rfl)
  obtain ⟨x4, rfl⟩ := okWide_int Tryd.underlying3 (hval 4 _ v4 rfl rfl)
  exact bookSays_walk _ _ _ _ _ _ _ _ _ _ _ _ _ _ s0 s0' (bookSays_libs hL hsh)

theorem bookSays_holds : Rows.BookSaysSaid :=
  OpenClaim.holds_of_wide 4 Tryd.f4 rfl rfl rfl rfl rfl rfl rfl ⟨rfl, rfl, rfl, rfl, rfl⟩ rfl rfl rfl rfl rfl (by kernel_rfl) Tryd.func4 (by kernel_rfl)
    (of_decide_eq_true (by kernel_rfl)) (by unfold Func.isWrapper; first | (rw [if_pos (by decide +kernel)]; kernel_rfl) | (rw [if_neg (by decide +kernel)]; exact ⟨rfl, rfl⟩))
    (fun os started H enc _ => bookSays_lifted os started H enc)

/-- THE CARD -/
theorem bookSays_proved : Rows.BookSaysCardSaid :=
  Claim7.holds_tied_plain_at .later [] [.data, .data, .data, .data, .sentinel, .sentinel, .pinned] true Rows.bookSaysCard.stood.harness true
    bookSays_holds (fun _ h => by cases h) (by kernel_rfl) (fun _ h => by cases h) bookSays_row_tie rfl ⟨rfl, rfl⟩ (by kernel_rfl) rfl
    (fun f fn hf hfn => by
      obtain rfl : f = 4 := Option.some.inj ((show Tryd.prog.funcNamed Tryd.f4.name = some 4 by kernel_rfl).symm.trans hf) |>.symm
      obtain rfl : fn = Tryd.f4 := (Option.some.inj (Tryd.func4.symm.trans hfn)).symm
      have hall : (Tryd.f4.params.toList.all fun u => !Tryd.prog.wantsStandIn u) = true := by kernel_rfl
      exact ⟨by kernel_rfl, fun j t ht => by
        have hm : t ∈ Tryd.f4.params.toList := Array.mem_toList_iff.2 (Array.mem_of_getElem? ht)
        exact (show Tryd.prog.wantsStandIn t = false by simpa using List.all_eq_true.1 hall t hm)⟩)
    (by kernel_rfl)
#print axioms bookSays_proved
end Go.Proofs.YtplomeacjbkgnaaDoor
