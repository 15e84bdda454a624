/-
  No cell of these rows narrows 'for every input' (looked for: loops, veiled, ifaces, maps, wideKeys, modest, calm, conditions, laid).
  DERIVED. THE GIVEN ROWS OF THIS SEAT. 10 by the template 'for every input the law returns true; each argument reads behind the call as it read before'; 0 by the template 'total and deterministic' (their statements: YtplomeacjbkgnabTotals.lean).
  GIVEN WITH THE SEED: the statements are not yours to turn. If you find one false, say at which input.
  Laid BY PROGRAM, IN A SANDBOX (cutbox-rows.mjs): the forced cells as the released guide's own fill.sh prints them over the translation b9f8710f8ef6894c… (all of the seat's roots in one cut). By AI agents, Wed Nov 11 2026. No macro, syntax, notation, axiom, sorry.
-/
import Derived.Test.YtplomeacjbkgnabChecked
import GoSem.Claim
import GoSem.ClaimJoined
import GoSem.ClaimMapViews
import Derived.JoinedTies
import Derived.KernelRfl
namespace Go.Proofs.Ytplomeacjbkgnab
/- THE CELL 'sum', in the pinned program and in every row, IS THE sha256 OF THE DUMP (.gsa) THAT YtplomeacjbkgnabProg.lean LOADS. Nothing in Lean hashes anything: it is a label: what it is worth is what the hold of that sum in a sandbox is worth. -/
noncomputable def Try.pinned : Pinned := { name := "ytplomeacjbkgnab", sum := "b9f8710f8ef6894cb4fac64d2ce3aef4c55d3537bd051665b82b5d608b379e79", checked := Try.checked }
namespace Rows
def none {H : Type} : Left H := { results := [], args := [] }

/-- 'coachhousetop.TopPlaces': WHATEVER THE INPUT: true; the input reads as it did. -/
def topPlacesSpec : ChangeSpec := { name := "topPlaces", fn := fun _ => fun
  | [d] => { results := [.lit (.bool true)], args := [d] }
  | _ => none }
def topPlacesRow : OpenClaim := { program := "ytplomeacjbkgnab", sum := "b9f8710f8ef6894cb4fac64d2ce3aef4c55d3537bd051665b82b5d608b379e79", func := "coachhouse/coachhousetop.TopPlaces", spec := "topPlaces", plainKeys := false, apart := false }
def TopPlacesSaid : Prop := topPlacesRow.holds Try.pinned (OpenSpec.ofChange topPlacesSpec)

/-- ITS FALSE NEIGHBOUR: 'it returns false'. Refute it at one input. -/
def topPlacesWrong : ChangeSpec := { name := "topPlaces", fn := fun _ => fun
  | [d] => { results := [.lit (.bool false)], args := [d] }
  | _ => none }
def TopPlacesWrongFalsely : Prop := topPlacesRow.holds Try.pinned (OpenSpec.ofChange topPlacesWrong)

/-- 'coachhousetop.TopFits': WHATEVER THE INPUT: true; the input reads as it did. -/
def topFitsSpec : ChangeSpec := { name := "topFits", fn := fun _ => fun
  | [d1, d2, d3, d4] => { results := [.lit (.bool true)], args := [d1, d2, d3, d4] }
  | _ => none }
def topFitsRow : OpenClaim := { program := "ytplomeacjbkgnab", sum := "b9f8710f8ef6894cb4fac64d2ce3aef4c55d3537bd051665b82b5d608b379e79", func := "coachhouse/coachhousetop.TopFits", spec := "topFits", plainKeys := false, apart := false }
def TopFitsSaid : Prop := topFitsRow.holds Try.pinned (OpenSpec.ofChange topFitsSpec)

/-- ITS FALSE NEIGHBOUR: 'it returns false'. Refute it at one input. -/
def topFitsWrong : ChangeSpec := { name := "topFits", fn := fun _ => fun
  | [d1, d2, d3, d4] => { results := [.lit (.bool false)], args := [d1, d2, d3, d4] }
  | _ => none }
def TopFitsWrongFalsely : Prop := topFitsRow.holds Try.pinned (OpenSpec.ofChange topFitsWrong)

/-- 'coachhousetop.TopDisk': WHATEVER THE INPUT: true; the input reads as it did. -/
def topDiskSpec : ChangeSpec := { name := "topDisk", fn := fun _ => fun
  | [d1, d2, d3] => { results := [.lit (.bool true)], args := [d1, d2, d3] }
  | _ => none }
def topDiskRow : OpenClaim := { program := "ytplomeacjbkgnab", sum := "b9f8710f8ef6894cb4fac64d2ce3aef4c55d3537bd051665b82b5d608b379e79", func := "coachhouse/coachhousetop.TopDisk", spec := "topDisk", plainKeys := false, apart := false }
def TopDiskSaid : Prop := topDiskRow.holds Try.pinned (OpenSpec.ofChange topDiskSpec)

/-- ITS FALSE NEIGHBOUR: 'it returns false'. Refute it at one input. -/
def topDiskWrong : ChangeSpec := { name := "topDisk", fn := fun _ => fun
  | [d1, d2, d3] => { results := [.lit (.bool false)], args := [d1, d2, d3] }
  | _ => none }
def TopDiskWrongFalsely : Prop := topDiskRow.holds Try.pinned (OpenSpec.ofChange topDiskWrong)

/-- 'coachhousetop.TopStay': WHATEVER THE INPUT: true; the input reads as it did. -/
def topStaySpec : ChangeSpec := { name := "topStay", fn := fun _ => fun
  | [d1, d2] => { results := [.lit (.bool true)], args := [d1, d2] }
  | _ => none }
def topStayRow : OpenClaim := { program := "ytplomeacjbkgnab", sum := "b9f8710f8ef6894cb4fac64d2ce3aef4c55d3537bd051665b82b5d608b379e79", func := "coachhouse/coachhousetop.TopStay", spec := "topStay", plainKeys := false, apart := false }
def TopStaySaid : Prop := topStayRow.holds Try.pinned (OpenSpec.ofChange topStaySpec)

/-- ITS FALSE NEIGHBOUR: 'it returns false'. Refute it at one input. -/
def topStayWrong : ChangeSpec := { name := "topStay", fn := fun _ => fun
  | [d1, d2] => { results := [.lit (.bool false)], args := [d1, d2] }
  | _ => none }
def TopStayWrongFalsely : Prop := topStayRow.holds Try.pinned (OpenSpec.ofChange topStayWrong)

/-- 'coachhousetop.TopOver': WHATEVER THE INPUT: true; the input reads as it did. -/
def topOverSpec : ChangeSpec := { name := "topOver", fn := fun _ => fun
  | [d1, d2, d3, d4] => { results := [.lit (.bool true)], args := [d1, d2, d3, d4] }
  | _ => none }
def topOverRow : OpenClaim := { program := "ytplomeacjbkgnab", sum := "b9f8710f8ef6894cb4fac64d2ce3aef4c55d3537bd051665b82b5d608b379e79", func := "coachhouse/coachhousetop.TopOver", spec := "topOver", unfollowed := true, recurses := true, plainKeys := false, apart := false }
def TopOverSaid : Prop := topOverRow.holds Try.pinned (OpenSpec.ofChange topOverSpec)

/-- ITS FALSE NEIGHBOUR: 'it returns false'. Refute it at one input. -/
def topOverWrong : ChangeSpec := { name := "topOver", fn := fun _ => fun
  | [d1, d2, d3, d4] => { results := [.lit (.bool false)], args := [d1, d2, d3, d4] }
  | _ => none }
def TopOverWrongFalsely : Prop := topOverRow.holds Try.pinned (OpenSpec.ofChange topOverWrong)

/-- 'coachhousetop.TopPick': WHATEVER THE INPUT: true; the input reads as it did. -/
def topPickSpec : ChangeSpec := { name := "topPick", fn := fun _ => fun
  | [d1, d2, d3] => { results := [.lit (.bool true)], args := [d1, d2, d3] }
  | _ => none }
def topPickRow : OpenClaim := { program := "ytplomeacjbkgnab", sum := "b9f8710f8ef6894cb4fac64d2ce3aef4c55d3537bd051665b82b5d608b379e79", func := "coachhouse/coachhousetop.TopPick", spec := "topPick", unfollowed := true, recurses := true, plainKeys := false, apart := false }
def TopPickSaid : Prop := topPickRow.holds Try.pinned (OpenSpec.ofChange topPickSpec)

/-- ITS FALSE NEIGHBOUR: 'it returns false'. Refute it at one input. -/
def topPickWrong : ChangeSpec := { name := "topPick", fn := fun _ => fun
  | [d1, d2, d3] => { results := [.lit (.bool false)], args := [d1, d2, d3] }
  | _ => none }
def TopPickWrongFalsely : Prop := topPickRow.holds Try.pinned (OpenSpec.ofChange topPickWrong)

/-- 'coachhousetop.TopSafe': WHATEVER THE INPUT: true; the input reads as it did. -/
def topSafeSpec : ChangeSpec := { name := "topSafe", fn := fun _ => fun
  | [d1, d2] => { results := [.lit (.bool true)], args := [d1, d2] }
  | _ => none }
def topSafeRow : OpenClaim := { program := "ytplomeacjbkgnab", sum := "b9f8710f8ef6894cb4fac64d2ce3aef4c55d3537bd051665b82b5d608b379e79", func := "coachhouse/coachhousetop.TopSafe", spec := "topSafe", plainKeys := false, apart := false }
def TopSafeSaid : Prop := topSafeRow.holds Try.pinned (OpenSpec.ofChange topSafeSpec)

/-- ITS FALSE NEIGHBOUR: 'it returns false'. Refute it at one input. -/
def topSafeWrong : ChangeSpec := { name := "topSafe", fn := fun _ => fun
  | [d1, d2] => { results := [.lit (.bool false)], args := [d1, d2] }
  | _ => none }
def TopSafeWrongFalsely : Prop := topSafeRow.holds Try.pinned (OpenSpec.ofChange topSafeWrong)

/-- 'coachhousetop.TopFree': WHATEVER THE INPUT: true; the input reads as it did. -/
def topFreeSpec : ChangeSpec := { name := "topFree", fn := fun _ => fun
  | [d1, d2, d3] => { results := [.lit (.bool true)], args := [d1, d2, d3] }
  | _ => none }
def topFreeRow : OpenClaim := { program := "ytplomeacjbkgnab", sum := "b9f8710f8ef6894cb4fac64d2ce3aef4c55d3537bd051665b82b5d608b379e79", func := "coachhouse/coachhousetop.TopFree", spec := "topFree", plainKeys := false, apart := false }
def TopFreeSaid : Prop := topFreeRow.holds Try.pinned (OpenSpec.ofChange topFreeSpec)

/-- ITS FALSE NEIGHBOUR: 'it returns false'. Refute it at one input. -/
def topFreeWrong : ChangeSpec := { name := "topFree", fn := fun _ => fun
  | [d1, d2, d3] => { results := [.lit (.bool false)], args := [d1, d2, d3] }
  | _ => none }
def TopFreeWrongFalsely : Prop := topFreeRow.holds Try.pinned (OpenSpec.ofChange topFreeWrong)

/-- 'coachhousetop.TopGoal': WHATEVER THE INPUT: true; the input reads as it did. -/
def topGoalSpec : ChangeSpec := { name := "topGoal", fn := fun _ => fun
  | [d1, d2, d3] => { results := [.lit (.bool true)], args := [d1, d2, d3] }
  | _ => none }
def topGoalRow : OpenClaim := { program := "ytplomeacjbkgnab", sum := "b9f8710f8ef6894cb4fac64d2ce3aef4c55d3537bd051665b82b5d608b379e79", func := "coachhouse/coachhousetop.TopGoal", spec := "topGoal", plainKeys := false, apart := false }
def TopGoalSaid : Prop := topGoalRow.holds Try.pinned (OpenSpec.ofChange topGoalSpec)

/-- ITS FALSE NEIGHBOUR: 'it returns false'. Refute it at one input. -/
def topGoalWrong : ChangeSpec := { name := "topGoal", fn := fun _ => fun
  | [d1, d2, d3] => { results := [.lit (.bool false)], args := [d1, d2, d3] }
  | _ => none }
def TopGoalWrongFalsely : Prop := topGoalRow.holds Try.pinned (OpenSpec.ofChange topGoalWrong)

/-- 'coachhousetop.TopPark': WHATEVER THE INPUT: true; the input reads as it did. -/
def topParkSpec : ChangeSpec := { name := "topPark", fn := fun _ => fun
  | [d1, d2, d3] => { results := [.lit (.bool true)], args := [d1, d2, d3] }
  | _ => none }
def topParkRow : OpenClaim := { program := "ytplomeacjbkgnab", sum := "b9f8710f8ef6894cb4fac64d2ce3aef4c55d3537bd051665b82b5d608b379e79", func := "coachhouse/coachhousetop.TopPark", spec := "topPark", unfollowed := true, recurses := true, plainKeys := false, apart := false }
def TopParkSaid : Prop := topParkRow.holds Try.pinned (OpenSpec.ofChange topParkSpec)

/-- ITS FALSE NEIGHBOUR: 'it returns false'. Refute it at one input. -/
def topParkWrong : ChangeSpec := { name := "topPark", fn := fun _ => fun
  | [d1, d2, d3] => { results := [.lit (.bool false)], args := [d1, d2, d3] }
  | _ => none }
def TopParkWrongFalsely : Prop := topParkRow.holds Try.pinned (OpenSpec.ofChange topParkWrong)

/- THE SECOND FORM. 'bulk': how many values and letters a reading holds, each counted each time it is reached (what is shared counts as often as it is met; a slice's spare places count too). A statement '..UptoSaid' is the law's where the arguments, and the package variables that the reading takes, are together of bulk at most 1048576: NARROWER than '..Said'. Prove '..Said' where nothing that the law and all that it calls make is longer than what came in: it says more and counts as full. Else prove '..UptoSaid'. A law counts once. -/
mutual
def uptoBulk {H : Type} : DataW H → Nat
  | .lit (.string bytes) => bytes.length + 1
  | .lit _ => 1
  | .nil => 1
  | .ptr d => uptoBulk d + 1
  | .slice elems spare => uptoBulkAll elems + uptoBulkAll spare + 1
  | .agg parts => uptoBulkAll parts + 1
  | .iface _ d => uptoBulk d + 1
  | .map entries => uptoBulkEntries entries + 1
  | .held _ => 1
def uptoBulkAll {H : Type} : List (DataW H) → Nat
  | [] => 0
  | d :: r => uptoBulk d + uptoBulkAll r
def uptoBulkEntries {H : Type} : List (Lit × DataW H) → Nat
  | [] => 0
  | x :: r => uptoBulkEntry x + uptoBulkEntries r
def uptoBulkEntry {H : Type} : Lit × DataW H → Nat
  | (.string bytes, d) => bytes.length + uptoBulk d + 1
  | (_, d) => uptoBulk d + 1
 end
def uptoSmall : (H : Type) → List (DataW H) → Bool := fun _ ds => decide (uptoBulkAll ds ≤ 1048576)
def OpenSpec.upto (s : _root_.Go.ChangeSpec) : _root_.Go.OpenSpec := { _root_.Go.OpenSpec.ofChange s with cond := some uptoSmall }

/-- 'coachhousetop.TopPlaces', WHERE WHAT IT READS IS OF BULK AT MOST 1048576: true; the input reads as it did. -/
def topPlacesUptoRow : OpenClaim := { program := "ytplomeacjbkgnab", sum := "b9f8710f8ef6894cb4fac64d2ce3aef4c55d3537bd051665b82b5d608b379e79", func := "coachhouse/coachhousetop.TopPlaces", spec := "topPlaces", plainKeys := false, apart := false, narrowed := true }
def TopPlacesUptoSaid : Prop := topPlacesUptoRow.holds Try.pinned (OpenSpec.upto topPlacesSpec)

/-- 'coachhousetop.TopFits', WHERE WHAT IT READS IS OF BULK AT MOST 1048576: true; the input reads as it did. -/
def topFitsUptoRow : OpenClaim := { program := "ytplomeacjbkgnab", sum := "b9f8710f8ef6894cb4fac64d2ce3aef4c55d3537bd051665b82b5d608b379e79", func := "coachhouse/coachhousetop.TopFits", spec := "topFits", plainKeys := false, apart := false, narrowed := true }
def TopFitsUptoSaid : Prop := topFitsUptoRow.holds Try.pinned (OpenSpec.upto topFitsSpec)

/-- 'coachhousetop.TopDisk', WHERE WHAT IT READS IS OF BULK AT MOST 1048576: true; the input reads as it did. -/
def topDiskUptoRow : OpenClaim := { program := "ytplomeacjbkgnab", sum := "b9f8710f8ef6894cb4fac64d2ce3aef4c55d3537bd051665b82b5d608b379e79", func := "coachhouse/coachhousetop.TopDisk", spec := "topDisk", plainKeys := false, apart := false, narrowed := true }
def TopDiskUptoSaid : Prop := topDiskUptoRow.holds Try.pinned (OpenSpec.upto topDiskSpec)

/-- 'coachhousetop.TopStay', WHERE WHAT IT READS IS OF BULK AT MOST 1048576: true; the input reads as it did. -/
def topStayUptoRow : OpenClaim := { program := "ytplomeacjbkgnab", sum := "b9f8710f8ef6894cb4fac64d2ce3aef4c55d3537bd051665b82b5d608b379e79", func := "coachhouse/coachhousetop.TopStay", spec := "topStay", plainKeys := false, apart := false, narrowed := true }
def TopStayUptoSaid : Prop := topStayUptoRow.holds Try.pinned (OpenSpec.upto topStaySpec)

/-- 'coachhousetop.TopOver', WHERE WHAT IT READS IS OF BULK AT MOST 1048576: true; the input reads as it did. -/
def topOverUptoRow : OpenClaim := { program := "ytplomeacjbkgnab", sum := "b9f8710f8ef6894cb4fac64d2ce3aef4c55d3537bd051665b82b5d608b379e79", func := "coachhouse/coachhousetop.TopOver", spec := "topOver", unfollowed := true, recurses := true, plainKeys := false, apart := false, narrowed := true }
def TopOverUptoSaid : Prop := topOverUptoRow.holds Try.pinned (OpenSpec.upto topOverSpec)

/-- 'coachhousetop.TopPick', WHERE WHAT IT READS IS OF BULK AT MOST 1048576: true; the input reads as it did. -/
def topPickUptoRow : OpenClaim := { program := "ytplomeacjbkgnab", sum := "b9f8710f8ef6894cb4fac64d2ce3aef4c55d3537bd051665b82b5d608b379e79", func := "coachhouse/coachhousetop.TopPick", spec := "topPick", unfollowed := true, recurses := true, plainKeys := false, apart := false, narrowed := true }
def TopPickUptoSaid : Prop := topPickUptoRow.holds Try.pinned (OpenSpec.upto topPickSpec)

/-- 'coachhousetop.TopSafe', WHERE WHAT IT READS IS OF BULK AT MOST 1048576: true; the input reads as it did. -/
def topSafeUptoRow : OpenClaim := { program := "ytplomeacjbkgnab", sum := "b9f8710f8ef6894cb4fac64d2ce3aef4c55d3537bd051665b82b5d608b379e79", func := "coachhouse/coachhousetop.TopSafe", spec := "topSafe", plainKeys := false, apart := false, narrowed := true }
def TopSafeUptoSaid : Prop := topSafeUptoRow.holds Try.pinned (OpenSpec.upto topSafeSpec)

/-- 'coachhousetop.TopFree', WHERE WHAT IT READS IS OF BULK AT MOST 1048576: true; the input reads as it did. -/
def topFreeUptoRow : OpenClaim := { program := "ytplomeacjbkgnab", sum := "b9f8710f8ef6894cb4fac64d2ce3aef4c55d3537bd051665b82b5d608b379e79", func := "coachhouse/coachhousetop.TopFree", spec := "topFree", plainKeys := false, apart := false, narrowed := true }
def TopFreeUptoSaid : Prop := topFreeUptoRow.holds Try.pinned (OpenSpec.upto topFreeSpec)

/-- 'coachhousetop.TopGoal', WHERE WHAT IT READS IS OF BULK AT MOST 1048576: true; the input reads as it did. -/
def topGoalUptoRow : OpenClaim := { program := "ytplomeacjbkgnab", sum := "b9f8710f8ef6894cb4fac64d2ce3aef4c55d3537bd051665b82b5d608b379e79", func := "coachhouse/coachhousetop.TopGoal", spec := "topGoal", plainKeys := false, apart := false, narrowed := true }
def TopGoalUptoSaid : Prop := topGoalUptoRow.holds Try.pinned (OpenSpec.upto topGoalSpec)

/-- 'coachhousetop.TopPark', WHERE WHAT IT READS IS OF BULK AT MOST 1048576: true; the input reads as it did. -/
def topParkUptoRow : OpenClaim := { program := "ytplomeacjbkgnab", sum := "b9f8710f8ef6894cb4fac64d2ce3aef4c55d3537bd051665b82b5d608b379e79", func := "coachhouse/coachhousetop.TopPark", spec := "topPark", unfollowed := true, recurses := true, plainKeys := false, apart := false, narrowed := true }
def TopParkUptoSaid : Prop := topParkUptoRow.holds Try.pinned (OpenSpec.upto topParkSpec)

end Rows
end Go.Proofs.Ytplomeacjbkgnab
