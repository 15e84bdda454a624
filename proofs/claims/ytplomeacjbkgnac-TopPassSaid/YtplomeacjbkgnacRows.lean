/-
  No cell of these rows narrows 'for every input' (looked for: loops, veiled, ifaces, maps, wideKeys, modest, calm, conditions, laid).
  DERIVED. THE GIVEN ROWS OF THIS SEAT. 3 by the template 'for every input the law returns true; each argument reads behind the call as it read before'; 0 by the template 'total and deterministic' (their statements: YtplomeacjbkgnacTotals.lean).
  GIVEN WITH THE SEED: the statements are not yours to turn. If you find one false, say at which input.
  Laid BY PROGRAM, IN A SANDBOX (cutbox-rows.mjs): the forced cells as the released guide's own fill.sh prints them over the translation 0fa945ae19ac9a3f… (all of the seat's roots in one cut). By AI agents, Wed Nov 11 2026. No macro, syntax, notation, axiom, sorry.
-/
import Derived.Test.YtplomeacjbkgnacChecked
import GoSem.Claim
import GoSem.ClaimJoined
import GoSem.ClaimMapViews
import Derived.JoinedTies
import Derived.KernelRfl
namespace Go.Proofs.Ytplomeacjbkgnac
/- THE CELL 'sum', in the pinned program and in every row, IS THE sha256 OF THE DUMP (.gsa) THAT YtplomeacjbkgnacProg.lean LOADS. Nothing in Lean hashes anything: it is a label: what it is worth is what the hold of that sum in a sandbox is worth. -/
noncomputable def Try.pinned : Pinned := { name := "ytplomeacjbkgnac", sum := "0fa945ae19ac9a3ffdba8824c6ff332f355cfd987654ee89a85bfaba14e64b22", checked := Try.checked }
namespace Rows
def none {H : Type} : Left H := { results := [], args := [] }

/-- 'coachhousetop.TopPass': WHATEVER THE INPUT: true; the input reads as it did. -/
def topPassSpec : ChangeSpec := { name := "topPass", fn := fun _ => fun
  | [d1, d2, d3] => { results := [.lit (.bool true)], args := [d1, d2, d3] }
  | _ => none }
def topPassRow : OpenClaim := { program := "ytplomeacjbkgnac", sum := "0fa945ae19ac9a3ffdba8824c6ff332f355cfd987654ee89a85bfaba14e64b22", func := "coachhouse/coachhousetop.TopPass", spec := "topPass", plainKeys := false, apart := false }
def TopPassSaid : Prop := topPassRow.holds Try.pinned (OpenSpec.ofChange topPassSpec)

/-- ITS FALSE NEIGHBOUR: 'it returns false'. Refute it at one input. -/
def topPassWrong : ChangeSpec := { name := "topPass", fn := fun _ => fun
  | [d1, d2, d3] => { results := [.lit (.bool false)], args := [d1, d2, d3] }
  | _ => none }
def TopPassWrongFalsely : Prop := topPassRow.holds Try.pinned (OpenSpec.ofChange topPassWrong)

/-- 'coachhousetop.TopFetch': WHATEVER THE INPUT: true; the input reads as it did. -/
def topFetchSpec : ChangeSpec := { name := "topFetch", fn := fun _ => fun
  | [d1, d2, d3] => { results := [.lit (.bool true)], args := [d1, d2, d3] }
  | _ => none }
def topFetchRow : OpenClaim := { program := "ytplomeacjbkgnac", sum := "0fa945ae19ac9a3ffdba8824c6ff332f355cfd987654ee89a85bfaba14e64b22", func := "coachhouse/coachhousetop.TopFetch", spec := "topFetch", plainKeys := false, apart := false }
def TopFetchSaid : Prop := topFetchRow.holds Try.pinned (OpenSpec.ofChange topFetchSpec)

/-- ITS FALSE NEIGHBOUR: 'it returns false'. Refute it at one input. -/
def topFetchWrong : ChangeSpec := { name := "topFetch", fn := fun _ => fun
  | [d1, d2, d3] => { results := [.lit (.bool false)], args := [d1, d2, d3] }
  | _ => none }
def TopFetchWrongFalsely : Prop := topFetchRow.holds Try.pinned (OpenSpec.ofChange topFetchWrong)

/-- 'coachhousetop.TopBring': WHATEVER THE INPUT: true; the input reads as it did. -/
def topBringSpec : ChangeSpec := { name := "topBring", fn := fun _ => fun
  | [d1, d2, d3] => { results := [.lit (.bool true)], args := [d1, d2, d3] }
  | _ => none }
def topBringRow : OpenClaim := { program := "ytplomeacjbkgnac", sum := "0fa945ae19ac9a3ffdba8824c6ff332f355cfd987654ee89a85bfaba14e64b22", func := "coachhouse/coachhousetop.TopBring", spec := "topBring", plainKeys := false, apart := false }
def TopBringSaid : Prop := topBringRow.holds Try.pinned (OpenSpec.ofChange topBringSpec)

/-- ITS FALSE NEIGHBOUR: 'it returns false'. Refute it at one input. -/
def topBringWrong : ChangeSpec := { name := "topBring", fn := fun _ => fun
  | [d1, d2, d3] => { results := [.lit (.bool false)], args := [d1, d2, d3] }
  | _ => none }
def TopBringWrongFalsely : Prop := topBringRow.holds Try.pinned (OpenSpec.ofChange topBringWrong)

/- THE SECOND FORM. 'bulk': how many values and letters a reading holds, each counted each time it is reached (what is shared counts as often as it is met; a slice's spare places count too). A statement '..UptoSaid' is the law's where the arguments, and the package variables that the reading takes, are together of bulk at most 1048576: NARROWER than '..Said'. Prove '..Said' where nothing that the law and all that it calls make is longer than what came in: it says more and counts as full. Else prove '..UptoSaid'. A law counts once. -/
mutual
def uptoBulk {H : Type} : DataW H → Nat
  | .lit (.string bytes) => bytes.length + 1
  | .lit _ => 1
  | .nil => 1
  | .ptr d => uptoBulk d + 1
  | .slice elems spare => uptoBulkAll elems + uptoBulkAll spare + 1
  | .agg parts => uptoBulkAll parts + 1
  | .iface _ d => uptoBulk d + 1
  | .map entries => uptoBulkEntries entries + 1
  | .held _ => 1
def uptoBulkAll {H : Type} : List (DataW H) → Nat
  | [] => 0
  | d :: r => uptoBulk d + uptoBulkAll r
def uptoBulkEntries {H : Type} : List (Lit × DataW H) → Nat
  | [] => 0
  | x :: r => uptoBulkEntry x + uptoBulkEntries r
def uptoBulkEntry {H : Type} : Lit × DataW H → Nat
  | (.string bytes, d) => bytes.length + uptoBulk d + 1
  | (_, d) => uptoBulk d + 1
 end
def uptoSmall : (H : Type) → List (DataW H) → Bool := fun _ ds => decide (uptoBulkAll ds ≤ 1048576)
def OpenSpec.upto (s : _root_.Go.ChangeSpec) : _root_.Go.OpenSpec := { _root_.Go.OpenSpec.ofChange s with cond := some uptoSmall }

/-- 'coachhousetop.TopPass', WHERE WHAT IT READS IS OF BULK AT MOST 1048576: true; the input reads as it did. -/
def topPassUptoRow : OpenClaim := { program := "ytplomeacjbkgnac", sum := "0fa945ae19ac9a3ffdba8824c6ff332f355cfd987654ee89a85bfaba14e64b22", func := "coachhouse/coachhousetop.TopPass", spec := "topPass", plainKeys := false, apart := false, narrowed := true }
def TopPassUptoSaid : Prop := topPassUptoRow.holds Try.pinned (OpenSpec.upto topPassSpec)

/-- 'coachhousetop.TopFetch', WHERE WHAT IT READS IS OF BULK AT MOST 1048576: true; the input reads as it did. -/
def topFetchUptoRow : OpenClaim := { program := "ytplomeacjbkgnac", sum := "0fa945ae19ac9a3ffdba8824c6ff332f355cfd987654ee89a85bfaba14e64b22", func := "coachhouse/coachhousetop.TopFetch", spec := "topFetch", plainKeys := false, apart := false, narrowed := true }
def TopFetchUptoSaid : Prop := topFetchUptoRow.holds Try.pinned (OpenSpec.upto topFetchSpec)

/-- 'coachhousetop.TopBring', WHERE WHAT IT READS IS OF BULK AT MOST 1048576: true; the input reads as it did. -/
def topBringUptoRow : OpenClaim := { program := "ytplomeacjbkgnac", sum := "0fa945ae19ac9a3ffdba8824c6ff332f355cfd987654ee89a85bfaba14e64b22", func := "coachhouse/coachhousetop.TopBring", spec := "topBring", plainKeys := false, apart := false, narrowed := true }
def TopBringUptoSaid : Prop := topBringUptoRow.holds Try.pinned (OpenSpec.upto topBringSpec)

end Rows
end Go.Proofs.Ytplomeacjbkgnac
