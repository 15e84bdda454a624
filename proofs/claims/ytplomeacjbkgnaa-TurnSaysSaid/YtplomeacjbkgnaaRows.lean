/-
  No cell of these rows narrows 'for every input' (looked for: loops, veiled, ifaces, maps, wideKeys, modest, calm, conditions, laid).
  DERIVED. THE GIVEN ROWS OF THIS SEAT. 9 by the template 'for every input the law returns true; each argument reads behind the call as it read before'; 0 by the template 'total and deterministic' (their statements: YtplomeacjbkgnaaTotals.lean).
  GIVEN WITH THE SEED: the statements are not yours to turn. If you find one false, say at which input.
  Laid BY PROGRAM, IN A SANDBOX (cutbox-rows.mjs): the forced cells as the released guide's own fill.sh prints them over the translation ec4e4935690e1718… (all of the seat's roots in one cut). By AI agents, Wed Nov 11 2026. No macro, syntax, notation, axiom, sorry.
-/
import Derived.Test.YtplomeacjbkgnaaChecked
import GoSem.Claim
import GoSem.ClaimJoined
import GoSem.ClaimMapViews
import Derived.JoinedTies
import Derived.KernelRfl
namespace Go.Proofs.Ytplomeacjbkgnaa
/- THE CELL 'sum', in the pinned program and in every row, IS THE sha256 OF THE DUMP (.gsa) THAT YtplomeacjbkgnaaProg.lean LOADS. Nothing in Lean hashes anything: it is a label: what it is worth is what the hold of that sum in a sandbox is worth. -/
noncomputable def Try.pinned : Pinned := { name := "ytplomeacjbkgnaa", sum := "ec4e4935690e171812ca35633aae4b5ce8954b8ddd0d72f1543f803f5955e368", checked := Try.checked }
namespace Rows
def none {H : Type} : Left H := { results := [], args := [] }

/-- 'coachhouselaw.PlanSays': WHATEVER THE INPUT: true; the input reads as it did. -/
def planSaysSpec : ChangeSpec := { name := "planSays", fn := fun _ => fun
  | [d] => { results := [.lit (.bool true)], args := [d] }
  | _ => none }
def planSaysRow : OpenClaim := { program := "ytplomeacjbkgnaa", sum := "ec4e4935690e171812ca35633aae4b5ce8954b8ddd0d72f1543f803f5955e368", func := "coachhouse/coachhouselaw.PlanSays", spec := "planSays", plainKeys := false, apart := false }
def PlanSaysSaid : Prop := planSaysRow.holds Try.pinned (OpenSpec.ofChange planSaysSpec)

/-- ITS FALSE NEIGHBOUR: 'it returns false'. Refute it at one input. -/
def planSaysWrong : ChangeSpec := { name := "planSays", fn := fun _ => fun
  | [d] => { results := [.lit (.bool false)], args := [d] }
  | _ => none }
def PlanSaysWrongFalsely : Prop := planSaysRow.holds Try.pinned (OpenSpec.ofChange planSaysWrong)

/-- 'coachhouselaw.GuardSays': WHATEVER THE INPUT: true; the input reads as it did. -/
def guardSaysSpec : ChangeSpec := { name := "guardSays", fn := fun _ => fun
  | [d1, d2] => { results := [.lit (.bool true)], args := [d1, d2] }
  | _ => none }
def guardSaysRow : OpenClaim := { program := "ytplomeacjbkgnaa", sum := "ec4e4935690e171812ca35633aae4b5ce8954b8ddd0d72f1543f803f5955e368", func := "coachhouse/coachhouselaw.GuardSays", spec := "guardSays", plainKeys := false, apart := false }
def GuardSaysSaid : Prop := guardSaysRow.holds Try.pinned (OpenSpec.ofChange guardSaysSpec)

/-- ITS FALSE NEIGHBOUR: 'it returns false'. Refute it at one input. -/
def guardSaysWrong : ChangeSpec := { name := "guardSays", fn := fun _ => fun
  | [d1, d2] => { results := [.lit (.bool false)], args := [d1, d2] }
  | _ => none }
def GuardSaysWrongFalsely : Prop := guardSaysRow.holds Try.pinned (OpenSpec.ofChange guardSaysWrong)

/-- 'coachhouselaw.GoalSays': WHATEVER THE INPUT: true; the input reads as it did. -/
def goalSaysSpec : ChangeSpec := { name := "goalSays", fn := fun _ => fun
  | [d1, d2] => { results := [.lit (.bool true)], args := [d1, d2] }
  | _ => none }
def goalSaysRow : OpenClaim := { program := "ytplomeacjbkgnaa", sum := "ec4e4935690e171812ca35633aae4b5ce8954b8ddd0d72f1543f803f5955e368", func := "coachhouse/coachhouselaw.GoalSays", spec := "goalSays", plainKeys := false, apart := false }
def GoalSaysSaid : Prop := goalSaysRow.holds Try.pinned (OpenSpec.ofChange goalSaysSpec)

/-- ITS FALSE NEIGHBOUR: 'it returns false'. Refute it at one input. -/
def goalSaysWrong : ChangeSpec := { name := "goalSays", fn := fun _ => fun
  | [d1, d2] => { results := [.lit (.bool false)], args := [d1, d2] }
  | _ => none }
def GoalSaysWrongFalsely : Prop := goalSaysRow.holds Try.pinned (OpenSpec.ofChange goalSaysWrong)

/-- 'coachhouselaw.TowerSays': WHATEVER THE INPUT: true; the input reads as it did. -/
def towerSaysSpec : ChangeSpec := { name := "towerSays", fn := fun _ => fun
  | [d1, d2, d3, d4] => { results := [.lit (.bool true)], args := [d1, d2, d3, d4] }
  | _ => none }
def towerSaysRow : OpenClaim := { program := "ytplomeacjbkgnaa", sum := "ec4e4935690e171812ca35633aae4b5ce8954b8ddd0d72f1543f803f5955e368", func := "coachhouse/coachhouselaw.TowerSays", spec := "towerSays", plainKeys := false, apart := false }
def TowerSaysSaid : Prop := towerSaysRow.holds Try.pinned (OpenSpec.ofChange towerSaysSpec)

/-- ITS FALSE NEIGHBOUR: 'it returns false'. Refute it at one input. -/
def towerSaysWrong : ChangeSpec := { name := "towerSays", fn := fun _ => fun
  | [d1, d2, d3, d4] => { results := [.lit (.bool false)], args := [d1, d2, d3, d4] }
  | _ => none }
def TowerSaysWrongFalsely : Prop := towerSaysRow.holds Try.pinned (OpenSpec.ofChange towerSaysWrong)

/-- 'coachhouselaw.DiskSays': WHATEVER THE INPUT: true; the input reads as it did. -/
def diskSaysSpec : ChangeSpec := { name := "diskSays", fn := fun _ => fun
  | [d1, d2] => { results := [.lit (.bool true)], args := [d1, d2] }
  | _ => none }
def diskSaysRow : OpenClaim := { program := "ytplomeacjbkgnaa", sum := "ec4e4935690e171812ca35633aae4b5ce8954b8ddd0d72f1543f803f5955e368", func := "coachhouse/coachhouselaw.DiskSays", spec := "diskSays", plainKeys := false, apart := false }
def DiskSaysSaid : Prop := diskSaysRow.holds Try.pinned (OpenSpec.ofChange diskSaysSpec)

/-- ITS FALSE NEIGHBOUR: 'it returns false'. Refute it at one input. -/
def diskSaysWrong : ChangeSpec := { name := "diskSays", fn := fun _ => fun
  | [d1, d2] => { results := [.lit (.bool false)], args := [d1, d2] }
  | _ => none }
def DiskSaysWrongFalsely : Prop := diskSaysRow.holds Try.pinned (OpenSpec.ofChange diskSaysWrong)

/-- 'coachhouselaw.DeskSays': WHATEVER THE INPUT: true; the input reads as it did. -/
def deskSaysSpec : ChangeSpec := { name := "deskSays", fn := fun _ => fun
  | [d1, d2, d3, d4, d5] => { results := [.lit (.bool true)], args := [d1, d2, d3, d4, d5] }
  | _ => none }
def deskSaysRow : OpenClaim := { program := "ytplomeacjbkgnaa", sum := "ec4e4935690e171812ca35633aae4b5ce8954b8ddd0d72f1543f803f5955e368", func := "coachhouse/coachhouselaw.DeskSays", spec := "deskSays", unfollowed := true, recurses := true, plainKeys := false, apart := false }
def DeskSaysSaid : Prop := deskSaysRow.holds Try.pinned (OpenSpec.ofChange deskSaysSpec)

/-- ITS FALSE NEIGHBOUR: 'it returns false'. Refute it at one input. -/
def deskSaysWrong : ChangeSpec := { name := "deskSays", fn := fun _ => fun
  | [d1, d2, d3, d4, d5] => { results := [.lit (.bool false)], args := [d1, d2, d3, d4, d5] }
  | _ => none }
def DeskSaysWrongFalsely : Prop := deskSaysRow.holds Try.pinned (OpenSpec.ofChange deskSaysWrong)

/-- 'coachhouselaw.PlantSays': WHATEVER THE INPUT: true; the input reads as it did. -/
def plantSaysSpec : ChangeSpec := { name := "plantSays", fn := fun _ => fun
  | [d1, d2] => { results := [.lit (.bool true)], args := [d1, d2] }
  | _ => none }
def plantSaysRow : OpenClaim := { program := "ytplomeacjbkgnaa", sum := "ec4e4935690e171812ca35633aae4b5ce8954b8ddd0d72f1543f803f5955e368", func := "coachhouse/coachhouselaw.PlantSays", spec := "plantSays", plainKeys := false, apart := false }
def PlantSaysSaid : Prop := plantSaysRow.holds Try.pinned (OpenSpec.ofChange plantSaysSpec)

/-- ITS FALSE NEIGHBOUR: 'it returns false'. Refute it at one input. -/
def plantSaysWrong : ChangeSpec := { name := "plantSays", fn := fun _ => fun
  | [d1, d2] => { results := [.lit (.bool false)], args := [d1, d2] }
  | _ => none }
def PlantSaysWrongFalsely : Prop := plantSaysRow.holds Try.pinned (OpenSpec.ofChange plantSaysWrong)

/-- 'coachhouselaw.TurnSays': WHATEVER THE INPUT: true; the input reads as it did. -/
def turnSaysSpec : ChangeSpec := { name := "turnSays", fn := fun _ => fun
  | [d1, d2, d3] => { results := [.lit (.bool true)], args := [d1, d2, d3] }
  | _ => none }
def turnSaysRow : OpenClaim := { program := "ytplomeacjbkgnaa", sum := "ec4e4935690e171812ca35633aae4b5ce8954b8ddd0d72f1543f803f5955e368", func := "coachhouse/coachhouselaw.TurnSays", spec := "turnSays", unfollowed := true, recurses := true, plainKeys := false, apart := false }
def TurnSaysSaid : Prop := turnSaysRow.holds Try.pinned (OpenSpec.ofChange turnSaysSpec)

/-- ITS FALSE NEIGHBOUR: 'it returns false'. Refute it at one input. -/
def turnSaysWrong : ChangeSpec := { name := "turnSays", fn := fun _ => fun
  | [d1, d2, d3] => { results := [.lit (.bool false)], args := [d1, d2, d3] }
  | _ => none }
def TurnSaysWrongFalsely : Prop := turnSaysRow.holds Try.pinned (OpenSpec.ofChange turnSaysWrong)

/-- 'coachhousetop.TopExt': WHATEVER THE INPUT: true; the input reads as it did. -/
def topExtSpec : ChangeSpec := { name := "topExt", fn := fun _ => fun
  | [d1, d2] => { results := [.lit (.bool true)], args := [d1, d2] }
  | _ => none }
def topExtRow : OpenClaim := { program := "ytplomeacjbkgnaa", sum := "ec4e4935690e171812ca35633aae4b5ce8954b8ddd0d72f1543f803f5955e368", func := "coachhouse/coachhousetop.TopExt", spec := "topExt", plainKeys := false, apart := false }
def TopExtSaid : Prop := topExtRow.holds Try.pinned (OpenSpec.ofChange topExtSpec)

/-- ITS FALSE NEIGHBOUR: 'it returns false'. Refute it at one input. -/
def topExtWrong : ChangeSpec := { name := "topExt", fn := fun _ => fun
  | [d1, d2] => { results := [.lit (.bool false)], args := [d1, d2] }
  | _ => none }
def TopExtWrongFalsely : Prop := topExtRow.holds Try.pinned (OpenSpec.ofChange topExtWrong)

/- THE SECOND FORM. 'bulk': how many values and letters a reading holds, each counted each time it is reached (what is shared counts as often as it is met; a slice's spare places count too). A statement '..UptoSaid' is the law's where the arguments, and the package variables that the reading takes, are together of bulk at most 1048576: NARROWER than '..Said'. Prove '..Said' where nothing that the law and all that it calls make is longer than what came in: it says more and counts as full. Else prove '..UptoSaid'. A law counts once. -/
mutual
def uptoBulk {H : Type} : DataW H → Nat
  | .lit (.string bytes) => bytes.length + 1
  | .lit _ => 1
  | .nil => 1
  | .ptr d => uptoBulk d + 1
  | .slice elems spare => uptoBulkAll elems + uptoBulkAll spare + 1
  | .agg parts => uptoBulkAll parts + 1
  | .iface _ d => uptoBulk d + 1
  | .map entries => uptoBulkEntries entries + 1
  | .held _ => 1
def uptoBulkAll {H : Type} : List (DataW H) → Nat
  | [] => 0
  | d :: r => uptoBulk d + uptoBulkAll r
def uptoBulkEntries {H : Type} : List (Lit × DataW H) → Nat
  | [] => 0
  | x :: r => uptoBulkEntry x + uptoBulkEntries r
def uptoBulkEntry {H : Type} : Lit × DataW H → Nat
  | (.string bytes, d) => bytes.length + uptoBulk d + 1
  | (_, d) => uptoBulk d + 1
 end
def uptoSmall : (H : Type) → List (DataW H) → Bool := fun _ ds => decide (uptoBulkAll ds ≤ 1048576)
def OpenSpec.upto (s : _root_.Go.ChangeSpec) : _root_.Go.OpenSpec := { _root_.Go.OpenSpec.ofChange s with cond := some uptoSmall }

/-- 'coachhouselaw.PlanSays', WHERE WHAT IT READS IS OF BULK AT MOST 1048576: true; the input reads as it did. -/
def planSaysUptoRow : OpenClaim := { program := "ytplomeacjbkgnaa", sum := "ec4e4935690e171812ca35633aae4b5ce8954b8ddd0d72f1543f803f5955e368", func := "coachhouse/coachhouselaw.PlanSays", spec := "planSays", plainKeys := false, apart := false, narrowed := true }
def PlanSaysUptoSaid : Prop := planSaysUptoRow.holds Try.pinned (OpenSpec.upto planSaysSpec)

/-- 'coachhouselaw.GuardSays', WHERE WHAT IT READS IS OF BULK AT MOST 1048576: true; the input reads as it did. -/
def guardSaysUptoRow : OpenClaim := { program := "ytplomeacjbkgnaa", sum := "ec4e4935690e171812ca35633aae4b5ce8954b8ddd0d72f1543f803f5955e368", func := "coachhouse/coachhouselaw.GuardSays", spec := "guardSays", plainKeys := false, apart := false, narrowed := true }
def GuardSaysUptoSaid : Prop := guardSaysUptoRow.holds Try.pinned (OpenSpec.upto guardSaysSpec)

/-- 'coachhouselaw.GoalSays', WHERE WHAT IT READS IS OF BULK AT MOST 1048576: true; the input reads as it did. -/
def goalSaysUptoRow : OpenClaim := { program := "ytplomeacjbkgnaa", sum := "ec4e4935690e171812ca35633aae4b5ce8954b8ddd0d72f1543f803f5955e368", func := "coachhouse/coachhouselaw.GoalSays", spec := "goalSays", plainKeys := false, apart := false, narrowed := true }
def GoalSaysUptoSaid : Prop := goalSaysUptoRow.holds Try.pinned (OpenSpec.upto goalSaysSpec)

/-- 'coachhouselaw.TowerSays', WHERE WHAT IT READS IS OF BULK AT MOST 1048576: true; the input reads as it did. -/
def towerSaysUptoRow : OpenClaim := { program := "ytplomeacjbkgnaa", sum := "ec4e4935690e171812ca35633aae4b5ce8954b8ddd0d72f1543f803f5955e368", func := "coachhouse/coachhouselaw.TowerSays", spec := "towerSays", plainKeys := false, apart := false, narrowed := true }
def TowerSaysUptoSaid : Prop := towerSaysUptoRow.holds Try.pinned (OpenSpec.upto towerSaysSpec)

/-- 'coachhouselaw.DiskSays', WHERE WHAT IT READS IS OF BULK AT MOST 1048576: true; the input reads as it did. -/
def diskSaysUptoRow : OpenClaim := { program := "ytplomeacjbkgnaa", sum := "ec4e4935690e171812ca35633aae4b5ce8954b8ddd0d72f1543f803f5955e368", func := "coachhouse/coachhouselaw.DiskSays", spec := "diskSays", plainKeys := false, apart := false, narrowed := true }
def DiskSaysUptoSaid : Prop := diskSaysUptoRow.holds Try.pinned (OpenSpec.upto diskSaysSpec)

/-- 'coachhouselaw.DeskSays', WHERE WHAT IT READS IS OF BULK AT MOST 1048576: true; the input reads as it did. -/
def deskSaysUptoRow : OpenClaim := { program := "ytplomeacjbkgnaa", sum := "ec4e4935690e171812ca35633aae4b5ce8954b8ddd0d72f1543f803f5955e368", func := "coachhouse/coachhouselaw.DeskSays", spec := "deskSays", unfollowed := true, recurses := true, plainKeys := false, apart := false, narrowed := true }
def DeskSaysUptoSaid : Prop := deskSaysUptoRow.holds Try.pinned (OpenSpec.upto deskSaysSpec)

/-- 'coachhouselaw.PlantSays', WHERE WHAT IT READS IS OF BULK AT MOST 1048576: true; the input reads as it did. -/
def plantSaysUptoRow : OpenClaim := { program := "ytplomeacjbkgnaa", sum := "ec4e4935690e171812ca35633aae4b5ce8954b8ddd0d72f1543f803f5955e368", func := "coachhouse/coachhouselaw.PlantSays", spec := "plantSays", plainKeys := false, apart := false, narrowed := true }
def PlantSaysUptoSaid : Prop := plantSaysUptoRow.holds Try.pinned (OpenSpec.upto plantSaysSpec)

/-- 'coachhouselaw.TurnSays', WHERE WHAT IT READS IS OF BULK AT MOST 1048576: true; the input reads as it did. -/
def turnSaysUptoRow : OpenClaim := { program := "ytplomeacjbkgnaa", sum := "ec4e4935690e171812ca35633aae4b5ce8954b8ddd0d72f1543f803f5955e368", func := "coachhouse/coachhouselaw.TurnSays", spec := "turnSays", unfollowed := true, recurses := true, plainKeys := false, apart := false, narrowed := true }
def TurnSaysUptoSaid : Prop := turnSaysUptoRow.holds Try.pinned (OpenSpec.upto turnSaysSpec)

/-- 'coachhousetop.TopExt', WHERE WHAT IT READS IS OF BULK AT MOST 1048576: true; the input reads as it did. -/
def topExtUptoRow : OpenClaim := { program := "ytplomeacjbkgnaa", sum := "ec4e4935690e171812ca35633aae4b5ce8954b8ddd0d72f1543f803f5955e368", func := "coachhouse/coachhousetop.TopExt", spec := "topExt", plainKeys := false, apart := false, narrowed := true }
def TopExtUptoSaid : Prop := topExtUptoRow.holds Try.pinned (OpenSpec.upto topExtSpec)

end Rows
end Go.Proofs.Ytplomeacjbkgnaa
