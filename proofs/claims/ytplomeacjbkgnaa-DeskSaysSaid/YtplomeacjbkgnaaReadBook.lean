/-
  A book that came in, as lists.
-/
import Derived.Test.YtplomeacjbkgnaaRead
import Derived.Test.YtplomeacjbkgnaaBook
namespace Go.Proofs.Ytplomeacjbkgnaa
open Go.RowKit
variable {H : Type} {enc : TypeId × Value → H} {w : World}

theorem rd_book {cs : List Value} (h : Rd enc Try.prog w 76 cs) : ∃ last a1 n1 c1 a2 n2 c2 l js, cs = [vi last, .slice a1 n1 c1, .slice a2 n2 c2] ∧ Sl w 8 stayCells l a1 n1 c1 ∧ Sl w 2 jobCells js a2 n2 c2 ∧ I64 last ∧ (∀ s ∈ l, I64Y s) ∧ ∀ j ∈ js, I64J j := by
  obtain ⟨hl, hf⟩ := rd_struct [(3, 0, 1), (73, 1, 1), (74, 2, 1)] 3 (by kernel_rfl) (by kernel_rfl) (by kernel_rfl) h
  obtain ⟨last, h0, g0⟩ := rd_int Try.underlying3 (hf (3, 0, 1) (by simp))
  obtain ⟨l, a1, n1, c1, h1, s1, g1⟩ := rd_list (c := 8) stayCells I64Y (by decide) (fun _ => rfl) Try.underlying73 (by kernel_rfl) (fun ecs h => rd_stay h) (hf (73, 1, 1) (by simp))
  obtain ⟨js, a2, n2, c2, h2, s2, g2⟩ := rd_list (c := 2) jobCells I64J (by decide) (fun _ => rfl) Try.underlying74 (by kernel_rfl) (fun ecs h => rd_job h) (hf (74, 2, 1) (by simp))
  refine ⟨last, a1, n1, c1, a2, n2, c2, l, js, ?_, s1, s2, g0, g1, g2⟩
  match cs, hl with
  | [x0, x1, x2], _ => simp at h0 h1 h2; simp [h0, h1, h2]
end Go.Proofs.Ytplomeacjbkgnaa
