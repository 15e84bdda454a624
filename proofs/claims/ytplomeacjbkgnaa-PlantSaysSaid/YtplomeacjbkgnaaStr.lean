/-
  Texts held against constants.
-/
import Derived.Test.YtplomeacjbkgnaaBase
namespace Go.Proofs.Ytplomeacjbkgnaa
open Go.RowKit

theorem toList_loop (s : ByteArray) : ∀ (n i : Nat) (r : List UInt8), s.size - i = n → ByteArray.toList.loop s i r = r.reverse ++ s.data.toList.drop i := by
  intro n
  induction n with
  | zero =>
    intro i r h
    unfold ByteArray.toList.loop
    rw [if_neg (by omega), List.drop_of_length_le (by simp only [Array.length_toList]; show s.size ≤ i; omega), List.append_nil]
  | succ n ih =>
    intro i r h
    unfold ByteArray.toList.loop
    rw [if_pos (by omega), ih (i+1) _ (by omega)]
    have hi : i < s.data.toList.length := by simp only [Array.length_toList]; show i < s.size; omega
    rw [List.drop_eq_getElem_cons hi]
    have : s.get! i = s.data.toList[i] := by
      unfold ByteArray.get!
      rw [Array.getElem_toList]
      exact getElem!_pos s.data i (by show i < s.size; omega)
    rw [this]; simp

theorem toList_data (s : ByteArray) : s.toList = s.data.toList := by
  unfold ByteArray.toList
  rw [toList_loop s _ 0 [] rfl]; rfl

theorem str_ne {s t : ByteArray} (h : s ≠ t) : (s.toList == t.data.toList) = false := by
  rw [toList_data]
  apply Classical.byContradiction
  intro hc
  have hc : s.data.toList = t.data.toList := by simpa using hc
  apply h
  cases s; cases t
  simp only at hc
  congr 1
  exact Array.toList_inj.1 hc

theorem kind_is {s t : ByteArray} (h : s = t) : (s.toList == t.data.toList) = true := by rw [h, toList_data]; simp

end Go.Proofs.Ytplomeacjbkgnaa
