/-
  The reference's reading of a number is the library's: plain law.
-/
import Derived.Test.YtplomeacjbkgnaaDoorTextLaw
namespace Ch
open Go

def accOf (l : List UInt8) : Int := l.foldl (fun a b => 10 * a + ((b.toNat : Int) - 48)) 0

theorem accOf_snoc (l : List UInt8) (b : UInt8) : accOf (l ++ [b]) = 10 * accOf l + ((b.toNat : Int) - 48) := by
  unfold accOf; rw [List.foldl_append]; rfl

def Digits (l : List UInt8) : Prop := ∀ b ∈ l, 48 ≤ b.toNat ∧ b.toNat ≤ 57

theorem snoc_ind {P : List UInt8 → Prop} (h0 : P []) (h1 : ∀ l b, P l → P (l ++ [b])) (l : List UInt8) : P l := by
  have : ∀ m : List UInt8, P m.reverse := by
    intro m
    induction m with
    | nil => exact h0
    | cons b r ih => rw [List.reverse_cons]; exact h1 _ _ ih
  have := this l.reverse
  rwa [List.reverse_reverse] at this

theorem accOf_bound (l : List UInt8) : Digits l → 0 ≤ accOf l ∧ accOf l < (10 : Int) ^ l.length := by
  refine snoc_ind (P := fun l => Digits l → 0 ≤ accOf l ∧ accOf l < (10 : Int) ^ l.length) ?_ ?_ l
  · intro _; exact ⟨by decide, by decide⟩
  · intro l b ih hd
    obtain ⟨a1, a2⟩ := ih (fun x hx => hd x (List.mem_append_left _ hx))
    have hb := hd b (List.mem_append_right _ (List.mem_singleton.2 rfl))
    rw [accOf_snoc, List.length_append, List.length_singleton, Int.pow_succ]
    omega

/-- no leading nought -/
def Led (l : List UInt8) : Prop := ∀ b r, l = b :: r → r ≠ [] → b.toNat ≠ 48

theorem dec_acc (l : List UInt8) : Digits l → Led l → l ≠ [] → Lib.decDigits (accOf l).toNat = l ∧ (∀ b r, l = b :: r → b.toNat ≠ 48 → 1 ≤ accOf l) := by
  refine snoc_ind (P := fun l => Digits l → Led l → l ≠ [] → Lib.decDigits (accOf l).toNat = l ∧ (∀ b r, l = b :: r → b.toNat ≠ 48 → 1 ≤ accOf l)) ?_ ?_ l
  · intro _ _ h; exact absurd rfl h
  · intro l b ih hd hl _
    have hb := hd b (List.mem_append_right _ (List.mem_singleton.2 rfl))
    have hdl : Digits l := fun x hx => hd x (List.mem_append_left _ hx)
    have hbd := accOf_bound l hdl
    have hbb : UInt8.ofNat b.toNat = b := by simp
    rw [accOf_snoc]
    cases l with
    | nil =>
      have h0 : accOf [] = 0 := rfl
      rw [h0]
      refine ⟨?_, ?_⟩
      · rw [Lib.decDigits_one (by omega), show 48 + (10 * (0 : Int) + ((b.toNat : Int) - 48)).toNat = b.toNat by omega, hbb]; rfl
      · intro b' r e hne
        cases e
        omega
    | cons c t =>
      have hc : c.toNat ≠ 48 := hl c (t ++ [b]) rfl (by simp)
      have hled : Led (c :: t) := fun b' r' e hr => by cases e; exact hc
      obtain ⟨i1, i2⟩ := ih hdl hled (by simp)
      have h1 := i2 c t rfl hc
      refine ⟨?_, fun _ _ _ _ => by omega⟩
      rw [dec_append _ (by omega), show (10 * accOf (c :: t) + ((b.toNat : Int) - 48)).toNat / 10 = (accOf (c :: t)).toNat by omega,
        show 48 + (10 * accOf (c :: t) + ((b.toNat : Int) - 48)).toNat % 10 = b.toNat by omega, i1, hbb]

theorem nat_ok {l : List UInt8} (hd : Digits l) (hl : Led l) (hn : l ≠ []) : numOf l = if accOf l ≤ 999999 then some (accOf l) else none := by
  have h := (dec_acc l hd hl hn).1
  have h0 := (accOf_bound l hd).1
  have e : l = Lib.itoa (accOf l) := by unfold Lib.itoa; rw [if_neg (by omega), h]
  split
  · rename_i hk
    exact numOf_iff.2 ⟨h0, hk, e⟩
  · rename_i hk
    cases hn : numOf l with
    | none => rfl
    | some k =>
      obtain ⟨k0, k1, ek⟩ := numOf_iff.1 hn
      have a1 := atoi_itoa k0 (by omega)
      rw [← ek] at a1
      exfalso
      apply hk
      -- the same digits: the same number
      have hh : ∀ u : Nat, accOf (Lib.decDigits u) = (u : Int) := by
        intro u
        induction u using Nat.strongRecOn with
        | _ u ih =>
          by_cases h : u < 10
          · rw [Lib.decDigits_one h]
            show 10 * (0 : Int) + (((UInt8.ofNat (48 + u)).toNat : Int) - 48) = u
            have : (UInt8.ofNat (48 + u)).toNat = 48 + u := by simp; omega
            omega
          · rw [dec_append u h, accOf_snoc, ih (u / 10) (by omega)]
            have : (UInt8.ofNat (48 + u % 10)).toNat = 48 + u % 10 := by simp; omega
            omega
      have : accOf l = k := by
        rw [ek]
        unfold Lib.itoa
        rw [if_neg (by omega), hh]
        omega
      omega

theorem nat_none {l : List UInt8} (h : l = [] ∨ 9 < l.length ∨ (∃ b ∈ l, ¬ (48 ≤ b.toNat ∧ b.toNat ≤ 57)) ∨ (∃ b r, l = b :: r ∧ r ≠ [] ∧ b.toNat = 48)) : numOf l = none := by
  cases hn : numOf l with
  | none => rfl
  | some k =>
    obtain ⟨k0, k1, ek⟩ := numOf_iff.1 hn
    exfalso
    rcases h with rfl | h | ⟨b, hb, hx⟩ | ⟨b, r, e, hr, hb⟩
    · exact itoa_ne k0 ek.symm
    · have := itoa_len (n := k) (k := 5) k0 (by norm_cast; omega)
      rw [← ek] at this
      omega
    · rw [ek] at hb
      exact hx (itoa_bytes k0 b hb)
    · have hI : Lib.itoa k = Lib.decDigits k.toNat := by unfold Lib.itoa; rw [if_neg (by omega)]
      have hh : ∀ u : Nat, 1 ≤ u → ∀ b r, Lib.decDigits u = b :: r → b.toNat ≠ 48 := by
        intro u
        induction u using Nat.strongRecOn with
        | _ u ih =>
          intro hu b r e
          by_cases h : u < 10
          · rw [Lib.decDigits_one h] at e
            cases e
            simp; omega
          · rw [dec_append u h] at e
            obtain ⟨i, t, hi, hd⟩ := dec_head (u / 10)
            rw [hd] at e
            cases e
            exact ih (u / 10) (by omega) (by omega) _ _ hd
      by_cases hz : k.toNat = 0
      · rw [ek, hI, hz, Lib.decDigits_one (by omega)] at e
        cases e
        exact hr rfl
      · exact hh k.toNat (by omega) b r (by rw [← hI, ← ek, e]) hb

end Ch
