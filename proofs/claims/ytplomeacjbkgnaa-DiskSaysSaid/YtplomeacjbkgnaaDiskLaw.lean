/-
  PLAIN LAWS OF THE DISK: what it is, what stays true of it. No program in sight.
-/
import Derived.Test.YtplomeacjbkgnaaModel
namespace Ch

/-! ### disk -/

def zeros (n : Nat) : ByteArray := ⟨Array.replicate n 0⟩

def fullS (s : ByteArray) : ByteArray := s ++ zeros (64 - s.size)

structure Disk where
  kept : List ByteArray
  now : List ByteArray
  wait : List (Nat × ByteArray)
  fuse : Int
  down : Bool
  deriving Inhabited

def Disk.new (n : Nat) : Disk := ⟨List.replicate n (zeros 64), List.replicate n (zeros 64), [], -1, false⟩

/-- what may fall: the disk behind it, and whether it stands -/
def Disk.stepped (d : Disk) : Disk :=
  if d.down then d else if d.fuse = 0 then { d with down := true, fuse := -1 } else { d with fuse := max (d.fuse - 1) (-1) }

/-- the error of a step -/
def Disk.stepErr (d : Disk) : Int := if d.stepped.down then 9 else 0

def Disk.read (d : Disk) (at_ : Int) : ByteArray × Int :=
  if d.down then (⟨#[]⟩, 9) else if at_ < 0 ∨ (d.now.length : Int) ≤ at_ then (⟨#[]⟩, 1) else (d.now.getD at_.toNat ⟨#[]⟩, 0)

def Disk.write (d : Disk) (at_ : Int) (data : ByteArray) : Disk × Int :=
  if at_ < 0 ∨ (d.now.length : Int) ≤ at_ ∨ 64 < data.size then (d, 1)
  else if d.stepped.down then (d.stepped, 9)
  else ({ d.stepped with now := d.now.set at_.toNat (fullS data), wait := d.wait ++ [(at_.toNat, fullS data)] }, 0)

def Disk.flush (d : Disk) : Disk × Int :=
  if d.stepped.down then (d.stepped, 9) else ({ d.stepped with kept := d.now, wait := [] }, 0)

def Disk.arm (d : Disk) (n : Int) : Disk := { d with fuse := max n (-1) }

def keepBit (keep : Nat) (i : Nat) : Bool := (keep / 2 ^ (i % 64)) % 2 == 1

/-- what was kept, and of what was written those whose bit is set; counted from i on -/
def keptOf (keep : Nat) : Nat → List (Nat × ByteArray) → List ByteArray → List ByteArray
  | _, [], k => k
  | i, t :: l, k => keptOf keep (i + 1) l (if keepBit keep i then k.set t.1 t.2 else k)

def Disk.restart (d : Disk) (keep : Nat) : Disk :=
  let k := keptOf keep 0 d.wait d.kept
  { kept := k, now := k, wait := [], fuse := -1, down := false }

/-- how a disk is made -/
structure Disk.WF (d : Disk) (n : Nat) : Prop where
  kept : d.kept.length = n
  now : d.now.length = n
  keptS : ∀ s ∈ d.kept, s.size = 64
  nowS : ∀ s ∈ d.now, s.size = 64
  wait : ∀ t ∈ d.wait, t.1 < n ∧ t.2.size = 64
  fuse : -1 ≤ d.fuse
  fuse2 : d.fuse ≤ 9223372036854775807

theorem zeros_size (n : Nat) : (zeros n).size = n := by simp [zeros, ByteArray.size]

theorem fullS_size {s : ByteArray} (h : s.size ≤ 64) : (fullS s).size = 64 := by
  simp [fullS, zeros_size]; omega

theorem Disk.WF.new (n : Nat) : (Disk.new n).WF n :=
  ⟨by simp [Disk.new], by simp [Disk.new], by intro s hs; simp [Disk.new] at hs; rw [hs.2, zeros_size], by intro s hs; simp [Disk.new] at hs; rw [hs.2, zeros_size], by simp [Disk.new], by simp [Disk.new], by simp [Disk.new]⟩

theorem Disk.WF.stepped {d : Disk} {n : Nat} (h : d.WF n) : d.stepped.WF n := by
  have := h.fuse
  have := h.fuse2
  unfold Disk.stepped
  split
  · exact h
  · split
    · exact ⟨h.kept, h.now, h.keptS, h.nowS, h.wait, by simp, by simp⟩
    · exact ⟨h.kept, h.now, h.keptS, h.nowS, h.wait, by simp; omega, by simp; omega⟩

theorem stepped_now (d : Disk) : d.stepped.now = d.now := by unfold Disk.stepped; split; rfl; split <;> rfl
theorem stepped_kept (d : Disk) : d.stepped.kept = d.kept := by unfold Disk.stepped; split; rfl; split <;> rfl
theorem stepped_wait (d : Disk) : d.stepped.wait = d.wait := by unfold Disk.stepped; split; rfl; split <;> rfl

theorem Disk.WF.write {d : Disk} {n : Nat} (h : d.WF n) (a : Int) (s : ByteArray) : (d.write a s).1.WF n := by
  unfold Disk.write
  split
  · exact h
  · rename_i hc
    split
    · exact h.stepped
    · have hn := h.now
      have hs := h.stepped
      refine ⟨hs.kept, by simp [h.now], hs.keptS, ?_, ?_, hs.fuse, hs.fuse2⟩
      · intro x hx
        rcases List.mem_or_eq_of_mem_set hx with hx | rfl
        · exact h.nowS x hx
        · exact fullS_size (by omega)
      · intro t ht
        simp at ht
        rcases ht with ht | rfl
        · exact h.wait t ht
        · exact ⟨by simp; omega, fullS_size (by omega)⟩

theorem Disk.WF.flush {d : Disk} {n : Nat} (h : d.WF n) : d.flush.1.WF n := by
  unfold Disk.flush
  split
  · exact h.stepped
  · exact ⟨h.now, h.stepped.now, h.nowS, h.stepped.nowS, by simp, h.stepped.fuse, h.stepped.fuse2⟩

theorem Disk.WF.arm {d : Disk} {n : Nat} (h : d.WF n) (k : Int) (hk : k ≤ 9223372036854775807) : (d.arm k).WF n :=
  ⟨h.kept, h.now, h.keptS, h.nowS, h.wait, by simp [Disk.arm]; omega, by simp [Disk.arm]; omega⟩

theorem keptOf_ok (keep n : Nat) : ∀ (l : List (Nat × ByteArray)) (i : Nat) (k : List ByteArray), k.length = n → (∀ s ∈ k, s.size = 64) → (∀ t ∈ l, t.1 < n ∧ t.2.size = 64) →
    (keptOf keep i l k).length = n ∧ ∀ s ∈ keptOf keep i l k, s.size = 64
  | [], _, k, h1, h2, _ => ⟨h1, h2⟩
  | t :: l, i, k, h1, h2, h3 => by
    unfold keptOf
    refine keptOf_ok keep n l (i + 1) _ ?_ ?_ (fun t' ht => h3 t' (by simp [ht]))
    · split <;> simp [h1]
    · split
      · intro s hs
        rcases List.mem_or_eq_of_mem_set hs with hs | rfl
        · exact h2 s hs
        · exact (h3 t (by simp)).2
      · exact h2

theorem Disk.WF.restart {d : Disk} {n : Nat} (h : d.WF n) (keep : Nat) : (d.restart keep).WF n := by
  obtain ⟨h1, h2⟩ := keptOf_ok keep n d.wait 0 d.kept h.kept h.keptS h.wait
  exact ⟨h1, h1, h2, h2, by simp [Disk.restart], by simp [Disk.restart], by simp [Disk.restart]⟩

theorem keptOf_snoc (keep : Nat) (t : Nat × ByteArray) : ∀ (l : List (Nat × ByteArray)) (i : Nat) (k : List ByteArray),
    keptOf keep i (l ++ [t]) k = if keepBit keep (i + l.length) then (keptOf keep i l k).set t.1 t.2 else keptOf keep i l k
  | [], i, k => by simp [keptOf]
  | u :: l, i, k => by
    simp only [List.cons_append, keptOf, List.length_cons]
    rw [keptOf_snoc keep t l (i + 1)]
    rw [show i + 1 + l.length = i + (l.length + 1) by omega]

/-- a step more of a restart, place by place -/
theorem keptOf_take (keep : Nat) {l : List (Nat × ByteArray)} {k : Nat} {t : Nat × ByteArray} (h : l[k]? = some t) (m : List ByteArray) :
    keptOf keep 0 (l.take (k + 1)) m = if keepBit keep k then (keptOf keep 0 (l.take k) m).set t.1 t.2 else keptOf keep 0 (l.take k) m := by
  have hk : k < l.length := by
    by_cases hk : k < l.length
    · exact hk
    · rw [List.getElem?_eq_none (by omega)] at h; cases h
  rw [List.take_add_one, h]
  simp only [Option.toList_some]
  rw [keptOf_snoc, List.length_take, Nat.zero_add, Nat.min_eq_left (by omega)]
end Ch
