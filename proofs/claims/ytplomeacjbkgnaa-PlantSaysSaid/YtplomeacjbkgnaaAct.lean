/-
  ACTS in memory, and how an argument of them reads.
-/
import Derived.Test.YtplomeacjbkgnaaRead
import Derived.Test.YtplomeacjbkgnaaPlantLaw
import Derived.Test.YtplomeacjbkgnaaPlantStep
namespace Go.Proofs.Ytplomeacjbkgnaa
open Go.ChangeShapes Go.WideShapes Go.ChangeAt Go.RowKit

/-- an act as it lies in memory: its book by its headers -/
structure RAct where
  kind : ByteArray
  a : Int
  b : Int
  car : Ch.Car
  s : ByteArray
  k : Int
  last : Int
  a1 : Option Addr
  n1 : Nat
  c1 : Nat
  a2 : Option Addr
  n2 : Nat
  c2 : Nat

def ractCells (x : RAct) : List Value := [.string x.kind, vi x.a, vi x.b, vi x.car.id, vi x.car.size.long, vi x.car.size.high, vi x.car.size.heavy, .string x.s, .int .u64 x.k, vi x.last, .slice x.a1 x.n1 x.c1, .slice x.a2 x.n2 x.c2]

/-- the act, without its book -/
def RAct.act (x : RAct) : Ch.Act := ⟨x.kind, x.a, x.b, x.car, x.s, x.k, ⟨x.last, [], []⟩⟩

structure RAct.Good (x : RAct) : Prop where
  kind : x.kind.size ≤ maxLen
  s : x.s.size ≤ maxLen
  a : I64 x.a
  b : I64 x.b
  car : I64C x.car
  last : I64 x.last
  k0 : 0 ≤ x.k
  k1 : x.k < 18446744073709551616
  l1 : x.n1 ≤ x.c1 ∧ x.c1 ≤ maxLen
  l2 : x.n2 ≤ x.c2 ∧ x.c2 ≤ maxLen

section
variable {H : Type} {enc : TypeId × Value → H} {w : World}

theorem rd_u64 {P : Program} {t : TypeId} {cs : List Value} (ht : P.underlying t = some (.int .u64)) (h : Rd enc P w t cs) : ∃ n, cs = [.int .u64 n] ∧ 0 ≤ n ∧ n < 18446744073709551616 := by
  obtain ⟨fuel, x, hx⟩ := h
  obtain ⟨n, rfl, _, hw⟩ := DataW.trod_int ht hx
  refine ⟨n, rfl, ?_⟩
  simp only [Lit.wf, Bool.and_eq_true, decide_eq_true_eq] at hw
  simp [IntKind.min, IntKind.max, IntKind.signed, IntKind.bits] at hw
  omega

theorem rd_act {cs : List Value} (h : Rd enc Try.prog w 78 cs) : ∃ x : RAct, cs = ractCells x ∧ x.Good := by
  obtain ⟨hl, hf⟩ := rd_struct [(9, 0, 1), (3, 1, 1), (3, 2, 1), (44, 3, 4), (9, 7, 1), (72, 8, 1), (76, 9, 3)] 12 (by kernel_rfl) (by kernel_rfl) (by kernel_rfl) h
  obtain ⟨kd, h0, g0⟩ := rd_string (by kernel_rfl) (hf (9, 0, 1) (by simp))
  obtain ⟨a, h1, g1⟩ := rd_int Try.underlying3 (hf (3, 1, 1) (by simp))
  obtain ⟨b, h2, g2⟩ := rd_int Try.underlying3 (hf (3, 2, 1) (by simp))
  obtain ⟨c, h3, g3⟩ := rd_car (hf (44, 3, 4) (by simp))
  obtain ⟨s, h4, g4⟩ := rd_string (by kernel_rfl) (hf (9, 7, 1) (by simp))
  obtain ⟨k, h5, g5, g5'⟩ := rd_u64 (by kernel_rfl) (hf (72, 8, 1) (by simp))
  obtain ⟨hl', hf'⟩ := rd_struct [(3, 0, 1), (73, 1, 1), (74, 2, 1)] 3 (by kernel_rfl) (by kernel_rfl) (by kernel_rfl) (hf (76, 9, 3) (by simp))
  obtain ⟨l, h6, g6⟩ := rd_int Try.underlying3 (hf' (3, 0, 1) (by simp))
  obtain ⟨a1, n1, c1, h7, g7, g7', _⟩ := rd_slice Try.underlying73 rfl (hf' (73, 1, 1) (by simp))
  obtain ⟨a2, n2, c2, h8, g8, g8', _⟩ := rd_slice Try.underlying74 rfl (hf' (74, 2, 1) (by simp))
  refine ⟨⟨kd, a, b, c, s, k, l, a1, n1, c1, a2, n2, c2⟩, ?_, ⟨g0, g4, g1, g2, g3, g6, g5, g5', ⟨g7, g7'⟩, ⟨g8, g8'⟩⟩⟩
  match cs, hl with
  | [x0, x1, x2, x3, x4, x5, x6, x7, x8, x9, x10, x11], _ => simp [carCells] at h0 h1 h2 h3 h4 h5 h6 h7 h8; simp [ractCells, h0, h1, h2, h3, h4, h5, h6, h7, h8]
end

theorem at12 {w : World} {b p : Nat} {x0 x1 x2 x3 x4 x5 x6 x7 x8 x9 x10 x11 : Value} (h : ∀ j y, ([x0, x1, x2, x3, x4, x5, x6, x7, x8, x9, x10, x11] : List Value)[j]? = some y → w.cell? ⟨b, p + j, none⟩ = some y) :
    w.cell? ⟨b, p, none⟩ = some x0 ∧ w.cell? ⟨b, p + 1, none⟩ = some x1 ∧ w.cell? ⟨b, p + 2, none⟩ = some x2 ∧ w.cell? ⟨b, p + 3, none⟩ = some x3 ∧
    w.cell? ⟨b, p + 4, none⟩ = some x4 ∧ w.cell? ⟨b, p + 5, none⟩ = some x5 ∧ w.cell? ⟨b, p + 6, none⟩ = some x6 ∧ w.cell? ⟨b, p + 7, none⟩ = some x7 ∧
    w.cell? ⟨b, p + 8, none⟩ = some x8 ∧ w.cell? ⟨b, p + 9, none⟩ = some x9 ∧ w.cell? ⟨b, p + 10, none⟩ = some x10 ∧ w.cell? ⟨b, p + 11, none⟩ = some x11 :=
  ⟨h 0 _ rfl, h 1 _ rfl, h 2 _ rfl, h 3 _ rfl, h 4 _ rfl, h 5 _ rfl, h 6 _ rfl, h 7 _ rfl, h 8 _ rfl, h 9 _ rfl, h 10 _ rfl, h 11 _ rfl⟩

/-- a list of acts is light, or not: it is told -/
def Told (w : World) (e : Ending) (w' : World) : Prop := ∃ b, e = .returned (.bool b) ∧ Ext w w'

set_option maxRecDepth 100000 in
set_option maxHeartbeats 2000000 in
theorem lightActs_any (m : Int) (a : Option Addr) (n cap : Nat) (l : List RAct) (w : World) (h : Sl w 12 ractCells l a n cap) (hg : ∀ x ∈ l, x.Good) :
    Calls Try.prog 49 #[.slice a n cap, vi m] w (Told w) := by
  have hb := h.bound
  have HS := Lib.hid h
  have HG := Lib.hid hg
  clear h hg
  go_enter Try.func49, Try.ntmps49
  go_wp2
  · go_ret
    exact ⟨_, rfl, (by simp (maxDischargeDepth := 60))⟩
  · go_loop [5] (fun i => ∃ k : Nat, k ≤ n ∧ i = .int .i64 k) (fun i => n - (intOf i).toNat)
    case atStart => exact ⟨0, by omega, rfl⟩
    case round =>
      obtain ⟨k, hk, rfl⟩ := hrel
      by_cases hlt : k < n
      · obtain ⟨b, q, x, rfl, hx, dx⟩ := HS.out.get hlt
        have dx := at12 dx
        have gx := HG.out x (List.mem_of_getElem? hx)
        have l1 := gx.s
        have l2 := gx.l1
        have l3 := gx.l2
        unfold maxLen at l1 l2 l3
        clear gx hx
        go_wp2
        all_goals
          first
          | (go_ret; exact ⟨_, rfl, (by simp (maxDischargeDepth := 60))⟩)
          | (go_round
             case rel => exact ⟨k + 1, by omega, by go_num⟩
             case measure => simp [intOf]; omega)
      · go_wp2
        go_ret
        exact ⟨_, rfl, (by simp (maxDischargeDepth := 60))⟩

/-! ### a machine, and what comes from outside -/

/-- what becomes of a machine, whatever is answered -/
def DidA (pb mb : Nat) (w : World) (p' : Ch.Plant) (e : Ending) (w' : World) : Prop := (∃ v, e = .returned v) ∧ PlantAt w' pb mb p' ∧ Kept (Own pb mb) w w'

end Go.Proofs.Ytplomeacjbkgnaa
