/-
  Walks of the program's functions, and what they need: ReadBook, ReadAct, Card.
-/
import Derived.Test.YtplomeacjbkgnacDoorPart21
import Derived.Test.YtplomeacjbkgnacDoorPart07
import Derived.Test.YtplomeacjbkgnacDoorPart16
import Derived.HandedShaped
import Derived.Stop.LaidErr
import Derived.MakeChecks
import Derived.LaidMore

namespace Go.Proofs.YtplomeacjbkgnacDoor
open Go.RowKit
variable {H : Type} {enc : TypeId × Value → H} {w : World}

theorem rd_book {cs : List Value} (h : Rd enc Tryd.prog w 25 cs) : ∃ last a1 n1 c1 a2 n2 c2 l js, cs = [vi last, .slice a1 n1 c1, .slice a2 n2 c2] ∧ Sl w 8 stayCells l a1 n1 c1 ∧ Sl w 2 jobCells js a2 n2 c2 ∧ I64 last ∧ (∀ s ∈ l, I64Y s) ∧ ∀ j ∈ js, I64J j := by
  obtain ⟨hl, hf⟩ := rd_struct [(3, 0, 1), (22, 1, 1), (23, 2, 1)] 3 (by kernel_rfl) (by kernel_rfl) (by kernel_rfl) h
  obtain ⟨last, h0, g0⟩ := rd_int Tryd.underlying3 (hf (3, 0, 1) (by simp))
  obtain ⟨l, a1, n1, c1, h1, s1, g1⟩ := rd_list (c := 8) stayCells I64Y (by decide) (fun _ => rfl) Tryd.underlying22 (by kernel_rfl) (fun ecs h => rd_stay h) (hf (22, 1, 1) (by simp))
  obtain ⟨js, a2, n2, c2, h2, s2, g2⟩ := rd_list (c := 2) jobCells I64J (by decide) (fun _ => rfl) Tryd.underlying23 (by kernel_rfl) (fun ecs h => rd_job h) (hf (23, 2, 1) (by simp))
  refine ⟨last, a1, n1, c1, a2, n2, c2, l, js, ?_, s1, s2, g0, g1, g2⟩
  match cs, hl with
  | [x0, x1, x2], _ => simp at h0 h1 h2; simp [h0, h1, h2]
end Go.Proofs.YtplomeacjbkgnacDoor

namespace Go.Proofs.YtplomeacjbkgnacDoor
open Go.ChangeShapes Go.WideShapes Go.ChangeAt Go.RowKit
variable {H : Type} {enc : TypeId × Value → H} {w : World}

def RAct.Whole (w : World) (x : RAct) : Prop := x.Good ∧ ∃ ls js, Sl w 8 stayCells ls x.a1 x.n1 x.c1 ∧ Sl w 2 jobCells js x.a2 x.n2 x.c2

theorem rd_actB {cs : List Value} (h : Rd enc Tryd.prog w 49 cs) : ∃ x : RAct, cs = ractCells x ∧ x.Whole w := by
  obtain ⟨hl, hf⟩ := rd_struct [(9, 0, 1), (3, 1, 1), (3, 2, 1), (47, 3, 4), (9, 7, 1), (36, 8, 1), (25, 9, 3)] 12 (by kernel_rfl) (by kernel_rfl) (by kernel_rfl) h
  obtain ⟨kd, h0, g0⟩ := rd_string (by kernel_rfl) (hf (9, 0, 1) (by simp))
  obtain ⟨a, h1, g1⟩ := rd_int Tryd.underlying3 (hf (3, 1, 1) (by simp))
  obtain ⟨b, h2, g2⟩ := rd_int Tryd.underlying3 (hf (3, 2, 1) (by simp))
  obtain ⟨c, h3, g3⟩ := rd_car (hf (47, 3, 4) (by simp))
  obtain ⟨s, h4, g4⟩ := rd_string (by kernel_rfl) (hf (9, 7, 1) (by simp))
  obtain ⟨k, h5, g5, g5'⟩ := rd_u64 (by kernel_rfl) (hf (36, 8, 1) (by simp))
  obtain ⟨last, a1, n1, c1, a2, n2, c2, l, js, h6, s1, s2, g6, _, _⟩ := rd_book (hf (25, 9, 3) (by simp))
  refine ⟨⟨kd, a, b, c, s, k, last, a1, n1, c1, a2, n2, c2⟩, ?_, ⟨g0, g4, g1, g2, g3, g6, g5, g5', s1.bound, s2.bound⟩, l, js, s1, s2⟩
  match cs, hl with
  | [x0, x1, x2, x3, x4, x5, x6, x7, x8, x9, x10, x11], _ => simp [carCells] at h0 h1 h2 h3 h4 h5 h6; simp [ractCells, h0, h1, h2, h3, h4, h5, h6]

theorem wholes_good {l : List RAct} (h : ∀ x ∈ l, RAct.Whole w x) : ∀ x ∈ l, x.Good := fun x hx => (h x hx).1

end Go.Proofs.YtplomeacjbkgnacDoor

namespace Go.Proofs.YtplomeacjbkgnacDoor
open Go.ChangeShapes Go.WideShapes Go.ChangeAt Go.RowKit

/-- a row's frame, with the listed variables and the shape of the world at hand -/
theorem handed_laid_shaped {H : Type} {enc : TypeId × Value → H} {a : Assume} {C : Checked} {os : Os} {f : FuncId} {fn : Func} {s : ChangeSpec} {conds : List PathCond} {apart fresh handsOn again : Bool} {X : World → Array Value → Prop}
    (hX : ∀ (w w' : World) (args : Array Value), w.heap = w'.heap → X w args → X w' args)
    (own : ownKnob C.prog.godebug = none) (started : os.Started) (noInit : C.prog.inits.idxOf? f = none) (hfn : C.prog.funcs[f]? = some fn)
    (witness : ∃ (w : World) (tape : Tape) (i : Input), w.os = os ∧ (w.forCall tape i).Shaped C.prog ∧ i.vars = [] ∧ Input.okWide C.prog (w.forCall tape i) .any w.heap.size f i ∧
      ((s.pre enc C.prog fn conds apart (w.forCall tape i).memory i.args ∧ X (w.forCall tape i).memory i.args) ∧ sizedMet enc C.prog fn (OpenSpec.ofChange s) apart (w.forCall tape i).memory i.args) ∧ a.holds C.prog (lone (Frame.enter C.prog f i.args .normal) [] (w.forCall tape i)))
    (contract : ∀ (W : World) (base : Nat) (args : Array Value) (ds gs : List (DataW H)) (before : List MemPlace),
      (∀ (j : Nat) t v, fn.params[j]? = some t → args[j]? = some v → Value.okWide C.prog W .any base t v) →
      DataW.Whole enc C.prog fn.params.toList s.vars apart W args.toList ds gs before →
      (DataW.weightsEach C.prog (fn.params.toList ++ s.plain.varTypes C.prog) (ds ++ gs)).all (· ≤ reachBytes) = true → X W args → W.ShapedOpen C.prog →
      Calls C.prog f args W fun e W' => ∃ v, e = .returned v ∧ s.post enc C.prog fn apart fresh handsOn again W args v W') :
    ReturnsInHanded a C os f .any (fun w args => (s.pre enc C.prog fn conds apart w args ∧ X w args) ∧ sizedMet enc C.prog fn (OpenSpec.ofChange s) apart w args) (s.post enc C.prog fn apart fresh handsOn again) := by
  refine returnsInHanded_of_calls own started noInit witness fun w tape i _ hshape _ hok hpre _ => ?_
  obtain ⟨_, _, _, g, hg, _, _, _, _, hval⟩ := hok
  obtain rfl : g = fn := Option.some.inj (hg.symm.trans hfn)
  obtain ⟨⟨⟨ds, gs, before, hw, _⟩, hx⟩, hz⟩ := hpre
  refine (contract (w.forCall tape i) w.heap.size i.args ds gs before hval (DataW.Whole.of_heap (by rfl) hw) (hz.weights hw) (hX _ _ _ (by rfl) hx) hshape).mono ?_
  rintro e W' ⟨v, rfl, hp⟩
  exact ChangeSpec.post_blind hp

/-- the name of the library's type of errors, as a pointer -/
def starN : String := String.ofList (Char.ofNat 42 :: String.toList "errors.errorString")

theorem star_rows : ∀ t, t = starN → ((List.range Tryd.prog.types.size).all fun u => Tryd.prog.typeName? 3 u != some t || u == 153) = true := by
  intro t ht; subst ht; kernel_rfl

theorem rowErr (s : String) (hs : s = starN) (u : TypeId) (h : Tryd.prog.typeName? 3 u = some s) : u = 153 :=
  typeName_ptr_named (nm := "errors.errorString") (star_rows _ (by decide)) (by kernel_rfl) (by decide) u (by rw [h, hs]; exact congrArg some (by decide))

theorem tab_of {w : World} {name : String} (hg : Tryd.prog.globalNamed name = some 2) (h : Lib.TabIs Tryd.prog w name .u64 Lib.pow10Tab) : Tab w := by
  unfold Lib.TabIs World.var? at h
  rw [hg] at h
  simp only [Option.bind_some] at h
  split at h
  · rename_i cs t fr hb
    cases h
    exact ⟨t, fr, hb⟩
  · cases h

theorem cell_of_var {w : World} {name : String} {g : Nat} {tp : TypeId} {p : Value} (hg : Tryd.prog.globalNamed name = some g) (h : w.var? Tryd.prog name = some #[.iface tp p]) : w.cell? ⟨g, 0, none⟩ = some (.iface tp p) := by
  have h0 := World.var?_cell hg h 0
  simpa using h0

/-- what the library reads -/
theorem libs_of {w : World} {n0 n1 n2 n3 n4 n5 : String} {d0 d1 d2 d3 d4 d5 : DataW Unit} {s4 s5 : String} {x4 x5 : List UInt8} {r : List (String × DataW Unit)}
    (h : laidMet Tryd.prog ((n0, d0) :: (n1, d1) :: (n2, d2) :: (n3, d3) :: (n4, d4) :: (n5, d5) :: r) w) (hs : w.ShapedOpen Tryd.prog)
    (e2 : d2 = Lib.tabData .u64 Lib.pow10Tab) (e4 : d4 = .iface s4 (.ptr (.agg [.lit (.string x4)]))) (q4 : s4 = starN) (e5 : d5 = .iface s5 (.ptr (.agg [.lit (.string x5)]))) (q5 : s5 = starN)
    (g2 : Tryd.prog.globalNamed n2 = some 2) (g4 : Tryd.prog.globalNamed n4 = some 1) (g5 : Tryd.prog.globalNamed n5 = some 0) : Libs w := by
  subst e2 e4 e5
  have h2 := h.tail.tail
  obtain ⟨_, _, hv4, -, -, -⟩ := laid_sentinel h2.tail.tail g4 (by kernel_rfl) (Tryd.underlying29) (rowErr _ q4) Tryd.underlying153 Tryd.underlying155 rfl rfl Tryd.underlying9 (by kernel_rfl) (by kernel_rfl)
  obtain ⟨_, _, hv5, -, -, -⟩ := laid_sentinel h2.tail.tail.tail g5 (by kernel_rfl) (Tryd.underlying29) (rowErr _ q5) Tryd.underlying153 Tryd.underlying155 rfl rfl Tryd.underlying9 (by kernel_rfl) (by kernel_rfl)
  exact ⟨tab_of g2 (Lib.tabIs_of_head g2 (t := 146) (e := 36) (n := 20) (by kernel_rfl) (by kernel_rfl) (by kernel_rfl) (by kernel_rfl) (by kernel_rfl) h2), Tryd.laysM146.s1_3 w hs, ⟨_, _, cell_of_var g5 hv5⟩, ⟨_, _, cell_of_var g4 hv4⟩⟩
end Go.Proofs.YtplomeacjbkgnacDoor
