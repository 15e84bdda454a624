/-
  From a row's listed variables, and the shape of its world, to what the library reads; and a row's frame that hands over both.
-/
import Derived.Test.YtplomeacjbkgnaaDoorParse
import Derived.HandedShaped
import Derived.Stop.LaidErr
import Derived.MakeChecks
import Derived.LaidMore
namespace Go.Proofs.YtplomeacjbkgnaaDoor
open Go.ChangeShapes Go.WideShapes Go.ChangeAt Go.RowKit

/-- a row's frame, with the listed variables and the shape of the world at hand -/
theorem handed_laid_shaped {H : Type} {enc : TypeId × Value → H} {a : Assume} {C : Checked} {os : Os} {f : FuncId} {fn : Func} {s : ChangeSpec} {conds : List PathCond} {apart fresh handsOn again : Bool} {X : World → Array Value → Prop}
    (hX : ∀ (w w' : World) (args : Array Value), w.heap = w'.heap → X w args → X w' args)
    (own : ownKnob C.prog.godebug = none) (started : os.Started) (noInit : C.prog.inits.idxOf? f = none) (hfn : C.prog.funcs[f]? = some fn)
    (witness : ∃ (w : World) (tape : Tape) (i : Input), w.os = os ∧ (w.forCall tape i).Shaped C.prog ∧ i.vars = [] ∧ Input.okWide C.prog (w.forCall tape i) .any w.heap.size f i ∧
      ((s.pre enc C.prog fn conds apart (w.forCall tape i).memory i.args ∧ X (w.forCall tape i).memory i.args) ∧ sizedMet enc C.prog fn (OpenSpec.ofChange s) apart (w.forCall tape i).memory i.args) ∧ a.holds C.prog (lone (Frame.enter C.prog f i.args .normal) [] (w.forCall tape i)))
    (contract : ∀ (W : World) (base : Nat) (args : Array Value) (ds gs : List (DataW H)) (before : List MemPlace),
      (∀ (j : Nat) t v, fn.params[j]? = some t → args[j]? = some v → Value.okWide C.prog W .any base t v) →
      DataW.Whole enc C.prog fn.params.toList s.vars apart W args.toList ds gs before →
      (DataW.weightsEach C.prog (fn.params.toList ++ s.plain.varTypes C.prog) (ds ++ gs)).all (· ≤ reachBytes) = true → X W args → W.ShapedOpen C.prog →
      Calls C.prog f args W fun e W' => ∃ v, e = .returned v ∧ s.post enc C.prog fn apart fresh handsOn again W args v W') :
    ReturnsInHanded a C os f .any (fun w args => (s.pre enc C.prog fn conds apart w args ∧ X w args) ∧ sizedMet enc C.prog fn (OpenSpec.ofChange s) apart w args) (s.post enc C.prog fn apart fresh handsOn again) := by
  refine returnsInHanded_of_calls own started noInit witness fun w tape i _ hshape _ hok hpre _ => ?_
  obtain ⟨_, _, _, g, hg, _, _, _, _, hval⟩ := hok
  obtain rfl : g = fn := Option.some.inj (hg.symm.trans hfn)
  obtain ⟨⟨⟨ds, gs, before, hw, _⟩, hx⟩, hz⟩ := hpre
  refine (contract (w.forCall tape i) w.heap.size i.args ds gs before hval (DataW.Whole.of_heap (by rfl) hw) (hz.weights hw) (hX _ _ _ (by rfl) hx) hshape).mono ?_
  rintro e W' ⟨v, rfl, hp⟩
  exact ChangeSpec.post_blind hp

/-- the name of the library's type of errors, as a pointer -/
def starN : String := String.ofList (Char.ofNat 42 :: String.toList "errors.errorString")

theorem star_rows : ∀ t, t = starN → ((List.range Tryd.prog.types.size).all fun u => Tryd.prog.typeName? 3 u != some t || u == 120) = true := by
  intro t ht; subst ht; kernel_rfl

theorem rowErr (s : String) (hs : s = starN) (u : TypeId) (h : Tryd.prog.typeName? 3 u = some s) : u = 120 :=
  typeName_ptr_named (nm := "errors.errorString") (star_rows _ (by decide)) (by kernel_rfl) (by decide) u (by rw [h, hs]; exact congrArg some (by decide))

theorem tab_of {w : World} {name : String} (hg : Tryd.prog.globalNamed name = some 2) (h : Lib.TabIs Tryd.prog w name .u64 Lib.pow10Tab) : Tab w := by
  unfold Lib.TabIs World.var? at h
  rw [hg] at h
  simp only [Option.bind_some] at h
  split at h
  · rename_i cs t fr hb
    cases h
    exact ⟨t, fr, hb⟩
  · cases h

theorem cell_of_var {w : World} {name : String} {g : Nat} {tp : TypeId} {p : Value} (hg : Tryd.prog.globalNamed name = some g) (h : w.var? Tryd.prog name = some #[.iface tp p]) : w.cell? ⟨g, 0, none⟩ = some (.iface tp p) := by
  have h0 := World.var?_cell hg h 0
  simpa using h0

/-- what the library reads -/
theorem libs_of {w : World} {n0 n1 n2 n3 n4 n5 : String} {d0 d1 d2 d3 d4 d5 : DataW Unit} {s4 s5 : String} {x4 x5 : List UInt8} {r : List (String × DataW Unit)}
    (h : laidMet Tryd.prog ((n0, d0) :: (n1, d1) :: (n2, d2) :: (n3, d3) :: (n4, d4) :: (n5, d5) :: r) w) (hs : w.ShapedOpen Tryd.prog)
    (e2 : d2 = Lib.tabData .u64 Lib.pow10Tab) (e4 : d4 = .iface s4 (.ptr (.agg [.lit (.string x4)]))) (q4 : s4 = starN) (e5 : d5 = .iface s5 (.ptr (.agg [.lit (.string x5)]))) (q5 : s5 = starN)
    (g2 : Tryd.prog.globalNamed n2 = some 2) (g4 : Tryd.prog.globalNamed n4 = some 1) (g5 : Tryd.prog.globalNamed n5 = some 0) : Libs w := by
  subst e2 e4 e5
  have h2 := h.tail.tail
  obtain ⟨_, _, hv4, -, -, -⟩ := laid_sentinel h2.tail.tail g4 (by kernel_rfl) (Tryd.underlying27) (rowErr _ q4) Tryd.underlying120 Tryd.underlying122 rfl rfl Tryd.underlying9 (by kernel_rfl) (by kernel_rfl)
  obtain ⟨_, _, hv5, -, -, -⟩ := laid_sentinel h2.tail.tail.tail g5 (by kernel_rfl) (Tryd.underlying27) (rowErr _ q5) Tryd.underlying120 Tryd.underlying122 rfl rfl Tryd.underlying9 (by kernel_rfl) (by kernel_rfl)
  exact ⟨tab_of g2 (Lib.tabIs_of_head g2 (t := 112) (e := 94) (n := 20) (by kernel_rfl) (by kernel_rfl) (by kernel_rfl) (by kernel_rfl) (by kernel_rfl) h2), Tryd.laysM146.s1_3 w hs, ⟨_, _, cell_of_var g5 hv5⟩, ⟨_, _, cell_of_var g4 hv4⟩⟩
end Go.Proofs.YtplomeacjbkgnaaDoor
