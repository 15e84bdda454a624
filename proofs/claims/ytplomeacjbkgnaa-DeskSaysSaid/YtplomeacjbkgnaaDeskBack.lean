/-
  The desk, its reference and the statement's small functions: answers in one form.
-/
import Derived.Test.YtplomeacjbkgnaaLightBook
import Derived.Test.YtplomeacjbkgnaaRPark
import Derived.Test.YtplomeacjbkgnaaWant
import Derived.Test.YtplomeacjbkgnaaRDone
import Derived.Test.YtplomeacjbkgnaaSameBook
import Derived.Test.YtplomeacjbkgnaaBookLaw
import Derived.Test.YtplomeacjbkgnaaErr
import Derived.Test.YtplomeacjbkgnaaKept
namespace Go.Proofs.Ytplomeacjbkgnaa
open Go.RowKit

/-! ### answers, an error's or not, in one form -/

def parkR (r : Except Int (Ch.Book × Int)) : Ch.Book × Int × Int := match r with | .error f => (⟨0, [], []⟩, 0, f) | .ok x => (x.1, x.2, 0)

def wantR (r : Except Int Ch.Book) : Ch.Book × Int := match r with | .error f => (⟨0, [], []⟩, f) | .ok x => (x, 0)

/-- a book that came back, as lists -/
def Back (A : Option Addr) (w : World) (x : Ch.Book) (r : Value → Value) (e : Ending) (w' : World) : Prop :=
  ∃ y1 d1 y2 d2, e = .returned (r (bookA x.last y1 x.stays.length d1 y2 x.jobs.length d2)) ∧ Sl w' 8 stayCells x.stays y1 x.stays.length d1 ∧ Sl w' 2 jobCells x.jobs y2 x.jobs.length d2 ∧ Ext w w' ∧
    (∀ b o, y1 = some ⟨b, o, none⟩ → w.heap.size ≤ b ∨ y1 = A) ∧ (∀ b o, y2 = some ⟨b, o, none⟩ → w.heap.size ≤ b)

theorem own_new {w : World} {base e size cap n m : Nat} {y : Option Addr} {xs : List Value} (h : w.ownsRow base e size (.slice y n cap) m xs) : ∀ b o, y = some ⟨b, o, none⟩ → base ≤ b := by
  intro b o e
  subst e
  rcases h.2 with ⟨h2, _⟩ | ⟨g, cap', cur, h2, hb, _⟩
  · cases h2
  · cases h2; exact hb

/-- a list stays behind stores into another block -/
theorem Sl.kept {α : Type} {w w' : World} {c : Nat} {enc : α → List Value} {l : List α} {a : Option Addr} {n cap T : Nat} (h : Sl w c enc l a n cap) (k : Kept (Is T) w w') (hn : 0 < n → ∀ b o, a = some ⟨b, o, none⟩ → b ≠ T) : Sl w' c enc l a n cap :=
  ⟨h.1, h.2.1, h.2.2.1, fun hp => let ⟨b, o, e, f⟩ := h.2.2.2 hp; ⟨b, o, e, fun i x hx j y hy => k.cell (f i x hx j y hy) (hn hp b o e)⟩⟩

theorem Sl.block_lt {α : Type} {w : World} {c : Nat} {enc : α → List Value} {l : List α} {n cap b o : Nat} (h : Sl w c enc l (some ⟨b, o, none⟩) n cap) (hn : 0 < n) (he : ∀ x, enc x ≠ []) : b < w.heap.size := by
  obtain ⟨b', o', x, e, _, f⟩ := h.get hn
  cases e
  cases hh : enc x with
  | nil => exact absurd hh (he x)
  | cons y r => exact cell_lt (f 0 y (by rw [hh]; rfl))

theorem NewBook.back {A : Option Addr} {w : World} {x : Ch.Book} {r : Value → Value} {e : Ending} {w' : World} (h : NewBook w x r e w') : Back A w x r e w' := by
  obtain ⟨v1, v2, rfl, hob, hx⟩ := h
  obtain ⟨y1, d1, rfl, s1⟩ := Sl.of_owns (c := 8) (enc := stayCells) hob.stays (by decide) (fun _ => rfl)
  obtain ⟨y2, d2, rfl, s2⟩ := Sl.of_owns (c := 2) (enc := jobCells) hob.jobs (by decide) (fun _ => rfl)
  exact ⟨y1, d1, y2, d2, rfl, s1, s2, hx, fun b o e => Or.inl (own_new hob.stays b o e), own_new hob.jobs⟩

theorem park_back (last id lo hi he : Int) (a1 : Option Addr) (m1 c1 : Nat) (a2 : Option Addr) (m2 c2 : Nat) (aL : Option Addr) (nL cL : Nat) (l : List Ch.Stay) (js : List Ch.Job) (ls : List Ch.Size) (w : World)
    (h : Sl w 8 stayCells l a1 m1 c1) (h2 : Sl w 2 jobCells js a2 m2 c2) (hL : Sl w 3 sizeCells ls aL nL cL) (n1' : 1 ≤ nL) (n4 : nL ≤ 4) (hm1 : m1 ≤ 100) (hm2 : m2 ≤ 100) (l0 : 0 ≤ last) (l9 : last ≤ 999999)
    (x : Ch.Book) (kk f : Int) (hp : Hid (parkR (Ch.park ⟨last, l, js⟩ ls ⟨id, ⟨lo, hi, he⟩⟩) = (x, kk, f))) :
    Calls Try.prog 68 #[bookA last a1 m1 c1 a2 m2 c2, .slice aL nL cL, .agg #[vi id, vi lo, vi hi, vi he]] w (Back none w x (fun b => .tuple #[b, vi kk, errV f])) := by
  cases hpk : Ch.park ⟨last, l, js⟩ ls ⟨id, ⟨lo, hi, he⟩⟩ with
  | error g =>
    have e := hp.out
    rw [hpk] at e
    simp only [parkR, Prod.mk.injEq] at e
    obtain ⟨rfl, rfl, rfl⟩ := e
    refine (park_err g last id lo hi he a1 m1 c1 a2 m2 c2 aL nL cL l js ls w h h2 hL n1' n4 hpk).mono ?_
    rintro e w' ⟨rfl, hx⟩
    exact ⟨none, 0, none, 0, rfl, Sl.nil _ _ _, Sl.nil _ _ _, hx, (fun _ _ e => by cases e), (fun _ _ e => by cases e)⟩
  | ok r =>
    obtain ⟨x', k'⟩ := r
    have e := hp.out
    rw [hpk] at e
    simp only [parkR, Prod.mk.injEq] at e
    obtain ⟨rfl, rfl, rfl⟩ := e
    exact (park_any x' k' last id lo hi he a1 m1 c1 a2 m2 c2 aL nL cL l js ls w h h2 hL n1' n4 hm1 hm2 l0 l9 hpk).mono (fun _ _ hh => NewBook.back hh)

theorem rpark_back (last id lo hi he : Int) (a1 : Option Addr) (m1 c1 : Nat) (a2 : Option Addr) (m2 c2 : Nat) (aL : Option Addr) (nL cL : Nat) (l : List Ch.Stay) (js : List Ch.Job) (ls : List Ch.Size) (w : World)
    (h : Sl w 8 stayCells l a1 m1 c1) (h2 : Sl w 2 jobCells js a2 m2 c2) (hL : Sl w 3 sizeCells ls aL nL cL) (n1' : 1 ≤ nL) (n4 : nL ≤ 4) (hdp : ∀ s ∈ l, s.home.depth = 0 ∨ s.home.depth = 1) (htk : ∀ s ∈ l, 1 ≤ s.ticket)
    (hm1 : m1 ≤ 100) (hm2 : m2 ≤ 100) (l0 : 0 ≤ last) (l9 : last ≤ 999999)
    (x : Ch.Book) (kk f : Int) (hp : Hid (parkR (Ch.park ⟨last, l, js⟩ ls ⟨id, ⟨lo, hi, he⟩⟩) = (x, kk, f))) :
    Calls Try.prog 69 #[bookA last a1 m1 c1 a2 m2 c2, .slice aL nL cL, .agg #[vi id, vi lo, vi hi, vi he]] w (Back none w x (fun b => .tuple #[b, vi kk, vi f])) := by
  refine (rpark_any last id lo hi he a1 m1 c1 a2 m2 c2 aL nL cL l js ls w h h2 hL n1' n4 hdp htk l0 l9 hm1 hm2).mono ?_
  intro e w' hh
  unfold RPark at hh
  have e1 := hp.out
  cases hpk : Ch.park ⟨last, l, js⟩ ls ⟨id, ⟨lo, hi, he⟩⟩ with
  | error g =>
    rw [hpk] at e1 hh
    simp only [parkR, Prod.mk.injEq] at e1
    obtain ⟨rfl, rfl, rfl⟩ := e1
    obtain ⟨rfl, hx⟩ := hh
    exact ⟨none, 0, none, 0, rfl, Sl.nil _ _ _, Sl.nil _ _ _, hx, (fun _ _ e => by cases e), (fun _ _ e => by cases e)⟩
  | ok r =>
    obtain ⟨x', k'⟩ := r
    rw [hpk] at e1 hh
    simp only [parkR, Prod.mk.injEq] at e1
    obtain ⟨rfl, rfl, rfl⟩ := e1
    obtain ⟨v1, v2, rfl, o1, o2, hx⟩ := hh
    obtain ⟨y1, d1, rfl, s1⟩ := Sl.of_owns (c := 8) (enc := stayCells) o1 (by decide) (fun _ => rfl)
    obtain ⟨y2, d2, rfl, s2⟩ := Sl.of_owns (c := 2) (enc := jobCells) o2 (by decide) (fun _ => rfl)
    exact ⟨y1, d1, y2, d2, rfl, s1, s2, hx, fun b o e => Or.inl (own_new o1 b o e), own_new o2⟩

theorem want_back (last t : Int) (a1 : Option Addr) (m1 c1 : Nat) (a2 : Option Addr) (m2 c2 : Nat) (l : List Ch.Stay) (js : List Ch.Job) (w : World)
    (h : Sl w 8 stayCells l a1 m1 c1) (h2 : Sl w 2 jobCells js a2 m2 c2) (hm1 : m1 ≤ 100) (hm2 : m2 ≤ 100) (x : Ch.Book) (f : Int) (hp : Hid (wantR (Ch.want ⟨last, l, js⟩ t) = (x, f))) :
    Calls Try.prog 71 #[bookA last a1 m1 c1 a2 m2 c2, vi t] w (Back none w x (fun b => .tuple #[b, errV f])) := by
  cases hpk : Ch.want ⟨last, l, js⟩ t with
  | error g =>
    have e := hp.out
    rw [hpk] at e
    simp only [wantR, Prod.mk.injEq] at e
    obtain ⟨rfl, rfl⟩ := e
    refine (want_err g last t a1 m1 c1 a2 m2 c2 l js w h h2 hpk).mono ?_
    rintro e w' ⟨rfl, hx⟩
    exact ⟨none, 0, none, 0, rfl, Sl.nil _ _ _, Sl.nil _ _ _, hx, (fun _ _ e => by cases e), (fun _ _ e => by cases e)⟩
  | ok x' =>
    have e := hp.out
    rw [hpk] at e
    simp only [wantR, Prod.mk.injEq] at e
    obtain ⟨rfl, rfl⟩ := e
    exact (want_any x' last t a1 m1 c1 a2 m2 c2 l js w h h2 hm1 hm2 hpk).mono (fun _ _ hh => NewBook.back hh)

theorem rwant_back (last t : Int) (a1 : Option Addr) (m1 c1 : Nat) (a2 : Option Addr) (m2 c2 : Nat) (l : List Ch.Stay) (js : List Ch.Job) (w : World)
    (h : Sl w 8 stayCells l a1 m1 c1) (h2 : Sl w 2 jobCells js a2 m2 c2) (hm2 : m2 ≤ 100) (x : Ch.Book) (f : Int) (hp : Hid (wantR (Ch.want ⟨last, l, js⟩ t) = (x, f))) :
    Calls Try.prog 72 #[bookA last a1 m1 c1 a2 m2 c2, vi t] w (Back a1 w x (fun b => .tuple #[b, vi f])) := by
  refine (rwant_any last t a1 m1 c1 a2 m2 c2 l js w h h2 hm2).mono ?_
  intro e w' hh
  unfold RWant at hh
  have e1 := hp.out
  cases hpk : Ch.want ⟨last, l, js⟩ t with
  | error g =>
    rw [hpk] at e1 hh
    simp only [wantR, Prod.mk.injEq] at e1
    obtain ⟨rfl, rfl⟩ := e1
    obtain ⟨rfl, hx⟩ := hh
    exact ⟨none, 0, none, 0, rfl, Sl.nil _ _ _, Sl.nil _ _ _, hx, (fun _ _ e => by cases e), (fun _ _ e => by cases e)⟩
  | ok x' =>
    have hst : x'.stays = l := by
      have := hpk
      unfold Ch.want at this
      split at this
      · cases this
      · split at this
        · cases this
        · split at this
          · cases this
          · cases this; rfl
    rw [hpk] at e1 hh
    simp only [wantR, Prod.mk.injEq] at e1
    obtain ⟨rfl, rfl⟩ := e1
    obtain ⟨v2, rfl, o2, hx⟩ := hh
    obtain ⟨y2, d2, rfl, s2⟩ := Sl.of_owns (c := 2) (enc := jobCells) o2 (by decide) (fun _ => rfl)
    refine ⟨a1, c1, y2, d2, ?_, ?_, s2, hx, fun _ _ _ => Or.inr rfl, own_new o2⟩
    · rw [hst, h.len]
    · rw [hst, h.len]; exact Sl.below h hx.below

/-- the number of a fault is not below 0 -/
theorem stayFault_nn (L last : Int) (b : List Ch.Stay) (s : Ch.Stay) : 0 ≤ Ch.stayFault L last b s := by
  unfold Ch.stayFault
  have := carFault_nn s.car
  have := placeFault_nn s.home L
  repeat' split
  all_goals omega

theorem staysFault_nn (L last : Int) : ∀ (l b : List Ch.Stay), 0 ≤ Ch.staysFault L last b l
  | [], _ => by simp [Ch.staysFault]
  | s :: l, b => by
    unfold Ch.staysFault
    have := stayFault_nn L last b s
    have := staysFault_nn L last l (b ++ [s])
    split <;> omega

theorem jobsFault_nn (st : List Ch.Stay) : ∀ (l b : List Ch.Job), 0 ≤ Ch.jobsFault st b l
  | [], _ => by simp [Ch.jobsFault]
  | j :: l, b => by
    unfold Ch.jobsFault
    have := jobsFault_nn st l (b ++ [j])
    split <;> omega

theorem bookFault_nn (b : Ch.Book) (L : Int) : 0 ≤ Ch.bookFault b L := by
  unfold Ch.bookFault
  have := staysFault_nn L b.last b.stays []
  have := jobsFault_nn b.stays b.jobs []
  repeat' split
  all_goals omega

theorem park_nn (b : Ch.Book) (ls : List Ch.Size) (c : Ch.Car) : 0 ≤ (parkR (Ch.park b ls c)).2.2 := by
  have hc := carFault_nn c
  unfold Ch.park
  split
  · exact hc
  · split
    · exact (by decide : (0 : Int) ≤ 6)
    · split
      · exact (by decide : (0 : Int) ≤ 8)
      · split
        · exact (by decide : (0 : Int) ≤ 8)
        · exact (by decide : (0 : Int) ≤ 0)

theorem want_nn (b : Ch.Book) (t : Int) : 0 ≤ (wantR (Ch.want b t)).2 := by
  unfold Ch.want
  split
  · exact (by decide : (0 : Int) ≤ 5)
  · split
    · exact (by decide : (0 : Int) ≤ 6)
    · split
      · exact (by decide : (0 : Int) ≤ 8)
      · exact (by decide : (0 : Int) ≤ 0)

theorem rlevels_at (F : Int) (a : Option Addr) (n cap : Nat) (l : List Ch.Size) (w : World) (h : Sl w 3 sizeCells l a n cap) (hv : Hid (Ch.levelsFault l = F)) : Calls Try.prog 36 #[.slice a n cap] w fun e w' => e = .returned (vi F) ∧ Ext w w' := by
  have := rlevels_any a n cap l w h
  rw [hv.out] at this
  exact this

theorem rfault_at (F last L : Int) (a1 : Option Addr) (m1 c1 : Nat) (a2 : Option Addr) (m2 c2 : Nat) (l : List Ch.Stay) (js : List Ch.Job) (w : World)
    (h : Sl w 8 stayCells l a1 m1 c1) (h2 : Sl w 2 jobCells js a2 m2 c2) (i1 : 1 ≤ L) (i4 : L ≤ 4) (hv : Hid (Ch.bookFault ⟨last, l, js⟩ L = F)) :
    Calls Try.prog 65 #[bookA last a1 m1 c1 a2 m2 c2, vi L] w fun e w' => e = .returned (vi F) ∧ Ext w w' := by
  have := rfault_any last L a1 m1 c1 a2 m2 c2 l js w h h2 i1 i4
  rw [hv.out] at this
  exact this

theorem same_nilD (w : World) : Calls Try.prog 30 #[.nilIface, vi 0] w fun e w' => e = .returned (.bool true) ∧ Ext w w' := same_yes 0 w (by decide)

theorem size1_sl (w : World) (s : Ch.Size) : Sl (w.alloc (.cells #[vi s.long, vi s.high, vi s.heavy] 42)) 3 sizeCells [s] (some ⟨w.heap.size, 0, none⟩) 1 1 := by
  refine ⟨rfl, Nat.le_refl _, by decide, fun _ => ⟨w.heap.size, 0, rfl, ?_⟩⟩
  intro i x hx j y hy
  match i, hx with
  | 0, hx =>
    cases hx
    match j, hy with
    | 0, hy => cases hy; simp [go_sem]
    | 1, hy => cases hy; simp [go_sem]
    | 2, hy => cases hy; simp [go_sem]

set_option maxRecDepth 100000 in
set_option maxHeartbeats 4000000 in
theorem desks_any (w : World) : Calls Try.prog 63 #[] w fun e w' => e = .returned (.bool true) ∧ Ext w w' := by
  have HP0 : Hid (parkR (Ch.park ⟨0, [], []⟩ [⟨9, 9, 9⟩] ⟨7, ⟨1, 1, 1⟩⟩) = (⟨1, [⟨1, ⟨7, ⟨1, 1, 1⟩⟩, ⟨1, 0, 1⟩⟩], [⟨1, false⟩]⟩, 1, 0)) := by unfold Hid; rfl
  go_enter Try.func63, Try.ntmps63
  go_wp2_with (first
    | (go_at_call 68; refine (park_back 0 7 1 1 1 none 0 0 none 0 0 _ 1 1 [] [] [⟨9, 9, 9⟩] _ (Sl.nil _ _ _) (Sl.nil _ _ _) (size1_sl _ ⟨9, 9, 9⟩) (by decide) (by decide) (by decide) (by decide) (by decide) (by decide) _ _ _ HP0).mono ?_; rintro e wp ⟨y1, d1, y2, d2, rfl, s1, s2, ⟨oQ, nQ, rfl⟩, -, -⟩; clear s1 s2)
    | (go_at_call 30; (with_reducible refine (same_nilD _).mono ?_); rintro e w1 ⟨rfl, o1, n1, rfl⟩))
  go_ret
  exact ⟨rfl, (by simp (maxDischargeDepth := 60))⟩
end Go.Proofs.Ytplomeacjbkgnaa
