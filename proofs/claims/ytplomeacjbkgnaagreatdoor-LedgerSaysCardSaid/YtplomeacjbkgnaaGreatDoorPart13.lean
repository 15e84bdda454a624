/-
  Walks of the program's functions, and what they need: Places.
-/
import Derived.Test.YtplomeacjbkgnaaGreatDoorPart07
import Derived.Deep.AppendLies

namespace Go.Proofs.YtplomeacjbkgnaaGreatDoor
open Go.RowKit

theorem infoPlace : (Tryz.prog.info? 77).map (fun i => (i.zero, i.size, i.bytes)) = some (some (.agg #[.int .i64 0, .int .i64 0, .int .i64 0]), 3, 24) := by kernel_rfl

/-- a new list of places, in a world -/
def NewPlaces (w : World) (l : List Ch.Place) (e : Ending) (w' : World) : Prop := ∃ v, e = .returned v ∧ w'.ownsRow w.heap.size 77 3 v l.length (l.flatMap placeCells) ∧ Ext w w'

theorem NewPlaces.sl {w : World} {l : List Ch.Place} {e : Ending} {w' : World} (h : NewPlaces w l e w') : ∃ a n c, e = .returned (.slice a n c) ∧ Sl w' 3 placeCells l a n c ∧ Ext w w' := by
  obtain ⟨v, rfl, ho, hx⟩ := h
  obtain ⟨a, c, rfl, hs⟩ := Sl.of_owns ho (by decide) (fun x => rfl)
  exact ⟨a, _, c, rfl, hs, hx⟩

theorem placesFrom_step (levels : Int) (k : Nat) (n : Int) : Ch.placesFrom levels (k + 1) n = Ch.placesOf levels n ++ Ch.placesFrom levels k (n + 1) := rfl

/-- what has been gathered when n comes up -/
def PlacesRel (w : World) (levels n : Int) (v : Value) (wr : World) : Prop := ∃ L, 1 ≤ n ∧ n ≤ levels + 1 ∧ L.length ≤ 4 * (n - 1).toNat ∧ L ++ Ch.placesFrom levels (levels + 1 - n).toNat n = Ch.places levels ∧
  wr.ownsRow w.heap.size 77 3 v L.length (L.flatMap placeCells) ∧ Ext w wr

theorem PlacesRel.start (w : World) (levels : Int) (h1 : 1 ≤ levels) (o : Array Obj) (m : Nat) : PlacesRel w levels 1 (.slice none 0 0) (w.plus o m) :=
  ⟨[], by omega, by omega, by simp, by simp [Ch.places], World.ownsRow_nil _ _ _ _, by simp⟩

theorem PlacesRel.start' (w : World) (levels : Int) (h1 : 1 ≤ levels) : PlacesRel w levels 1 (.slice none 0 0) w :=
  ⟨[], by omega, by omega, by simp, by simp [Ch.places], World.ownsRow_nil _ _ _ _, by simp⟩

theorem PlacesRel.step {w : World} {levels n : Int} {L : List Ch.Place} (v' : Value) (wr' : World) (hn : 1 ≤ n) (hl : n ≤ levels) (hL : L.length ≤ 4 * (n - 1).toNat) (he : L ++ Ch.placesFrom levels (levels + 1 - n).toNat n = Ch.places levels) (new : List Ch.Place)
    (hnew : new = Ch.placesOf levels n) (k : Nat) (hk : k = (L ++ new).length) (xs : List Value) (hxs : xs = (L ++ new).flatMap placeCells) (ho : wr'.ownsRow w.heap.size 77 3 v' k xs) (hx : Ext w wr') : PlacesRel w levels (n + 1) v' wr' := by
  subst hk hxs
  have h4 : new.length ≤ 4 := by rw [hnew]; unfold Ch.placesOf; split <;> simp
  refine ⟨L ++ new, by omega, by omega, ?_, ?_, ho, hx⟩
  · rw [List.length_append]; omega
  · rw [← he, hnew, List.append_assoc, show (levels + 1 - n).toNat = (levels + 1 - (n + 1)).toNat + 1 by omega, placesFrom_step]

set_option maxRecDepth 100000 in
set_option maxHeartbeats 2000000 in
theorem places_any (levels : Int) (w : World) (h1 : 1 ≤ levels) (h2 : levels ≤ 4) : Calls Tryz.prog 55 #[vi levels] w (NewPlaces w (Ch.places levels)) := by
  obtain ⟨i0, hi, hz0, hz1, hz2⟩ := info_parts infoPlace
  go_enter Tryz.func55, Tryz.ntmps55
  go_wp2
  go_loopw [3, 4] (fun v n wr => ∃ k : Int, n = .int .i64 k ∧ PlacesRel w levels k v wr) (fun _ n _ => (levels + 1 - intOf n).toNat)
  case atStart => exact ⟨1, rfl, PlacesRel.start' w levels h1⟩
  case round =>
    obtain ⟨k, rfl, L, hk1, hk2, hL, he, hown, o, m, rfl⟩ := hrel
    have HE := Lib.hid he
    clear he
    by_cases hkl : k ≤ levels
    · by_cases heq : k = levels
      · have HQ := Lib.hid heq
        have B1 : (k == levels) = true := by simp [heq]
        clear heq
        go_wp2
        (refine wp_loop_rounds 3 ?_; (repeat any_goals (rw [rounds_succ]; go_wp2_with (at_builtin; refine wpList_append_lies _ rfl _ _ _ rfl w.heap.size 77 i0 _ 3 24 Tryz.underlying74 hi hz0 hz1 hz2 rfl (by decide) _ _ _ rfl (owns_alloc (by assumption) _) _ 2 2 [vi k, vi 0, vi 1, vi k, vi 0, vi 0] rfl rfl (World.news_of_block (alloc_at _ _ _ (by simp))) (by simp [Value.oneCell']) (by decide) (by unfold maxLen; (try simp only [List.length_append, List.length_cons, List.length_nil]); omega) (by (try simp only [List.length_append, List.length_cons, List.length_nil]); omega) (by first | omega | (simp; done) | (simp; omega)) _ rfl ?_; intro gg cap w3 hown3 hgrow hat hlt; obtain ⟨o3, n3, rfl⟩ := ext_grown (w := w) (by simp (maxDischargeDepth := 60)) hgrow (owns_block (by assumption))))))
        go_roundw
        case rel => 
          refine ⟨k + 1, by go_num, PlacesRel.step _ _ hk1 hkl hL HE.out [⟨k, 0, 1⟩, ⟨k, 0, 0⟩] (by have := HQ.out; unfold Ch.placesOf; rw [if_neg (by omega)]) _ ?_ _ ?_ (by assumption) (by simp (maxDischargeDepth := 60))⟩
          · simp
          · simp [placeCells]
        case measure => simp [intOf]; omega
      · have HQ := Lib.hid heq
        have B1 : (k == levels) = false := by simp [heq]
        clear heq
        go_wp2
        (refine wp_loop_rounds 3 ?_; (repeat any_goals (rw [rounds_succ]; go_wp2_with (first | (at_builtin; refine wpList_append_lies _ rfl _ _ _ rfl w.heap.size 77 i0 _ 3 24 Tryz.underlying74 hi hz0 hz1 hz2 rfl (by decide) _ _ _ rfl (owns_alloc (by assumption) _) _ 2 2 [vi k, vi 0, vi 1, vi k, vi 0, vi 0] rfl rfl (World.news_of_block (alloc_at _ _ _ (by simp))) (by simp [Value.oneCell']) (by decide) (by unfold maxLen; (try simp only [List.length_append, List.length_cons, List.length_nil]); omega) (by (try simp only [List.length_append, List.length_cons, List.length_nil]); omega) (by first | omega | (simp; done) | (simp; omega)) _ rfl ?_; intro gg cap w3 hown3 hgrow hat hlt; obtain ⟨o3, n3, rfl⟩ := ext_grown (w := w) (by simp (maxDischargeDepth := 60)) hgrow (owns_block (by assumption))) | (at_builtin; refine wpList_append_lies _ rfl _ _ _ rfl w.heap.size 77 i0 _ 3 24 Tryz.underlying74 hi hz0 hz1 hz2 rfl (by decide) _ _ _ rfl (owns_alloc (by assumption) _) _ 2 2 [vi k, vi 1, vi 1, vi k, vi 1, vi 0] rfl rfl (World.news_of_block (alloc_at _ _ _ (by simp))) (by simp [Value.oneCell']) (by decide) (by unfold maxLen; (try simp only [List.length_append, List.length_cons, List.length_nil]); omega) (by (try simp only [List.length_append, List.length_cons, List.length_nil]); omega) (by first | omega | (simp; done) | (simp; omega)) _ rfl ?_; intro gg cap w3 hown3 hgrow hat hlt; obtain ⟨o3, n3, rfl⟩ := ext_grown (w := w) (by simp (maxDischargeDepth := 60)) hgrow (owns_block (by assumption)))))))
        go_roundw
        case rel => 
          refine ⟨k + 1, by go_num, PlacesRel.step _ _ hk1 hkl hL HE.out [⟨k, 0, 1⟩, ⟨k, 0, 0⟩, ⟨k, 1, 1⟩, ⟨k, 1, 0⟩] (by have := HQ.out; unfold Ch.placesOf; rw [if_pos (by omega)]) _ ?_ _ ?_ (by assumption) (by simp (maxDischargeDepth := 60))⟩
          · simp
          · simp [placeCells]
        case measure => simp [intOf]; omega
    · have hkk : k = levels + 1 := by omega
      have HQ := Lib.hid hkk
      clear hkk
      go_wp2
      go_ret
      have hL : L = Ch.places levels := by
        have h := HE.out
        rw [HQ.out] at h
        simpa [Ch.placesFrom] using h
      exact ⟨_, rfl, hL ▸ hown, (by simp (maxDischargeDepth := 60))⟩

set_option maxRecDepth 100000 in
set_option maxHeartbeats 2000000 in
theorem rplaces_any (levels : Int) (w : World) (h1 : 1 ≤ levels) (h2 : levels ≤ 4) : Calls Tryz.prog 27 #[vi levels] w (NewPlaces w (Ch.places levels)) := by
  obtain ⟨i0, hi, hz0, hz1, hz2⟩ := info_parts infoPlace
  go_enter Tryz.func27, Tryz.ntmps27
  go_wp2
  go_loopw [3, 4] (fun v n wr => ∃ k : Int, n = .int .i64 k ∧ PlacesRel w levels k v wr) (fun _ n _ => (levels + 1 - intOf n).toNat)
  case atStart => exact ⟨1, rfl, PlacesRel.start' w levels h1⟩
  case round =>
    obtain ⟨k, rfl, L, hk1, hk2, hL, he, hown, o, m, rfl⟩ := hrel
    have HE := Lib.hid he
    clear he
    by_cases hkl : k ≤ levels
    · by_cases heq : levels ≤ k
      · go_wp2
        (refine wp_loop_rounds 3 ?_; (repeat any_goals (rw [rounds_succ]; go_wp2_with (first | (at_builtin; refine wpList_append_lies _ rfl _ _ _ rfl w.heap.size 77 i0 _ 3 24 Tryz.underlying74 hi hz0 hz1 hz2 rfl (by decide) _ _ _ rfl (owns_alloc (by assumption) _) _ 1 1 [vi k, vi 0, vi 1] rfl rfl (World.news_of_block (alloc_at _ _ _ (by simp))) (by simp [Value.oneCell']) (by decide) (by unfold maxLen; (try simp only [List.length_append, List.length_cons, List.length_nil]); omega) (by (try simp only [List.length_append, List.length_cons, List.length_nil]); omega) (by first | omega | (simp; done) | (simp; omega)) _ rfl ?_; intro gg cap w3 hown3 hgrow hat hlt; obtain ⟨o3, n3, rfl⟩ := ext_grown (w := w) (by simp (maxDischargeDepth := 60)) hgrow (owns_block (by assumption))) | (at_builtin; refine wpList_append_lies _ rfl _ _ _ rfl w.heap.size 77 i0 _ 3 24 Tryz.underlying74 hi hz0 hz1 hz2 rfl (by decide) _ _ _ rfl (owns_alloc (by assumption) _) _ 1 1 [vi k, vi 0, vi 0] rfl rfl (World.news_of_block (alloc_at _ _ _ (by simp))) (by simp [Value.oneCell']) (by decide) (by unfold maxLen; (try simp only [List.length_append, List.length_cons, List.length_nil]); omega) (by (try simp only [List.length_append, List.length_cons, List.length_nil]); omega) (by first | omega | (simp; done) | (simp; omega)) _ rfl ?_; intro gg cap w3 hown3 hgrow hat hlt; obtain ⟨o3, n3, rfl⟩ := ext_grown (w := w) (by simp (maxDischargeDepth := 60)) hgrow (owns_block (by assumption)))))))
        go_roundw
        case rel =>
          refine ⟨k + 1, by go_num, PlacesRel.step _ _ hk1 hkl hL HE.out [⟨k, 0, 1⟩, ⟨k, 0, 0⟩] (by unfold Ch.placesOf; rw [if_neg (by omega)]) _ ?_ _ ?_ (by assumption) (by simp (maxDischargeDepth := 60))⟩
          · simp
          · simp [placeCells]
        case measure => simp [intOf]; omega
      · go_wp2
        (refine wp_loop_rounds 3 ?_; (repeat any_goals (rw [rounds_succ]; go_wp2_with (first | (at_builtin; refine wpList_append_lies _ rfl _ _ _ rfl w.heap.size 77 i0 _ 3 24 Tryz.underlying74 hi hz0 hz1 hz2 rfl (by decide) _ _ _ rfl (owns_alloc (by assumption) _) _ 1 1 [vi k, vi 0, vi 1] rfl rfl (World.news_of_block (alloc_at _ _ _ (by simp))) (by simp [Value.oneCell']) (by decide) (by unfold maxLen; (try simp only [List.length_append, List.length_cons, List.length_nil]); omega) (by (try simp only [List.length_append, List.length_cons, List.length_nil]); omega) (by first | omega | (simp; done) | (simp; omega)) _ rfl ?_; intro gg cap w3 hown3 hgrow hat hlt; obtain ⟨o3, n3, rfl⟩ := ext_grown (w := w) (by simp (maxDischargeDepth := 60)) hgrow (owns_block (by assumption))) | (at_builtin; refine wpList_append_lies _ rfl _ _ _ rfl w.heap.size 77 i0 _ 3 24 Tryz.underlying74 hi hz0 hz1 hz2 rfl (by decide) _ _ _ rfl (owns_alloc (by assumption) _) _ 1 1 [vi k, vi 0, vi 0] rfl rfl (World.news_of_block (alloc_at _ _ _ (by simp))) (by simp [Value.oneCell']) (by decide) (by unfold maxLen; (try simp only [List.length_append, List.length_cons, List.length_nil]); omega) (by (try simp only [List.length_append, List.length_cons, List.length_nil]); omega) (by first | omega | (simp; done) | (simp; omega)) _ rfl ?_; intro gg cap w3 hown3 hgrow hat hlt; obtain ⟨o3, n3, rfl⟩ := ext_grown (w := w) (by simp (maxDischargeDepth := 60)) hgrow (owns_block (by assumption))) | (at_builtin; refine wpList_append_lies _ rfl _ _ _ rfl w.heap.size 77 i0 _ 3 24 Tryz.underlying74 hi hz0 hz1 hz2 rfl (by decide) _ _ _ rfl (owns_alloc (by assumption) _) _ 1 1 [vi k, vi 1, vi 1] rfl rfl (World.news_of_block (alloc_at _ _ _ (by simp))) (by simp [Value.oneCell']) (by decide) (by unfold maxLen; (try simp only [List.length_append, List.length_cons, List.length_nil]); omega) (by (try simp only [List.length_append, List.length_cons, List.length_nil]); omega) (by first | omega | (simp; done) | (simp; omega)) _ rfl ?_; intro gg cap w3 hown3 hgrow hat hlt; obtain ⟨o3, n3, rfl⟩ := ext_grown (w := w) (by simp (maxDischargeDepth := 60)) hgrow (owns_block (by assumption))) | (at_builtin; refine wpList_append_lies _ rfl _ _ _ rfl w.heap.size 77 i0 _ 3 24 Tryz.underlying74 hi hz0 hz1 hz2 rfl (by decide) _ _ _ rfl (owns_alloc (by assumption) _) _ 1 1 [vi k, vi 1, vi 0] rfl rfl (World.news_of_block (alloc_at _ _ _ (by simp))) (by simp [Value.oneCell']) (by decide) (by unfold maxLen; (try simp only [List.length_append, List.length_cons, List.length_nil]); omega) (by (try simp only [List.length_append, List.length_cons, List.length_nil]); omega) (by first | omega | (simp; done) | (simp; omega)) _ rfl ?_; intro gg cap w3 hown3 hgrow hat hlt; obtain ⟨o3, n3, rfl⟩ := ext_grown (w := w) (by simp (maxDischargeDepth := 60)) hgrow (owns_block (by assumption)))))))
        go_roundw
        case rel =>
          refine ⟨k + 1, by go_num, PlacesRel.step _ _ hk1 hkl hL HE.out [⟨k, 0, 1⟩, ⟨k, 0, 0⟩, ⟨k, 1, 1⟩, ⟨k, 1, 0⟩] (by unfold Ch.placesOf; rw [if_pos (by omega)]) _ ?_ _ ?_ (by assumption) (by simp (maxDischargeDepth := 60))⟩
          · simp
          · simp [placeCells]
        case measure => simp [intOf]; omega
    · have hkk : k = levels + 1 := by omega
      have HQ := Lib.hid hkk
      clear hkk
      go_wp2
      go_ret
      have hL : L = Ch.places levels := by
        have h := HE.out
        rw [HQ.out] at h
        simpa [Ch.placesFrom] using h
      exact ⟨_, rfl, hL ▸ hown, (by simp (maxDischargeDepth := 60))⟩
end Go.Proofs.YtplomeacjbkgnaaGreatDoor
