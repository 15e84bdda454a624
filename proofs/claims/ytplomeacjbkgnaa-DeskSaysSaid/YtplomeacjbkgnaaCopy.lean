/-
  The walk of book.Copy: the same book, in lists of its own.
-/
import Derived.Test.YtplomeacjbkgnaaClone
import Derived.Test.YtplomeacjbkgnaaBook
import Derived.Test.YtplomeacjbkgnaaKept
import Derived.Deep.RegionHeld3
namespace Go.Proofs.Ytplomeacjbkgnaa
open Go.RowKit

/-- a book in lists of its own -/
structure OwnBook (w0 w : World) (last : Int) (l : List Ch.Stay) (js : List Ch.Job) (v1 v2 : Value) : Prop where
  stays : w.ownsRow w0.heap.size 149 8 v1 l.length (l.flatMap stayCells)
  jobs : w.ownsRow w0.heap.size 94 2 v2 js.length (js.flatMap jobCells)
  apart : ∀ k, v1.ownBlock = some k → v2.ownBlock ≠ some k

theorem OwnBook.ext {w0 w w' : World} {last : Int} {l : List Ch.Stay} {js : List Ch.Job} {v1 v2 : Value} (h : OwnBook w0 w last l js v1 v2) (x : Ext w w') : OwnBook w0 w' last l js v1 v2 := by
  obtain ⟨o, n, rfl⟩ := x
  exact ⟨owns_plus h.stays o n, owns_plus h.jobs o n, h.apart⟩

theorem owns_set {w : World} {base e size : Nat} {v : Value} {n : Nat} {xs : List Value} (h : w.ownsRow base e size v n xs) {a : Addr} (u : Value) (hn : v.ownBlock ≠ some a.block) : (w.setCell a u).ownsRow base e size v n xs := by
  refine ⟨h.1, ?_⟩
  rcases h.2 with h2 | ⟨g, cap, cur, rfl, hb, hg, hnc, hc, hs, ht⟩
  · exact .inl h2
  · refine .inr ⟨g, cap, cur, rfl, hb, ?_, hnc, hc, hs, ht⟩
    rw [setCell_other]
    · exact hg
    · rintro rfl; exact hn rfl

theorem own_lt {w : World} {base e size : Nat} {v : Value} {n : Nat} {xs : List Value} (h : w.ownsRow base e size v n xs) {k : Nat} (hk : v.ownBlock = some k) : base ≤ k ∧ k < w.heap.size := h.lt k hk

set_option maxRecDepth 100000 in
set_option maxHeartbeats 4000000 in
theorem copy_any (last : Int) (a1 : Option Addr) (m1 c1 : Nat) (a2 : Option Addr) (m2 c2 : Nat) (l : List Ch.Stay) (js : List Ch.Job) (w : World) (h : Sl w 8 stayCells l a1 m1 c1) (h2 : Sl w 2 jobCells js a2 m2 c2) (hm1 : m1 ≤ 1000) (hm2 : m2 ≤ 1000) :
    Calls Try.prog 106 #[bookA last a1 m1 c1 a2 m2 c2] w fun e w' => ∃ v1 v2, e = .returned (.agg #[vi last, v1, v2]) ∧ OwnBook w w' last l js v1 v2 ∧ Ext w w' := by
  have HF := Lib.hid h
  have HJ := Lib.hid h2
  have E1 := Lib.hid h.len
  have E2 := Lib.hid h2.len
  clear h h2
  go_enter Try.func106, Try.ntmps106
  go_upto_region 1 with fail
  go_region_with (first
    | (go_at_call 139; refine (cloneStay_any a1 m1 c1 l _ (Sl.below HF.out (Ext.below (by simp (maxDischargeDepth := 60)))) hm1).mono ?_; rintro e w1 ⟨v1, rfl, hown1, o1, n1, rfl⟩; obtain ⟨b1, d1, rfl, -⟩ := Sl.of_owns (c := 8) (enc := stayCells) hown1 (by decide) (fun _ => rfl))
    | (go_at_call 140; refine (cloneJob_any a2 m2 c2 js _ (Sl.below HJ.out (Ext.below (by simp (maxDischargeDepth := 60)))) hm2).mono ?_; rintro e w2 ⟨v2, rfl, hown2, o2, n2, rfl⟩; obtain ⟨b2, d2, rfl, -⟩ := Sl.of_owns (c := 2) (enc := jobCells) hown2 (by decide) (fun _ => rfl)))
  all_goals
    generalize hW : World.plus _ _ _ = wq
    have k0 : wq.cell? ⟨w.heap.size, 0, none⟩ = some (vi last) := by rw [← hW]; simp [go_sem]
    have k1 : wq.cell? ⟨w.heap.size, 1, none⟩ = some (.slice a1 m1 c1) := by rw [← hW]; simp [go_sem]
    have k2 : wq.cell? ⟨w.heap.size, 2, none⟩ = some (.slice a2 m2 c2) := by rw [← hW]; simp [go_sem]
    have r0 : wq.cell? ⟨w.heap.size + 1, 0, none⟩ = some (.int .i64 0) := by rw [← hW]; simp [go_sem]
    have r1 : wq.cell? ⟨w.heap.size + 1, 1, none⟩ = some (.slice none 0 0) := by rw [← hW]; simp [go_sem]
    have r2 : wq.cell? ⟨w.heap.size + 1, 2, none⟩ = some (.slice none 0 0) := by rw [← hW]; simp [go_sem]
    have fz : ∀ i, wq.frozen? ⟨w.heap.size + 1, i, none⟩ = false := by intro i; rw [← hW]; simp [go_sem]
    have hx : Ext w wq := by rw [← hW]; exact (by simp (maxDischargeDepth := 60))
    have z := cell_lt r0
    have hap : ∀ k, (Value.slice b1 m1 d1).ownBlock = some k → (Value.slice b2 m2 d2).ownBlock ≠ some k := by
      intro k hk1 hk2
      have q1 := (own_lt hown1 hk1).2
      have q2 := (own_lt hown2 hk2).1
      omega
    have g1 : ∀ k, (Value.slice b1 m1 d1).ownBlock = some k → w.heap.size + 2 ≤ k := by
      intro k hk1
      have q1 := (own_lt hown1 hk1).1
      simp at q1; omega
    have g2 : ∀ k, (Value.slice b2 m2 d2).ownBlock = some k → w.heap.size + 2 ≤ k := by
      intro k hk1
      have q1 := (own_lt hown2 hk1).1
      simp at q1; omega
    have hs1 : wq.ownsRow w.heap.size 149 8 (.slice b1 m1 d1) m1 (l.flatMap stayCells) := by
      rw [← hW]; exact owns_base (owns_more hown1 _ _) (by simp; omega)
    have hs2 : wq.ownsRow w.heap.size 94 2 (.slice b2 m2 d2) m2 (js.flatMap jobCells) := by
      rw [← hW, ← plus_plus _ _ n1 _ _]; exact owns_base hown2 (by simp; omega)
    have HAP := Lib.hid hap
    have G1 := Lib.hid g1
    have G2 := Lib.hid g2
    have HS1 := Lib.hid hs1
    have HS2 := Lib.hid hs2
    have HX := Lib.hid hx
    clear hW hown1 hown2 hap g1 g2 hs1 hs2 hx
    go_wp2
    refine bodyPost_ret (v := .agg #[vi last, .slice b1 m1 d1, .slice b2 m2 d2]) (by simp [results, Try.results106, go_sem, *]) rfl ⟨_, _, rfl, ⟨?_, ?_, HAP.out⟩, ?_⟩
    · rw [E1.out]
      refine owns_set (owns_set (owns_set (owns_set (owns_set HS1.out _ ?_) _ ?_) _ ?_) _ ?_) _ ?_ <;> (intro e; have := G1.out _ e; (try dsimp only at this); omega)
    · rw [E2.out]
      refine owns_set (owns_set (owns_set (owns_set (owns_set HS2.out _ ?_) _ ?_) _ ?_) _ ?_) _ ?_ <;> (intro e; have := G2.out _ e; (try dsimp only at this); omega)
    · refine Ext.setCell (Ext.setCell (Ext.setCell (Ext.setCell (Ext.setCell HX.out ?_ _) ?_ _) ?_ _) ?_ _) ?_ _ <;> (dsimp only; omega)
end Go.Proofs.Ytplomeacjbkgnaa
