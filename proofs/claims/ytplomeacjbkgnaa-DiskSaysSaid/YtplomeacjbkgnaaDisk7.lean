/-
  The walk of disk.New.
-/
import Derived.Test.YtplomeacjbkgnaaDisk6
namespace Go.Proofs.Ytplomeacjbkgnaa
open Go.RowKit
variable {T TT : TypeId}

theorem StrRow.of_owns {w : World} {base g n cap : Nat} {l : List ByteArray} (h : w.ownsRow base 9 1 (.slice (some ⟨g, 0, none⟩) n cap) n (l.map vs)) : StrRow w g n cap l ∧ base ≤ g := by
  rcases h.2 with ⟨h', _⟩ | ⟨g', cap', cur, h', hb, hg, hn, hc, hs, ht⟩
  · simp at h'
  · simp only [Value.slice.injEq, Option.some.injEq, Addr.mk.injEq, and_true, true_and] at h'
    obtain ⟨rfl, rfl⟩ := h'
    refine ⟨⟨by simpa using h.1, hn, hc, cur, hg, by simpa using hs, by simpa using ht⟩, hb⟩

set_option maxRecDepth 100000 in
set_option maxHeartbeats 1000000 in
theorem cloneStr_any {g n c : Nat} {l : List ByteArray} {w : World} (h : StrRow w g n c l) (h1 : 1 ≤ n) (h2 : n ≤ 1000) :
    Calls Try.prog 97 #[.slice (some ⟨g, 0, none⟩) n c] w fun e w' => ∃ g' c', e = .returned (.slice (some ⟨g', 0, none⟩) n c') ∧ StrRow w' g' n c' l ∧ w.heap.size ≤ g' ∧ Ext w w' := by
  obtain ⟨i0, hi, hz0, hz1, hz2⟩ := info_parts infoStr3
  have hq : ∀ w, (Go.binOp .eql 87 (.slice (some ⟨g, 0, none⟩) n c) (.slice none 0 0)).run Try.prog w = .ok (.bool false) w := fun w => Lib.run_eql_slice_nil w _ _ _ _ _ _ _ Try.underlying87
  have hl := h.len
  have hnews : ∀ j u, (l.map vs)[j]? = some u → (w.alloc (.cells #[] 9)).cell? ((⟨g, 0, none⟩ : Addr).add j) = some u := (h.same (ext_heap (w' := w.alloc (.cells #[] 9)) (by simp (maxDischargeDepth := 60)) h.lt)).src
  have HN := Lib.hid hnews
  have HO := Lib.hid (oneStr l)
  clear hnews h
  go_enter Try.func97, Try.ntmps97
  go_wp2_with (at_builtin; refine wpList_append_own _ rfl _ _ _ rfl w.heap.size 9 i0 _ 1 16 Try.underlying87 hi hz0 hz1 hz2 rfl (by decide) _ 0 [] rfl (owns_new w 9 1 0 #[] rfl (by decide)) ⟨g, 0, none⟩ n c (l.map vs) rfl (by simp [hl]) HN.out HO.out (by unfold maxLen; omega) (by omega) (by simp) ?_; intro v' w1 hown hgrow hnil; obtain ⟨o1, n1, rfl⟩ := ext_grown (w := w) (by simp (maxDischargeDepth := 60)) hgrow (by intro k hk; cases hk; exact Nat.le_refl _))
  go_ret
  have hown' : (w.plus o1 n1).ownsRow w.heap.size 9 1 v' n (l.map vs) := by simpa using hown
  obtain ⟨g', c', rfl, _, _⟩ := World.ownsRow.form hown' (by omega)
  obtain ⟨z1, z2⟩ := StrRow.of_owns hown'
  exact ⟨g', c', rfl, z1, z2, (by simp (maxDischargeDepth := 60))⟩

theorem full_zero : Ch.fullS ⟨#[]⟩ = Ch.zeros 64 := by
  unfold Ch.fullS
  apply ByteArray.ext
  simp [Ch.zeros]
  rfl

/-- a new disk -/
def NewDisk (w : World) (n : Nat) (e : Ending) (w' : World) : Prop :=
  ∃ (db : Nat) (F : Nat → Prop), e = .returned (.tuple #[.pointer (some ⟨db, 0, none⟩), .nilIface]) ∧ DiskAt w' F db n (Ch.Disk.new n) ∧ (∀ k, F k → w.heap.size ≤ k) ∧ Ext w w'

set_option maxRecDepth 100000 in
set_option maxHeartbeats 2000000 in
theorem diskNew_any (n : Nat) (w : World) (h1 : 1 ≤ n) (h2 : n ≤ 40) : Calls Try.prog 50 #[vi (n : Int)] w (NewDisk w n) := by
  go_enter Try.func50, Try.ntmps50
  go_wp2_with (first
    | (go_at_call 96; (with_reducible refine (dfull_any _ _ (by decide)).mono ?_); rintro e w1 ⟨rfl, o1, n1, rfl⟩)
    | (go_at_call 95; (with_reducible refine (repeat_any (Ch.fullS ⟨#[]⟩) n _ _ (alloc_at _ _ _ (by simp)) h1 h2).mono ?_); rintro e w2 ⟨kb, rfl, hkb, hrow, hx⟩)
    | (go_at_call 97; (with_reducible refine (cloneStr_any hrow h1 (by omega)).mono ?_); rintro e w3 ⟨nb, nc, rfl, hrow3, hnb, hx3⟩))
  go_ret2
  go_light
  have hzk := hrow.lt
  have hz3 := hx3.below.size
  have hz2 := hx.below.size
  simp at hkb hz2
  have hrow3' : StrRow w3 kb n n (List.replicate n (Ch.fullS ⟨#[]⟩)) := hrow.same (ext_heap hx3 hzk)
  have hz' := hrow3.lt
  refine ⟨_, fun k => k = w3.heap.size ∨ k = kb ∨ k = nb, rfl, ⟨kb, n, nb, nc, .slice none 0 0, ?_⟩, ?_, ?_⟩
  · refine ⟨?_, ?_, ?_, World.ownsRow_nil _ _ _ _, Or.inl rfl, Or.inr (Or.inl rfl), Or.inr (Or.inr rfl), (fun k hk => by cases hk), by omega, by omega, by omega, (fun k hk => by cases hk), ?_, Ch.Disk.WF.new n⟩
    · exact heap_alloc_new _ _
    · exact (full_zero ▸ hrow3').same (ext_heap (w' := w3.alloc _) (by simp (maxDischargeDepth := 60)) (by omega))
    · exact (full_zero ▸ hrow3).same (ext_heap (w' := w3.alloc _) (by simp (maxDischargeDepth := 60)) hz')
    · intro k hk
      rw [World.size_alloc]
      rcases hk with rfl | rfl | rfl <;> omega
  · intro k hk
    rcases hk with rfl | rfl | rfl <;> omega
  · exact (Ext.trans (Ext.trans (by simp (maxDischargeDepth := 60)) hx) hx3).alloc _

set_option maxRecDepth 100000 in
theorem diskNew_bad (n : Int) (w : World) (h : n < 1 ∨ 40 < n) : Calls Try.prog 50 #[vi n] w fun e w' => e = .returned (.tuple #[.pointer none, errV 1]) ∧ Ext w w' := by
  rcases h with h | h
  all_goals
    go_enter Try.func50, Try.ntmps50
    go_wp2
    go_ret2
    exact ⟨rfl, (by simp (maxDischargeDepth := 60))⟩

end Go.Proofs.Ytplomeacjbkgnaa
