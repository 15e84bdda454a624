/-
  The walk of the reference's NewDisk.
-/
import Derived.Test.YtplomeacjbkgnaaRDisk2
namespace Go.Proofs.Ytplomeacjbkgnaa
open Go.RowKit

theorem owns_ext {w w' : World} {base e size : Nat} {v : Value} {n : Nat} {xs : List Value} (h : w.ownsRow base e size v n xs) (x : Ext w w') : w'.ownsRow base e size v n xs := by
  obtain ⟨o, n, rfl⟩ := x
  exact owns_plus h o n

/-- a disk that is being made: k sectors -/
structure Making (w wr : World) (rb k m : Nat) (kv nv : Value) : Prop where
  blk : wr.heap[rb]? = some (.cells #[kv, nv, .slice none 0 0, vi (-1), .bool false] RT (0, 0))
  ko : wr.ownsRow w.heap.size 9 1 kv k ((List.replicate k (Ch.zeros 64)).map vs)
  no : wr.ownsRow w.heap.size 9 1 nv m ((List.replicate m (Ch.zeros 64)).map vs)
  ne1 : kv.ownBlock ≠ some rb
  ne2 : nv.ownBlock ≠ some rb
  ne3 : ∀ b, kv.ownBlock = some b → nv.ownBlock ≠ some b
  rb0 : w.heap.size ≤ rb
  below : Below w.heap.size w wr

theorem rep_snoc (k : Nat) : (List.replicate k (Ch.zeros 64)).map vs ++ [vs (Ch.zeros 64)] = (List.replicate (k + 1) (Ch.zeros 64)).map vs := by
  rw [List.replicate_succ']; simp

theorem Making.first {w wr w0 w5 : World} {rb k m : Nat} {kv nv : Value} (h : Making w wr rb k m kv nv) (hx : Ext wr w0) {gg cap : Nat}
    (hown : w5.ownsRow w.heap.size 9 1 (.slice (some ⟨gg, 0, none⟩) (k + 1) cap) (k + 1) ((List.replicate k (Ch.zeros 64)).map vs ++ [vs (Ch.zeros 64)])) (hg : w0.grownBy w5 kv.ownBlock) (hat : kv.ownBlock = some gg ∨ gg = w0.heap.size) :
    Making w (w5.setCell ⟨rb, 0, none⟩ (.slice (some ⟨gg, 0, none⟩) (k + 1) cap)) rb (k + 1) m (.slice (some ⟨gg, 0, none⟩) (k + 1) cap) nv := by
  have hrb := blk_lt h.blk
  have hb0 : w0.heap[rb]? = wr.heap[rb]? := hx.below.block rb hrb
  have hz := hx.below.size
  have hb5 : w5.heap[rb]? = wr.heap[rb]? := (hg.block rb (by omega) (fun e => h.ne1 e.symm)).trans hb0
  have hgg : gg ≠ rb := by
    rcases hat with hat | hat
    · rintro rfl; exact h.ne1 hat
    · omega
  have h0 := h.below.size
  refine ⟨?_, ?_, ?_, by simp [Value.ownBlock]; exact hgg, h.ne2, ?_, h.rb0, ?_⟩
  · rw [setCell_block (hb5.trans h.blk)]; rfl
  · rw [rep_snoc] at hown
    refine owns_same hown (fun j hj => setCell_other ?_)
    obtain rfl : gg = j := by simpa [Value.ownBlock] using hj
    exact hgg
  · refine owns_same (owns_same (owns_ext h.no hx) (fun j hj => ?_)) (fun j hj => setCell_other (fun e => h.ne2 (by rw [hj, e])))
    exact hg.block j (by have := (h.no.lt j hj).2; omega) (fun e => h.ne3 j e.symm hj)
  · intro b hb
    obtain rfl : gg = b := by simpa [Value.ownBlock] using hb
    intro hnv
    rcases hat with hat | hat
    · exact h.ne3 _ hat hnv
    · have := (h.no.lt _ hnv).2; omega
  · refine Below.setCell ?_ h.rb0 _
    have hb1 : Below w.heap.size w w0 := h.below.trans ⟨hx.below.os, hx.below.tape, hx.below.output, hx.below.size, fun j hj => hx.below.block j (by omega)⟩
    exact hb1.grown hg (by omega) (fun j hj => (h.ko.lt j hj).1)

theorem Making.second {w wr w0 w5 : World} {rb k m : Nat} {kv nv : Value} (h : Making w wr rb k m kv nv) (hx : Ext wr w0) {gg cap : Nat}
    (hown : w5.ownsRow w.heap.size 9 1 (.slice (some ⟨gg, 0, none⟩) (m + 1) cap) (m + 1) ((List.replicate m (Ch.zeros 64)).map vs ++ [vs (Ch.zeros 64)])) (hg : w0.grownBy w5 nv.ownBlock) (hat : nv.ownBlock = some gg ∨ gg = w0.heap.size) :
    Making w (w5.setCell ⟨rb, 1, none⟩ (.slice (some ⟨gg, 0, none⟩) (m + 1) cap)) rb k (m + 1) kv (.slice (some ⟨gg, 0, none⟩) (m + 1) cap) := by
  have hrb := blk_lt h.blk
  have hb0 : w0.heap[rb]? = wr.heap[rb]? := hx.below.block rb hrb
  have hz := hx.below.size
  have hb5 : w5.heap[rb]? = wr.heap[rb]? := (hg.block rb (by omega) (fun e => h.ne2 e.symm)).trans hb0
  have hgg : gg ≠ rb := by
    rcases hat with hat | hat
    · rintro rfl; exact h.ne2 hat
    · omega
  have h0 := h.below.size
  refine ⟨?_, ?_, ?_, h.ne1, by simp [Value.ownBlock]; exact hgg, ?_, h.rb0, ?_⟩
  · rw [setCell_block (hb5.trans h.blk)]; rfl
  · refine owns_same (owns_same (owns_ext h.ko hx) (fun j hj => ?_)) (fun j hj => setCell_other (fun e => h.ne1 (by rw [hj, e])))
    exact hg.block j (by have := (h.ko.lt j hj).2; omega) (fun e => h.ne3 j hj e.symm)
  · rw [rep_snoc] at hown
    refine owns_same hown (fun j hj => setCell_other ?_)
    obtain rfl : gg = j := by simpa [Value.ownBlock] using hj
    exact hgg
  · intro b hb hnv
    obtain rfl : gg = b := by simpa [Value.ownBlock] using hnv
    rcases hat with hat | hat
    · exact h.ne3 _ hb hat
    · have := (h.ko.lt _ hb).2; omega
  · refine Below.setCell ?_ h.rb0 _
    have hb1 : Below w.heap.size w w0 := h.below.trans ⟨hx.below.os, hx.below.tape, hx.below.output, hx.below.size, fun j hj => hx.below.block j (by omega)⟩
    exact hb1.grown hg (by omega) (fun j hj => (h.no.lt j hj).1)

theorem Making.done {w wr : World} {rb n : Nat} {kv nv : Value} (h : Making w wr rb n n kv nv) (h1 : 1 ≤ n) : ∃ F : Nat → Prop, DiskAtT RT RTT wr F rb n (Ch.Disk.new n) ∧ ∀ k, F k → w.heap.size ≤ k := by
  obtain ⟨kb, kc, rfl, k1, k2⟩ := World.ownsRow.form h.ko (by omega)
  obtain ⟨nb, nc, rfl, n1, n2⟩ := World.ownsRow.form h.no (by omega)
  have e1 : kb ≠ rb := fun e => h.ne1 (by rw [e]; rfl)
  have e2 : nb ≠ rb := fun e => h.ne2 (by rw [e]; rfl)
  have e3 : kb ≠ nb := fun e => h.ne3 kb rfl (by rw [e]; rfl)
  refine ⟨fun k => k = rb ∨ k = kb ∨ k = nb, ⟨kb, kc, nb, nc, .slice none 0 0, ?_⟩, ?_⟩
  · refine ⟨h.blk, (StrRow.of_owns h.ko).1, (StrRow.of_owns h.no).1, World.ownsRow_nil _ _ _ _, Or.inl rfl, Or.inr (Or.inl rfl), Or.inr (Or.inr rfl), (fun k hk => by cases hk), e1.symm, e2.symm, e3, (fun k hk => by cases hk), ?_, Ch.Disk.WF.new n⟩
    intro k hk
    rcases hk with rfl | rfl | rfl
    · exact blk_lt h.blk
    · exact k2
    · exact n2
  · intro k hk
    rcases hk with rfl | rfl | rfl
    · exact h.rb0
    · exact k1
    · exact n1

set_option maxRecDepth 100000 in
set_option maxHeartbeats 4000000 in
theorem rnew_any (n : Nat) (w : World) (h1 : 1 ≤ n) (h2 : n ≤ 40) :
    Calls Try.prog 51 #[vi (n : Int)] w fun e w' => ∃ (db : Nat) (F : Nat → Prop), e = .returned (.tuple #[.pointer (some ⟨db, 0, none⟩), vi 0]) ∧ DiskAtT RT RTT w' F db n (Ch.Disk.new n) ∧ (∀ k, F k → w.heap.size ≤ k) ∧ Ext w w' := by
  obtain ⟨i0, hi, hz0, hz1, hz2⟩ := info_parts infoStr3
  go_enter Try.func51, Try.ntmps51
  go_wp2
  have M0 : Making w (w.alloc (.cells #[.slice none 0 0, .slice none 0 0, .slice none 0 0, vi (-1), .bool false] RT)) w.heap.size 0 0 (.slice none 0 0) (.slice none 0 0) :=
    ⟨heap_alloc_new _ _, World.ownsRow_nil _ _ _ _, World.ownsRow_nil _ _ _ _, (fun e => by cases e), (fun e => by cases e), (fun b e => by cases e), Nat.le_refl _, Ext.below (by simp (maxDischargeDepth := 60))⟩
  have HM0 := Lib.hid M0
  clear M0
  go_loopw [5] (fun i wr => ∃ (k : Nat) (kv nv : Value), k ≤ n ∧ i = .int .i64 k ∧ Making w wr w.heap.size k k kv nv) (fun i _ => n - (intOf i).toNat)
  case atStart => exact ⟨0, _, _, by omega, rfl, HM0.out⟩
  case round =>
    obtain ⟨k, kv, nv, hk, rfl, hm⟩ := hrel
    have HM := Lib.hid hm
    have b0 : wr.cell? ⟨w.heap.size, 0, none⟩ = some kv := blk_cell hm.blk rfl
    have b1 : wr.cell? ⟨w.heap.size, 1, none⟩ = some nv := blk_cell hm.blk rfl
    have fz := blk_free hm.blk
    have hrb := blk_lt hm.blk
    have hko := Lib.hid hm.ko
    have hno := Lib.hid hm.no
    by_cases hlt : k < n
    · clear hm
      go_upto_region 7 with fail
      go_region_law (first
        | (go_simp; go_at_call 98; refine (noughts_any 64 _ (by decide)).mono ?_; rintro e wn ⟨rfl, on, nn, rfl⟩; have c0 := xcell (w := wr) (w' := wr.drew.plus on nn) (by simp (maxDischargeDepth := 60)) b0; have c0z := cell_lt c0)
        | (refine step_append_lies _ rfl _ _ _ rfl w.heap.size 9 i0 _ 1 16 Try.underlying87 hi hz0 hz1 hz2 rfl (by decide) kv k _ rfl (owns_ext hko.out (by simp (maxDischargeDepth := 60))) ⟨wr.heap.size + on.size, 0, none⟩ 1 1 [vs (Ch.zeros 64)] rfl rfl (World.news_of_block (alloc_at _ _ _ (by simp))) (by simp [Value.oneCell']) (by decide) (by unfold maxLen; omega) (by omega) (by simp; omega) _ rfl ?_; intro gg cap w5 hown5 hgrow hat hlt5; have s1 := gcell hgrow (xcell (w := wr) (by simp (maxDischargeDepth := 60)) b0) HM.out.ne1; have s2 := gcell hgrow (xcell (w := wr) (by simp (maxDischargeDepth := 60)) b1) HM.out.ne1; have s3 := gfree hgrow (by simp; omega) (xfree (w := wr) (by simp (maxDischargeDepth := 60)) hrb (fz 0)) HM.out.ne1))
      all_goals
        generalize hW : World.setCell _ _ _ = w6
        have HM2 : Hid (Making w w6 w.heap.size (k + 1) k (.slice (some ⟨gg, 0, none⟩) (k + 1) cap) nv) := by unfold Hid; rw [← hW]; exact HM.out.first (w0 := (wr.drew.plus on nn).alloc (.cells #[vs (Ch.zeros 64)] 9)) (by simp (maxDischargeDepth := 60)) hown5 hgrow hat
        clear hW hown5 hgrow hat s1 s2 s3 c0 c0z hlt5
        generalize Value.slice (some ⟨gg, 0, none⟩) (k + 1) cap = kv2 at HM2
        have d0 : w6.cell? ⟨w.heap.size, 0, none⟩ = some kv2 := blk_cell HM2.out.blk rfl
        have d1 : w6.cell? ⟨w.heap.size, 1, none⟩ = some nv := blk_cell HM2.out.blk rfl
        have fz2 := blk_free HM2.out.blk
        have hrb2 := blk_lt HM2.out.blk
        have hno2 := Lib.hid HM2.out.no
        go_upto_region 8 with fail
        go_region_law (first
          | (go_simp; go_at_call 98; refine (noughts_any 64 _ (by decide)).mono ?_; rintro e wn ⟨rfl, on, nn, rfl⟩; have c0 := xcell (w := w6) (w' := w6.drew.plus on nn) (by simp (maxDischargeDepth := 60)) d1; have c0z := cell_lt c0)
          | (refine step_append_lies _ rfl _ _ _ rfl w.heap.size 9 i0 _ 1 16 Try.underlying87 hi hz0 hz1 hz2 rfl (by decide) nv k _ rfl (owns_ext hno2.out (by simp (maxDischargeDepth := 60))) ⟨w6.heap.size + on.size, 0, none⟩ 1 1 [vs (Ch.zeros 64)] rfl rfl (World.news_of_block (alloc_at _ _ _ (by simp))) (by simp [Value.oneCell']) (by decide) (by unfold maxLen; omega) (by omega) (by simp; omega) _ rfl ?_; intro gg cap w5 hown5 hgrow hat hlt5; have s1 := gcell hgrow (xcell (w := w6) (by simp (maxDischargeDepth := 60)) d0) HM2.out.ne2; have s2 := gcell hgrow (xcell (w := w6) (by simp (maxDischargeDepth := 60)) d1) HM2.out.ne2; have s3 := gfree hgrow (by simp; omega) (xfree (w := w6) (by simp (maxDischargeDepth := 60)) hrb2 (fz2 1)) HM2.out.ne2))
        all_goals
          generalize hW : World.setCell _ _ _ = w7
          have HM3 : Hid (Making w w7 w.heap.size (k + 1) (k + 1) kv2 (.slice (some ⟨gg, 0, none⟩) (k + 1) cap)) := by unfold Hid; rw [← hW]; exact HM2.out.second (w0 := (w6.drew.plus on nn).alloc (.cells #[vs (Ch.zeros 64)] 9)) (by simp (maxDischargeDepth := 60)) hown5 hgrow hat
          clear hW hown5 hgrow hat
          go_wp2
          go_roundw
          case rel => exact ⟨k + 1, _, _, by omega, by go_num, HM3.out⟩
          case measure => simp [intOf]; omega
    · obtain rfl : k = n := by omega
      clear hm
      go_wp2
      go_ret2
      obtain ⟨F, h1', h2'⟩ := HM.out.done h1
      exact ⟨w.heap.size, F, rfl, h1', h2', Ext.of_below HM.out.below⟩

theorem rnew_bad (n : Int) (w : World) (h : n < 1 ∨ 40 < n) : Calls Try.prog 51 #[vi n] w fun e w' => e = .returned (.tuple #[.pointer none, vi 1]) ∧ Ext w w' := by
  rcases h with h | h
  all_goals
    go_enter Try.func51, Try.ntmps51
    go_wp2
    go_ret2
    exact ⟨rfl, (by simp (maxDischargeDepth := 60))⟩

end Go.Proofs.Ytplomeacjbkgnaa
