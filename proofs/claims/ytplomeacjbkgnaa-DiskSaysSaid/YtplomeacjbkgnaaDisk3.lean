/-
  The walk of disk.Write.
-/
import Derived.Test.YtplomeacjbkgnaaDisk2
import Derived.Deep.RegionLaw
namespace Go.Proofs.Ytplomeacjbkgnaa
open Go.RowKit
variable {T TT : TypeId}

theorem infoTurn : (Try.prog.info? 144).map (fun i => (i.zero, i.size, i.bytes)) = some (some (.agg #[vi 0, vs ⟨#[]⟩]), 2, 24) := by kernel_rfl

set_option maxRecDepth 100000 in
set_option maxHeartbeats 2000000 in
theorem write_bad {F : Nat → Prop} {db kb kc nb nc n : Nat} {wv : Value} {d : Ch.Disk} {w : World} (h : DiskIn w F db kb kc nb nc n wv d) (k : Int) (s : ByteArray) (hs : s.size ≤ maxLen) (hbad : k < 0 ∨ (n : Int) ≤ k ∨ 64 < s.size) :
    Calls Try.prog 53 #[.pointer (some ⟨db, 0, none⟩), vi k, vs s] w fun e w' => e = .returned (errV 1) ∧ Ext w w' := by
  obtain ⟨c0, c1, c2, c3, c4⟩ := h.cells
  have hb := cell_lt c1
  have hnc := h.now.nc
  have hcm := h.now.cm
  unfold maxLen at hcm hs
  clear h
  by_cases h1 : k < 0
  · clear hbad
    go_enter Try.func53, Try.ntmps53
    go_wp2
    go_ret
    exact ⟨rfl, (by simp (maxDischargeDepth := 60))⟩
  · have h1' : 0 ≤ k := by omega
    by_cases h2 : (n : Int) ≤ k
    · clear hbad h1
      go_enter Try.func53, Try.ntmps53
      go_wp2
      go_ret
      exact ⟨rfl, (by simp (maxDischargeDepth := 60))⟩
    · have h2' : k < (n : Int) := by omega
      have h3 : 64 < s.size := by omega
      clear hbad h1 h2
      go_enter Try.func53, Try.ntmps53
      go_wp2
      go_ret
      exact ⟨rfl, (by simp (maxDischargeDepth := 60))⟩

set_option maxRecDepth 100000 in
set_option maxHeartbeats 2000000 in
theorem write_down {F : Nat → Prop} {db kb kc nb nc n : Nat} {wv : Value} {d : Ch.Disk} {w : World} (h : DiskIn w F db kb kc nb nc n wv d) (j : Nat) (s : ByteArray) (hj : j < n) (hs : s.size ≤ 64) (hd : d.stepErr = 9) :
    Calls Try.prog 53 #[.pointer (some ⟨db, 0, none⟩), vi (j : Int), vs s] w (DDid F db n w d.stepped (errV 9)) := by
  obtain ⟨c0, c1, c2, c3, c4⟩ := h.cells
  have hb := cell_lt c1
  have hnc := h.now.nc
  have hcm := h.now.cm
  have HD := Lib.hid h
  unfold maxLen at hcm
  have he : errV d.stepErr = .iface 133 (vi 9) := by rw [hd]; rfl
  clear h hd
  go_enter Try.func53, Try.ntmps53
  go_wp2_with (go_at_call 99; (with_reducible refine (dstep_any (HD.out.ext (by simp (maxDischargeDepth := 60)))).mono ?_); rintro e w1 ⟨rfl, hq, hk⟩)
  go_ret
  exact DiskInT.did hq ((Kept.of_ext (by simp (maxDischargeDepth := 60))).trans hk)

/-- a sector is written in its row -/
theorem DiskInT.wrote {w : World} {F : Nat → Prop} {db kb kc nb nc n : Nat} {wv : Value} {d : Ch.Disk} (h : DiskInT T TT w F db kb kc nb nc n wv d) (j : Nat) (s : ByteArray) (hs : s.size = 64) :
    DiskInT T TT (w.setCell ⟨nb, j, none⟩ (vs s)) F db kb kc nb nc n wv { d with now := d.now.set j s } where
  blk := (setCell_other h.n2).trans h.blk
  kept := h.kept.same (setCell_other h.n3)
  now := h.now.set j s
  wait := owns_same h.wait (fun k hk => setCell_other (h.n4 k hk).2.2)
  f1 := h.f1
  f2 := h.f2
  f3 := h.f3
  f4 := h.f4
  n1 := h.n1
  n2 := h.n2
  n3 := h.n3
  n4 := h.n4
  lt := fun k hk => by rw [setCell_size]; exact h.lt k hk
  wf := ⟨h.wf.kept, by simp [h.wf.now], h.wf.keptS, (fun x hx => by rcases List.mem_or_eq_of_mem_set hx with hx | rfl; exact h.wf.nowS x hx; exact hs), h.wf.wait, h.wf.fuse, h.wf.fuse2⟩

theorem ext_heap {w w' : World} (h : Ext w w') {b : Nat} (hb : b < w.heap.size) : w'.heap[b]? = w.heap[b]? := h.below.block b hb

/-- what was written waits -/
theorem DiskInT.waits {w w3 : World} {F : Nat → Prop} {db kb kc nb nc n : Nat} {wv : Value} {d : Ch.Disk} (h : DiskInT T TT w F db kb kc nb nc n wv d) (v : Value) (t : Nat × ByteArray) (ht : t.1 < n ∧ t.2.size = 64)
    (hown : w3.ownsRow 0 TT 2 v (d.wait.length + 1) (d.wait.flatMap turnCells ++ turnCells t)) (hg : w.grownBy w3 wv.ownBlock) (hv : ∀ k, v.ownBlock = some k → wv.ownBlock = some k ∨ w.heap.size ≤ k) :
    DiskInT T TT (w3.setCell ⟨db, 2, none⟩ v) (fun k => F k ∨ v.ownBlock = some k) db kb kc nb nc n v { d with wait := d.wait ++ [t] } := by
  have hs : ∀ k, k < w.heap.size → wv.ownBlock ≠ some k → w3.heap[k]? = w.heap[k]? := fun k hk hne => hg.block k hk (fun e => hne e.symm)
  have l1 := h.lt db h.f1
  have l2 := h.lt kb h.f2
  have l3 := h.lt nb h.f3
  have hne : ∀ k, v.ownBlock = some k → k ≠ db ∧ k ≠ kb ∧ k ≠ nb := fun k hk => by
    rcases hv k hk with e | e
    · exact h.n4 k e
    · exact ⟨by omega, by omega, by omega⟩
  have hb3 : w3.heap[db]? = w.heap[db]? := hs db l1 (fun e => (h.n4 db e).1 rfl)
  refine ⟨?_, ?_, ?_, ?_, Or.inl h.f1, Or.inl h.f2, Or.inl h.f3, fun k hk => Or.inr hk, h.n1, h.n2, h.n3, hne, ?_, ?_⟩
  · rw [setCell_block (hb3.trans h.blk)]; rfl
  · exact h.kept.same ((setCell_other (fun e => h.n1 e.symm)).trans (hs kb l2 (fun e => (h.n4 kb e).2.1 rfl)))
  · exact h.now.same ((setCell_other (fun e => h.n2 e.symm)).trans (hs nb l3 (fun e => (h.n4 nb e).2.2 rfl)))
  · refine owns_same ?_ (fun k hk => setCell_other (hne k hk).1)
    simpa [List.flatMap_append] using hown
  · intro k hk
    rw [setCell_size]
    rcases hk with hk | hk
    · have := h.lt k hk; have := hg.size; omega
    · exact (hown.lt k hk).2
  · have := h.wf
    refine ⟨this.kept, this.now, this.keptS, this.nowS, ?_, this.fuse, this.fuse2⟩
    intro x hx
    simp at hx
    rcases hx with hx | rfl
    · exact this.wait x hx
    · exact ht

set_option maxRecDepth 100000 in
set_option maxHeartbeats 4000000 in
theorem write_ok {F : Nat → Prop} {db kb kc nb nc n : Nat} {wv : Value} {d : Ch.Disk} {w : World} (h : DiskIn w F db kb kc nb nc n wv d) (j : Nat) (s : ByteArray) (hj : j < n) (hs : s.size ≤ 64) (hd : d.stepErr = 0) (hl : d.wait.length ≤ 1000000) :
    Calls Try.prog 53 #[.pointer (some ⟨db, 0, none⟩), vi (j : Int), vs s] w (DDid F db n w (d.write (j : Int) s).1 (errV 0)) := by
  obtain ⟨i0, hi, hz0, hz1, hz2⟩ := info_parts infoTurn
  obtain ⟨c0, c1, c2, c3, c4⟩ := h.cells
  have hb := cell_lt c1
  have hnc := h.now.nc
  have hcm := h.now.cm
  have HD := Lib.hid h
  have HN := Lib.hid h.wf.now
  unfold maxLen at hcm
  have he : errV d.stepErr = .nilIface := by rw [hd]; rfl
  have HE : Hid (d.write (j : Int) s = ({ d.stepped with now := d.stepped.now.set j (Ch.fullS s), wait := d.stepped.wait ++ [(j, Ch.fullS s)] }, 0)) := by
    unfold Hid Ch.Disk.write
    have : ¬ d.stepped.down = true := by unfold Ch.Disk.stepErr at hd; split at hd <;> simp_all
    rw [if_neg (by have := HN.out; omega), if_neg this, Ch.stepped_now, Ch.stepped_wait]; simp
  clear h hd
  go_enter Try.func53, Try.ntmps53
  go_upto_region 5 with (go_at_call 99; (with_reducible refine (dstep_any (HD.out.ext (by simp (maxDischargeDepth := 60)))).mono ?_); rintro e w1 ⟨rfl, hq, hk⟩)
  obtain ⟨b0, b1, b2, b3, b4⟩ := hq.cells
  obtain ⟨x, hx⟩ : ∃ x, d.stepped.now[j]? = some x := ⟨d.stepped.now[j]'(by have := hq.wf.now; omega), by simp⟩
  have hc := hq.now.cell hx
  have fz := hq.now.free j
  have hbn := cell_lt hc
  have hbd := cell_lt b1
  have hlw : d.stepped.wait.length ≤ 1000000 := by rw [Ch.stepped_wait]; exact hl
  have HQ := Lib.hid hq
  have HK := Lib.hid hk
  generalize d.stepped = q at HQ hlw HE b3 b4 hx
  clear hq hk hl HN hx c0 c1 c2 c3 c4 HD
  (refine wp_region_tail_ext 8 (by kernel_rfl) (by kernel_rfl) ?_; (simp only [List.take_succ_cons, List.take_zero, List.drop_succ_cons, List.drop_zero]); (repeat (first | go_big_quiet_step ((intro _; go_at_call 96; exact ext_callG (dfull_any _ _ hs) (by rintro w' ⟨o', n', rfl⟩; exact ⟨_, n', by first | (simp only [plus_plus]; rfl) | (simp only [plus_plus, Array.append_assoc]; rfl) | rfl⟩))) | quiet_step ((intro _; go_at_call 96; exact ext_callG (dfull_any _ _ hs) (by rintro w' ⟨o', n', rfl⟩; exact ⟨_, n', by first | (simp only [plus_plus]; rfl) | (simp only [plus_plus, Array.append_assoc]; rfl) | rfl⟩))))); refine wpQuiet_nil ?_; intro _ hw'; obtain ⟨oq, nq, hw''⟩ := hw'; subst hw'')
  go_upto_region 6 with fail
  generalize hW : World.setCell _ _ _ = w3
  have hq3 : DiskIn w3 F db kb kc nb nc n wv { q with now := q.now.set j (Ch.fullS s) } := by
    rw [← hW]; exact (HQ.out.ext (by simp (maxDischargeDepth := 60))).wrote j _ (Ch.fullS_size hs)
  have hk3 : Kept F w w3 := by rw [← hW]; exact (HK.out.ext (by simp (maxDischargeDepth := 60))).setCell (Or.inl HQ.out.f3) _
  clear hW b0 b1 b2 b3 b4 hc fz hbn hbd HQ HK
  obtain ⟨b0, b1, b2, b3, b4⟩ := hq3.cells
  have hc := hq3.now.cell (k := j) (s := Ch.fullS s) (by rw [List.getElem?_set_self (by have := hq3.wf.now; simp at this; omega)])
  have hbn := cell_lt hc
  have hbd := cell_lt b1
  have fz := blk_free hq3.blk
  have HQ := Lib.hid hq3
  have HK := Lib.hid hk3
  have ne2 := hq3.n2
  have hown := Lib.hid (show w3.ownsRow 0 144 2 wv q.wait.length (q.wait.flatMap turnCells) from hq3.wait)
  have hne := Lib.hid hq3.n4
  clear hq3 hk3
  go_region_law (first | (refine step_append_lies _ rfl _ _ _ rfl 0 144 i0 _ 2 24 Try.underlying139 hi hz0 hz1 hz2 rfl (by decide) wv q.wait.length _ rfl (owns_drew (owns_alloc hown.out _)) ⟨w3.heap.size, 0, none⟩ 1 1 [vi (j : Int), vs (Ch.fullS s)] rfl rfl (news_drew w3 #[vi (j : Int), vs (Ch.fullS s)] 144) (by simp [Value.oneCell']) (by decide) (by unfold maxLen; omega) (by omega) (by omega) _ rfl ?_; intro gg cap w5 hown5 hgrow hat hlt; have s1 := gcell hgrow (xcell (w := w3) (by simp (maxDischargeDepth := 60)) b1) (fun e => (hne.out _ e).1 rfl); have s2 := gcell hgrow (xcell (w := w3) (by simp (maxDischargeDepth := 60)) b2) (fun e => (hne.out _ e).1 rfl); have s3 := gcell hgrow (xcell (w := w3) (by simp (maxDischargeDepth := 60)) hc) (fun e => (hne.out _ e).2.2 rfl); have s4 := gfree hgrow (by first | (simp; done) | (simp; omega)) (xfree (w := w3) (by simp (maxDischargeDepth := 60)) hbd (fz 2)) (fun e => (hne.out _ e).1 rfl)))
  all_goals
    go_wp2
    go_ret
    rw [HE.out]
    have hx3 : Ext w3 (w3.alloc (.cells #[vi (j : Int), vs (Ch.fullS s)] 144)).drew := (by simp (maxDischargeDepth := 60))
    have hz3 := hx3.below.size
    refine ⟨rfl, ⟨fun k => F k ∨ some gg = some k, ⟨kb, kc, nb, nc, _, (HQ.out.ext hx3).waits (.slice (some ⟨gg, 0, none⟩) (q.wait.length + 1) cap) (j, Ch.fullS s) ⟨hj, Ch.fullS_size hs⟩ hown5 hgrow ?_⟩, ?_⟩, ?_⟩
    · intro k hk
      obtain rfl : gg = k := by simpa [Value.ownBlock] using hk
      rcases hat with hat | hat
      · exact Or.inl hat
      · exact Or.inr (by omega)
    · intro k hk
      rcases hk with hk | hk
      · exact Or.inl hk
      · obtain rfl : gg = k := by simpa using hk
        rcases hat with hat | hat
        · exact Or.inl (HQ.out.f4 _ hat)
        · have := HK.out.size
          exact Or.inr (by omega)
    · refine Kept.setCell ?_ (Or.inl HQ.out.f1) _
      exact HK.out.trans ((Kept.of_ext hx3).trans ⟨hgrow.os, hgrow.tape, hgrow.output, hgrow.size, fun k hk hs => hgrow.block k hk (fun e => hs (HQ.out.f4 k e.symm))⟩)

end Go.Proofs.Ytplomeacjbkgnaa
