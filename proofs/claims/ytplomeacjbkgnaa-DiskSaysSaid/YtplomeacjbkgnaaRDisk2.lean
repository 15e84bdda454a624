/-
  The walks of the reference's disk: Flush, Restart, NewDisk.
-/
import Derived.Test.YtplomeacjbkgnaaRDisk
namespace Go.Proofs.Ytplomeacjbkgnaa
open Go.RowKit
variable {T TT : TypeId}

/-- a new row of what is kept -/
theorem DiskInT.rekept {w w3 : World} {F : Nat → Prop} {db kb kc nb nc n : Nat} {wv : Value} {d : Ch.Disk} (h : DiskInT T TT w F db kb kc nb nc n wv d) {gg cap : Nat} {l : List ByteArray} (hl : ∀ s ∈ l, s.size = 64)
    (hown : w3.ownsRow 0 9 1 (.slice (some ⟨gg, 0, none⟩) n cap) n (l.map vs)) (hx : Ext w w3) (hg : w.heap.size ≤ gg) :
    DiskInT T TT (w3.setCell ⟨db, 0, none⟩ (.slice (some ⟨gg, 0, none⟩) n cap)) (fun k => F k ∨ k = gg) db gg cap nb nc n wv { d with kept := l } := by
  have l1 := h.lt db h.f1
  have l2 := h.lt kb h.f2
  have l3 := h.lt nb h.f3
  obtain ⟨hr, _⟩ := StrRow.of_owns hown
  have he : ∀ k, k < w.heap.size → w3.heap[k]? = w.heap[k]? := fun k hk => hx.below.block k hk
  have hz := hx.below.size
  refine ⟨?_, hr.same (setCell_other (by show gg ≠ db; omega)), h.now.same ((setCell_other (fun e => h.n2 e.symm)).trans (he nb l3)), owns_same h.wait (fun k hk => (setCell_other (h.n4 k hk).1).trans (he k (h.lt k (h.f4 k hk)))),
    Or.inl h.f1, Or.inr rfl, Or.inl h.f3, fun k hk => Or.inl (h.f4 k hk), by omega, h.n2, by omega, fun k hk => ⟨(h.n4 k hk).1, by have := h.lt k (h.f4 k hk); omega, (h.n4 k hk).2.2⟩, ?_, ?_⟩
  · rw [setCell_block ((he db l1).trans h.blk)]; rfl
  · intro k hk
    rw [setCell_size]
    rcases hk with hk | rfl
    · have := h.lt k hk; omega
    · exact hr.lt
  · exact ⟨hr.len, h.wf.now, hl, h.wf.nowS, h.wf.wait, h.wf.fuse, h.wf.fuse2⟩

/-- a new row of what is now -/
theorem DiskInT.renow {w w3 : World} {F : Nat → Prop} {db kb kc nb nc n : Nat} {wv : Value} {d : Ch.Disk} (h : DiskInT T TT w F db kb kc nb nc n wv d) {gg cap : Nat} {l : List ByteArray} (hl : ∀ s ∈ l, s.size = 64)
    (hown : w3.ownsRow 0 9 1 (.slice (some ⟨gg, 0, none⟩) n cap) n (l.map vs)) (hx : Ext w w3) (hg : w.heap.size ≤ gg) :
    DiskInT T TT (w3.setCell ⟨db, 1, none⟩ (.slice (some ⟨gg, 0, none⟩) n cap)) (fun k => F k ∨ k = gg) db kb kc gg cap n wv { d with now := l } := by
  have l1 := h.lt db h.f1
  have l2 := h.lt kb h.f2
  have l3 := h.lt nb h.f3
  obtain ⟨hr, _⟩ := StrRow.of_owns hown
  have he : ∀ k, k < w.heap.size → w3.heap[k]? = w.heap[k]? := fun k hk => hx.below.block k hk
  have hz := hx.below.size
  refine ⟨?_, h.kept.same ((setCell_other (fun e => h.n1 e.symm)).trans (he kb l2)), hr.same (setCell_other (by show gg ≠ db; omega)), owns_same h.wait (fun k hk => (setCell_other (h.n4 k hk).1).trans (he k (h.lt k (h.f4 k hk)))),
    Or.inl h.f1, Or.inl h.f2, Or.inr rfl, fun k hk => Or.inl (h.f4 k hk), h.n1, by omega, by omega, fun k hk => ⟨(h.n4 k hk).1, (h.n4 k hk).2.1, by have := h.lt k (h.f4 k hk); omega⟩, ?_, ?_⟩
  · rw [setCell_block ((he db l1).trans h.blk)]; rfl
  · intro k hk
    rw [setCell_size]
    rcases hk with hk | rfl
    · have := h.lt k hk; omega
    · exact hr.lt
  · exact ⟨h.wf.kept, hr.len, h.wf.keptS, hl, h.wf.wait, h.wf.fuse, h.wf.fuse2⟩

set_option maxRecDepth 100000 in
set_option maxHeartbeats 2000000 in
theorem rflush_any {F : Nat → Prop} {db n : Nat} {d : Ch.Disk} {w : World} (h : DiskAtT RT RTT w F db n d) (h1 : 1 ≤ n) (h2 : n ≤ 1000) :
    Calls Try.prog 58 #[.pointer (some ⟨db, 0, none⟩)] w (DDidT RT RTT F db n w d.flush.1 (vi d.flush.2)) := by
  obtain ⟨i0, hi, hz0, hz1, hz2⟩ := info_parts infoStr3
  obtain ⟨kb, kc, nb, nc, wv, h⟩ := h
  have HD := Lib.hid h
  clear h
  by_cases hd : d.stepped.down = true
  · have e : d.flush = (d.stepped, 9) := by unfold Ch.Disk.flush; rw [if_pos hd]
    have he : d.stepErr = 9 := by unfold Ch.Disk.stepErr; rw [if_pos hd]
    have HE := Lib.hid e
    clear e hd
    go_enter Try.func58, Try.ntmps58
    go_wp2_with (go_at_call 100; (with_reducible refine (rdstep_any (HD.out.ext (by simp (maxDischargeDepth := 60)))).mono ?_); rintro e w1 ⟨rfl, hq, hk⟩)
    go_ret
    rw [HE.out]
    exact DiskInT.did hq ((Kept.of_ext (by simp (maxDischargeDepth := 60))).trans hk)
  · have e : d.flush = ({ d.stepped with kept := d.stepped.now, wait := [] }, 0) := by unfold Ch.Disk.flush; rw [if_neg hd, Ch.stepped_now]
    have he : d.stepErr = 0 := by unfold Ch.Disk.stepErr; rw [if_neg hd]
    have HE := Lib.hid e
    clear e hd
    go_enter Try.func58, Try.ntmps58
    go_upto_region 4 with (go_at_call 100; (with_reducible refine (rdstep_any (HD.out.ext (by simp (maxDischargeDepth := 60)))).mono ?_); rintro e w1 ⟨rfl, hq, hk⟩)
    obtain ⟨b0, b1, b2, b3, b4⟩ := hq.cells
    have hbd := cell_lt b1
    have fz := blk_free hq.blk
    have HQ := Lib.hid hq
    have HK := Lib.hid hk
    generalize d.stepped = q at HQ HE b3 b4
    clear hq hk HD
    have HSRC := Lib.hid HQ.out.now.src
    have HLEN := Lib.hid HQ.out.wf.now
    go_wp2_with (at_builtin; refine wpList_append_lies _ rfl _ _ _ rfl 0 9 i0 _ 1 16 Try.underlying87 hi hz0 hz1 hz2 rfl (by decide) (.slice none 0 0) 0 [] rfl (World.ownsRow_nil _ _ _ _) ⟨nb, 0, none⟩ n nc (q.now.map vs) rfl (by rw [List.length_map, HLEN.out]; omega) HSRC.out (oneStr _) (by omega) (by unfold maxLen; omega) (by omega) (by omega) _ rfl ?_; intro gg cap w5 hown5 hgrow hat hlt; have s1 := gcell hgrow b0 (fun e => by cases e); have s2 := gcell hgrow b2 (fun e => by cases e); have s3 := gfree hgrow hbd (fz 0) (fun e => by cases e); have s4 := gfree hgrow hbd (fz 2) (fun e => by cases e))
    go_ret
    rw [HE.out]
    have hg : gg = w1.heap.size := by rcases hat with hat | hat; cases hat; exact hat
    have hx5 : Ext w1 w5 := ext_grown (Ext.refl _) hgrow (by intro k hk; cases hk)
    have hown6 : w5.ownsRow 0 9 1 (.slice (some ⟨gg, 0, none⟩) n cap) n (q.now.map vs) := by
      have := hown5
      rw [Nat.zero_add, List.nil_append] at this
      exact this
    have z1 := HQ.out.rekept HQ.out.wf.nowS hown6 hx5 (by omega)
    have z2 := z1.calmed
    refine ⟨rfl, ⟨_, ⟨_, _, _, _, _, z2⟩, ?_⟩, ?_⟩
    · intro k hk
      rcases hk with hk | rfl
      · exact Or.inl hk
      · have := HK.out.size; exact Or.inr (by omega)
    · exact (((HK.out.trans (Kept.of_ext hx5)).setCell (Or.inl HQ.out.f1) _).setCell (Or.inl HQ.out.f1) _)

/-- so far: of what waited the first k are looked at -/
structure RResumed (w wr : World) (F : Nat → Prop) (db kb kc nb nc n : Nat) (wv : Value) (d : Ch.Disk) (keep k : Nat) : Prop where
  at_ : DiskInT RT RTT wr F db kb kc nb nc n wv (keptAt d keep k)
  kept : Kept F w wr

set_option maxRecDepth 100000 in
set_option maxHeartbeats 4000000 in
theorem rrestart_any {F : Nat → Prop} {db n : Nat} {d : Ch.Disk} {w : World} (h : DiskAtT RT RTT w F db n d) (keep : Nat) (hk : keep < 18446744073709551616) (hl : d.wait.length ≤ 1000000) (h1 : 1 ≤ n) (h2 : n ≤ 1000) :
    Calls Try.prog 61 #[.pointer (some ⟨db, 0, none⟩), .int .u64 (keep : Int)] w (DDidT RT RTT F db n w (d.restart keep) (.tuple #[])) := by
  obtain ⟨i0, hi, hz0, hz1, hz2⟩ := info_parts infoStr3
  obtain ⟨kb, kc, nb, nc, wv, h⟩ := h
  obtain ⟨a, cap, rfl, hs⟩ := Sl.of_owns h.wait (by decide) (fun _ => rfl)
  have hbd := hs.bound
  have R0 : RResumed w w F db kb kc nb nc n _ d keep 0 := ⟨h, Kept.refl _ _⟩
  have HR0 := Lib.hid R0
  generalize hm : d.wait.length = m at *
  clear h hs R0
  go_enter Try.func61, Try.ntmps61
  go_wp2
  go_loopw [4] (fun i wr => ∃ k : Nat, k ≤ m ∧ i = .int .i64 k ∧ RResumed w wr F db kb kc nb nc n (.slice a m cap) d keep k) (fun i _ => m - (intOf i).toNat)
  case atStart => exact ⟨0, by omega, rfl, HR0.out⟩
  case round =>
    obtain ⟨k, hkm, rfl, hr⟩ := hrel
    obtain ⟨c0, c1, c2, c3, c4⟩ := hr.at_.cells
    have hbd2 := cell_lt c1
    by_cases hlt : k < m
    · obtain ⟨a', cap', e1, hs⟩ := Sl.of_owns (l := d.wait) (enc := turnCells) hr.at_.wait (by decide) (fun _ => rfl)
      obtain ⟨rfl, rfl⟩ : a = a' ∧ cap = cap' := by
        simp only [Value.slice.injEq] at e1
        exact ⟨e1.1, e1.2.2⟩
      have hs : Sl wr 2 turnCells d.wait a m cap := by rw [← hm]; exact hs
      obtain ⟨b, o, t, rfl, ht, dx⟩ := hs.get hlt
      have dx := at2 dx
      have hbl := cell_lt dx.1
      have HR := Lib.hid hr
      have HT := Lib.hid ht
      have hw := hr.at_.wf.wait t (List.mem_of_getElem? ht)
      clear hr hs e1 ht
      have hbit := bit_is keep k hk
      obtain ⟨x, hx⟩ : ∃ x, (keptAt d keep k).kept[t.1]? = some x := ⟨(keptAt d keep k).kept[t.1]'(by have := HR.out.at_.wf.kept; omega), by simp⟩
      have hc := HR.out.at_.kept.cell hx
      have fz := HR.out.at_.kept.free t.1
      have hbn := cell_lt hc
      clear hx
      cases hkb : Ch.keepBit keep k
      · have HB := Lib.hid hkb
        rw [hkb] at hbit
        clear hkb
        go_wp2
        go_roundw
        case rel => exact ⟨k + 1, by omega, by go_num, ⟨by rw [keptAt_no HT.out HB.out]; exact HR.out.at_.ext (by simp (maxDischargeDepth := 60)), HR.out.kept.ext (by simp (maxDischargeDepth := 60))⟩⟩
        case measure => simp [intOf]; omega
      · have HB := Lib.hid hkb
        rw [hkb] at hbit
        clear hkb
        go_wp2
        (refine wp_region_tail_ext 21 (by kernel_rfl) (by kernel_rfl) ?_; (simp only [List.take_succ_cons, List.take_zero, List.drop_succ_cons, List.drop_zero]); (repeat (first | go_big_quiet_step (fail) | quiet_step (fail))); refine wpQuiet_nil ?_; intro _ hw'; obtain ⟨oq, nq, hw''⟩ := hw'; subst hw'')
        go_wp2
        go_roundw
        case rel => exact ⟨k + 1, by omega, by go_num, ⟨by rw [keptAt_yes HT.out HB.out]; exact (HR.out.at_.ext (by simp (maxDischargeDepth := 60))).keeps _ _ hw.2, (HR.out.kept.ext (by simp (maxDischargeDepth := 60))).setCell (Or.inl HR.out.at_.f2) _⟩⟩
        case measure => simp [intOf]; omega
    · obtain rfl : k = m := by omega
      have HE : Hid (d.restart keep = { keptAt d keep k with now := (keptAt d keep k).kept, wait := [], fuse := -1, down := false }) := by
        unfold Hid keptAt Ch.Disk.restart
        rw [List.take_of_length_le (by omega)]
      have HQ := Lib.hid hr.at_
      have HK := Lib.hid hr.kept
      have fz := blk_free hr.at_.blk
      clear hr
      generalize keptAt d keep k = q at HQ HE c3 c4
      have HSRC := Lib.hid HQ.out.kept.src
      have HLEN := Lib.hid HQ.out.wf.kept
      go_wp2_with (at_builtin; refine wpList_append_lies _ rfl _ _ _ rfl 0 9 i0 _ 1 16 Try.underlying87 hi hz0 hz1 hz2 rfl (by decide) (.slice none 0 0) 0 [] rfl (World.ownsRow_nil _ _ _ _) ⟨kb, 0, none⟩ n kc (q.kept.map vs) rfl (by rw [List.length_map, HLEN.out]; omega) HSRC.out (oneStr _) (by omega) (by unfold maxLen; omega) (by omega) (by omega) _ rfl ?_; intro gg cap2 w5 hown5 hgrow hat hlt; have s1 := gcell hgrow c1 (fun e => by cases e); have s2 := gcell hgrow c2 (fun e => by cases e); have s3 := gcell hgrow c3 (fun e => by cases e); have s4 := gcell hgrow c4 (fun e => by cases e); have t1 := gfree hgrow hbd2 (fz 1) (fun e => by cases e); have t2 := gfree hgrow hbd2 (fz 2) (fun e => by cases e); have t3 := gfree hgrow hbd2 (fz 3) (fun e => by cases e); have t4 := gfree hgrow hbd2 (fz 4) (fun e => by cases e))
      go_end0
      rw [HE.out]
      have hg : gg = wr.heap.size := by rcases hat with hat | hat; cases hat; exact hat
      have hx5 : Ext wr w5 := ext_grown (Ext.refl _) hgrow (by intro k hk; cases hk)
      have hown6 : w5.ownsRow 0 9 1 (.slice (some ⟨gg, 0, none⟩) n cap2) n (q.kept.map vs) := by
        have := hown5
        rw [Nat.zero_add, List.nil_append] at this
        exact this
      have z0 := HQ.out.renow HQ.out.wf.keptS hown6 hx5 (by omega)
      have z1 := z0.calmed
      have z2 := z1.put (e := { q with now := q.kept, wait := [], down := false }) 4 (.bool false) (by simp) rfl rfl rfl ⟨z1.wf.kept, z1.wf.now, z1.wf.keptS, z1.wf.nowS, z1.wf.wait, z1.wf.fuse, z1.wf.fuse2⟩
      have z3 := z2.put (e := { q with now := q.kept, wait := [], fuse := -1, down := false }) 3 (vi (-1)) (by simp) rfl rfl rfl ⟨z1.wf.kept, z1.wf.now, z1.wf.keptS, z1.wf.nowS, z1.wf.wait, by simp, by simp⟩
      refine ⟨rfl, ⟨_, ⟨_, _, _, _, _, z3⟩, ?_⟩, ?_⟩
      · intro k hk
        rcases hk with hk | rfl
        · exact Or.inl hk
        · have := HK.out.size; exact Or.inr (by omega)
      · exact (((((HK.out.trans (Kept.of_ext hx5)).setCell (Or.inl HQ.out.f1) _).setCell (Or.inl HQ.out.f1) _).setCell (Or.inl HQ.out.f1) _).setCell (Or.inl HQ.out.f1) _)

end Go.Proofs.Ytplomeacjbkgnaa
