/-
  The walks of the reference's disk.
-/
import Derived.Test.YtplomeacjbkgnaaDisk7
import Derived.Test.YtplomeacjbkgnaaDiskArm
namespace Go.Proofs.Ytplomeacjbkgnaa
open Go.RowKit

abbrev RT : TypeId := 90

abbrev RTT : TypeId := 146

set_option maxRecDepth 100000 in
set_option maxHeartbeats 1000000 in
theorem noughts_any (k : Nat) (w : World) (hk : k ≤ 1000) :
    Calls Try.prog 98 #[vi (k : Int)] w fun e w' => e = .returned (vs (Ch.zeros k)) ∧ Ext w w' := by
  have m1 := fun wx => make_zeros k hk wx
  have m2 := zeros_back k k (w.alloc (.cells (madeCells #[.int .u8 0] k) 5)) w.heap.size (heap_alloc_new w _)
  go_enter Try.func98, Try.ntmps98
  go_wp2
  go_ret
  exact ⟨rfl, (by simp (maxDischargeDepth := 60))⟩

set_option maxRecDepth 100000 in
set_option maxHeartbeats 1000000 in
theorem rdstep_any {F : Nat → Prop} {db kb kc nb nc n : Nat} {wv : Value} {d : Ch.Disk} {w : World} (h : DiskInT RT RTT w F db kb kc nb nc n wv d) :
    Calls Try.prog 100 #[.pointer (some ⟨db, 0, none⟩)] w fun e w' => e = .returned (vi d.stepErr) ∧ DiskInT RT RTT w' F db kb kc nb nc n wv d.stepped ∧ Kept F w w' := by
  obtain ⟨c0, c1, c2, c3, c4⟩ := h.cells
  have HD := Lib.hid h
  have fz := blk_free h.blk
  have hb := cell_lt c1
  have hf := h.wf.fuse
  have hf2 := h.wf.fuse2
  have f1 := h.f1
  clear h
  cases hd : d.down
  · by_cases h0 : d.fuse = 0
    · have HS : Hid (d.stepped = { d with down := true, fuse := -1 }) := by unfold Hid Ch.Disk.stepped; rw [if_neg (by rw [hd]; simp), if_pos h0]
      have HW : Hid (d.stepped.WF n) := by unfold Hid; exact HD.out.wf.stepped
      have H4 := Lib.hid hd
      rw [hd] at c4
      rw [h0] at c3
      clear hd
      go_enter Try.func100, Try.ntmps100
      go_wp2
      go_ret
      rw [HS.out]
      refine ⟨by simp [Ch.Disk.stepErr, HS.out], ?_, ((Kept.refl _ _).setCell (Or.inl f1) _).setCell (Or.inl f1) _⟩
      exact (HD.out.put (e := { d with down := true }) 4 _ (by simp) rfl rfl rfl ⟨HD.out.wf.kept, HD.out.wf.now, HD.out.wf.keptS, HD.out.wf.nowS, HD.out.wf.wait, HD.out.wf.fuse, HD.out.wf.fuse2⟩).put 3 _ (by simp) rfl rfl rfl (by rw [← HS.out]; exact HW.out)
    · by_cases h1 : 0 < d.fuse
      · have HS : Hid (d.stepped = { d with fuse := d.fuse - 1 }) := by
          unfold Hid Ch.Disk.stepped; rw [if_neg (by rw [hd]; simp), if_neg h0]
          congr 1; omega
        have HW : Hid (d.stepped.WF n) := by unfold Hid; exact HD.out.wf.stepped
        have h0' : (d.fuse == 0) = false := by simpa using h0
        have i1 : IntKind.i64.wrap (d.fuse - 1) = d.fuse - 1 := IntWalk.i64_in _ (by omega)
        have H4 := Lib.hid hd
        rw [hd] at c4
        clear hd h0
        go_enter Try.func100, Try.ntmps100
        go_wp2
        go_ret
        rw [HS.out]
        refine ⟨by simp [Ch.Disk.stepErr, HS.out, H4.out], ?_, (Kept.refl _ _).setCell (Or.inl f1) _⟩
        exact HD.out.put 3 _ (by simp) rfl rfl rfl (by rw [← HS.out]; exact HW.out)
      · have HS : Hid (d.stepped = d) := by
          unfold Hid Ch.Disk.stepped; rw [if_neg (by rw [hd]; simp), if_neg h0]
          have e : max (d.fuse - 1) (-1) = d.fuse := by omega
          rw [e]
        have h0' : (d.fuse == 0) = false := by simpa using h0
        have H4 := Lib.hid hd
        rw [hd] at c4
        clear hd h0
        go_enter Try.func100, Try.ntmps100
        go_wp2
        go_ret
        rw [HS.out]
        exact ⟨by simp [Ch.Disk.stepErr, HS.out, H4.out], HD.out, Kept.refl _ _⟩
  · have HS : Hid (d.stepped = d) := by unfold Hid Ch.Disk.stepped; rw [if_pos hd]
    have H4 := Lib.hid hd
    rw [hd] at c4
    clear hd
    go_enter Try.func100, Try.ntmps100
    go_wp2
    go_ret
    rw [HS.out]
    exact ⟨by simp [Ch.Disk.stepErr, HS.out, H4.out], HD.out, Kept.refl _ _⟩

set_option maxRecDepth 100000 in
set_option maxHeartbeats 1000000 in
theorem rread_any {F : Nat → Prop} {db kb kc nb nc n : Nat} {wv : Value} {d : Ch.Disk} {w : World} (h : DiskInT RT RTT w F db kb kc nb nc n wv d) (k : Int) :
    Calls Try.prog 56 #[.pointer (some ⟨db, 0, none⟩), vi k] w fun e w' => e = .returned (.tuple #[vs (d.read k).1, vi (d.read k).2]) ∧ Ext w w' := by
  obtain ⟨c0, c1, c2, c3, c4⟩ := h.cells
  have hb := cell_lt c1
  have hn := h.wf.now
  have hnc := h.now.nc
  have hcm := h.now.cm
  unfold maxLen at hcm
  cases hd : d.down
  · rw [hd] at c4
    by_cases hk : k < 0 ∨ (n : Int) ≤ k
    · have HR : Hid (d.read k = (⟨#[]⟩, 1)) := by unfold Hid Ch.Disk.read; rw [hd, if_neg (by simp), hn, if_pos hk]
      clear h hd hn
      rcases hk with hk | hk
      · go_enter Try.func56, Try.ntmps56
        go_wp2
        go_ret2
        exact ⟨by rw [HR.out]; rfl, (by simp (maxDischargeDepth := 60))⟩
      · have hk0 : 0 ≤ k := by omega
        go_enter Try.func56, Try.ntmps56
        go_wp2
        go_ret2
        exact ⟨by rw [HR.out]; rfl, (by simp (maxDischargeDepth := 60))⟩
    · obtain ⟨j, rfl⟩ : ∃ j : Nat, k = (j : Int) := ⟨k.toNat, by omega⟩
      have hj : j < n := by omega
      obtain ⟨s, hs⟩ : ∃ s, d.now[j]? = some s := ⟨d.now[j]'(by omega), by simp⟩
      have hc := h.now.cell hs
      have hbn := cell_lt hc
      have HR : Hid (d.read (j : Int) = (s, 0)) := by unfold Hid Ch.Disk.read; rw [hd, if_neg (by simp), hn, if_neg hk]; simp [List.getD, hs]
      clear h hd hn hk hs
      go_enter Try.func56, Try.ntmps56
      go_wp2
      go_ret2
      exact ⟨by rw [HR.out]; rfl, (by simp (maxDischargeDepth := 60))⟩
  · rw [hd] at c4
    have HR : Hid (d.read k = (⟨#[]⟩, 9)) := by unfold Hid Ch.Disk.read; rw [hd, if_pos rfl]
    clear h hd hn
    go_enter Try.func56, Try.ntmps56
    go_wp2
    go_ret2
    exact ⟨by rw [HR.out]; rfl, (by simp (maxDischargeDepth := 60))⟩

set_option maxRecDepth 100000 in
set_option maxHeartbeats 2000000 in
theorem rwrite_bad {F : Nat → Prop} {db kb kc nb nc n : Nat} {wv : Value} {d : Ch.Disk} {w : World} (h : DiskInT RT RTT w F db kb kc nb nc n wv d) (k : Int) (s : ByteArray) (hs : s.size ≤ maxLen) (hbad : k < 0 ∨ (n : Int) ≤ k ∨ 64 < s.size) :
    Calls Try.prog 54 #[.pointer (some ⟨db, 0, none⟩), vi k, vs s] w fun e w' => e = .returned (vi 1) ∧ Ext w w' := by
  obtain ⟨c0, c1, c2, c3, c4⟩ := h.cells
  have hb := cell_lt c1
  have hnc := h.now.nc
  have hcm := h.now.cm
  unfold maxLen at hcm hs
  clear h
  by_cases h1 : k < 0
  · clear hbad
    go_enter Try.func54, Try.ntmps54
    go_wp2
    go_ret
    exact ⟨rfl, (by simp (maxDischargeDepth := 60))⟩
  · have h1' : 0 ≤ k := by omega
    by_cases h2 : (n : Int) ≤ k
    · clear hbad h1
      go_enter Try.func54, Try.ntmps54
      go_wp2
      go_ret
      exact ⟨rfl, (by simp (maxDischargeDepth := 60))⟩
    · have h2' : k < (n : Int) := by omega
      have h3 : 64 < s.size := by omega
      clear hbad h1 h2
      go_enter Try.func54, Try.ntmps54
      go_wp2
      go_ret
      exact ⟨rfl, (by simp (maxDischargeDepth := 60))⟩

set_option maxRecDepth 100000 in
set_option maxHeartbeats 2000000 in
theorem rwrite_down {F : Nat → Prop} {db kb kc nb nc n : Nat} {wv : Value} {d : Ch.Disk} {w : World} (h : DiskInT RT RTT w F db kb kc nb nc n wv d) (j : Nat) (s : ByteArray) (hj : j < n) (hs : s.size ≤ 64) (hd : d.stepErr = 9) :
    Calls Try.prog 54 #[.pointer (some ⟨db, 0, none⟩), vi (j : Int), vs s] w (DDidT RT RTT F db n w d.stepped (vi 9)) := by
  obtain ⟨c0, c1, c2, c3, c4⟩ := h.cells
  have hb := cell_lt c1
  have hnc := h.now.nc
  have hcm := h.now.cm
  have HD := Lib.hid h
  unfold maxLen at hcm
  clear h
  go_enter Try.func54, Try.ntmps54
  go_wp2_with (go_at_call 100; (with_reducible refine (rdstep_any (HD.out.ext (by simp (maxDischargeDepth := 60)))).mono ?_); rintro e w1 ⟨rfl, hq, hk⟩)
  go_ret
  exact DiskInT.did hq ((Kept.of_ext (by simp (maxDischargeDepth := 60))).trans hk)

theorem infoRTurn : (Try.prog.info? RTT).map (fun i => (i.zero, i.size, i.bytes)) = some (some (.agg #[vi 0, vs ⟨#[]⟩]), 2, 24) := by kernel_rfl

set_option maxRecDepth 100000 in
set_option maxHeartbeats 4000000 in
theorem rwrite_ok {F : Nat → Prop} {db kb kc nb nc n : Nat} {wv : Value} {d : Ch.Disk} {w : World} (h : DiskInT RT RTT w F db kb kc nb nc n wv d) (j : Nat) (s : ByteArray) (hj : j < n) (hs : s.size ≤ 64) (hd : d.stepErr = 0) (hl : d.wait.length ≤ 1000000) :
    Calls Try.prog 54 #[.pointer (some ⟨db, 0, none⟩), vi (j : Int), vs s] w (DDidT RT RTT F db n w (d.write (j : Int) s).1 (vi 0)) := by
  obtain ⟨i0, hi, hz0, hz1, hz2⟩ := info_parts infoRTurn
  obtain ⟨c0, c1, c2, c3, c4⟩ := h.cells
  have hb := cell_lt c1
  have hnc := h.now.nc
  have hcm := h.now.cm
  have HD := Lib.hid h
  have HN := Lib.hid h.wf.now
  unfold maxLen at hcm
  have HE : Hid (d.write (j : Int) s = ({ d.stepped with now := d.stepped.now.set j (Ch.fullS s), wait := d.stepped.wait ++ [(j, Ch.fullS s)] }, 0)) := by
    unfold Hid Ch.Disk.write
    have : ¬ d.stepped.down = true := by unfold Ch.Disk.stepErr at hd; split at hd <;> simp_all
    rw [if_neg (by have := HN.out; omega), if_neg this, Ch.stepped_now, Ch.stepped_wait]; simp
  have e1 : (64 : Int) - (s.size : Int) = ((64 - s.size : Nat) : Int) := by omega
  have E1 := Lib.hid e1
  have m3 : ¬ 9223372036854775807 < s.size + (Ch.zeros (64 - s.size)).size := by rw [Ch.zeros_size]; omega
  have nx : ∀ wx, Calls Try.prog 98 #[vi (64 - (s.size : Int))] wx fun e w' => e = .returned (vs (Ch.zeros (64 - s.size))) ∧ Ext wx w' := fun wx => by rw [e1]; exact noughts_any _ wx (by omega)
  have NX := Lib.hid nx
  have SF : Hid (s ++ Ch.zeros (64 - s.size) = Ch.fullS s) := rfl
  clear h nx e1
  go_enter Try.func54, Try.ntmps54
  go_upto_region 6 with (go_at_call 100; (with_reducible refine (rdstep_any (HD.out.ext (by simp (maxDischargeDepth := 60)))).mono ?_); rintro e w1 ⟨rfl, hq, hk⟩; rw [hd])
  obtain ⟨b0, b1, b2, b3, b4⟩ := hq.cells
  obtain ⟨x, hx⟩ : ∃ x, d.stepped.now[j]? = some x := ⟨d.stepped.now[j]'(by have := hq.wf.now; omega), by simp⟩
  have hc := hq.now.cell hx
  have fz := hq.now.free j
  have hbn := cell_lt hc
  have hbd := cell_lt b1
  have hlw : d.stepped.wait.length ≤ 1000000 := by rw [Ch.stepped_wait]; exact hl
  have HQ := Lib.hid hq
  have HK := Lib.hid hk
  generalize d.stepped = q at HQ hlw HE b3 b4 hx
  clear hq hk hl HN hx c0 c1 c2 c3 c4 HD
  go_upto_region 8 with (go_at_call 98; (with_reducible refine (NX.out _).mono ?_); rintro e wn ⟨rfl, on, nn, rfl⟩)
  rw [SF.out]
  generalize hW : World.setCell _ _ _ = w3
  have hq3 : DiskInT RT RTT w3 F db kb kc nb nc n wv { q with now := q.now.set j (Ch.fullS s) } := by
    rw [← hW]; exact (HQ.out.ext (by simp (maxDischargeDepth := 60))).wrote j _ (Ch.fullS_size hs)
  have hk3 : Kept F w w3 := by rw [← hW]; exact (HK.out.ext (by simp (maxDischargeDepth := 60))).setCell (Or.inl HQ.out.f3) _
  clear hW b0 b1 b2 b3 b4 hc fz hbn hbd HQ HK
  obtain ⟨b0, b1, b2, b3, b4⟩ := hq3.cells
  have hbd := cell_lt b1
  have fz := blk_free hq3.blk
  have HQ := Lib.hid hq3
  have HK := Lib.hid hk3
  have hown := Lib.hid (show w3.ownsRow 0 RTT 2 wv q.wait.length (q.wait.flatMap turnCells) from hq3.wait)
  have hne := Lib.hid hq3.n4
  clear hq3 hk3
  go_wp2_with (at_builtin; refine wpList_append_lies _ rfl _ _ _ rfl 0 RTT i0 _ 2 24 Try.underlying88 hi hz0 hz1 hz2 rfl (by decide) wv q.wait.length _ rfl (owns_alloc hown.out _) ⟨w3.heap.size, 0, none⟩ 1 1 [vi (j : Int), vs (Ch.fullS s)] rfl rfl (World.news_of_block (heap_alloc_new w3 _)) (by simp [Value.oneCell']) (by decide) (by unfold maxLen; omega) (by omega) (by omega) _ rfl ?_; intro gg cap w5 hown5 hgrow hat hlt; have s1 := gcell hgrow (xcell (w := w3) (by simp (maxDischargeDepth := 60)) b1) (fun e => (hne.out _ e).1 rfl); have s2 := gcell hgrow (xcell (w := w3) (by simp (maxDischargeDepth := 60)) b2) (fun e => (hne.out _ e).1 rfl); have s4 := gfree hgrow (by first | (simp; done) | (simp; omega)) (xfree (w := w3) (by simp (maxDischargeDepth := 60)) hbd (fz 2)) (fun e => (hne.out _ e).1 rfl))
  go_ret
  rw [HE.out]
  have hx3 : Ext w3 (w3.alloc (.cells #[vi (j : Int), vs (Ch.fullS s)] RTT)) := (by simp (maxDischargeDepth := 60))
  have hz3 := hx3.below.size
  refine ⟨rfl, ⟨fun k => F k ∨ some gg = some k, ⟨kb, kc, nb, nc, _, (HQ.out.ext hx3).waits (.slice (some ⟨gg, 0, none⟩) (q.wait.length + 1) cap) (j, Ch.fullS s) ⟨hj, Ch.fullS_size hs⟩ hown5 hgrow ?_⟩, ?_⟩, ?_⟩
  · intro k hk
    obtain rfl : gg = k := by simpa [Value.ownBlock] using hk
    rcases hat with hat | hat
    · exact Or.inl hat
    · rw [World.size_alloc] at hat
      exact Or.inr (by rw [World.size_alloc]; omega)
  · intro k hk
    rcases hk with hk | hk
    · exact Or.inl hk
    · obtain rfl : gg = k := by simpa using hk
      rcases hat with hat | hat
      · exact Or.inl (HQ.out.f4 _ hat)
      · have := HK.out.size
        rw [World.size_alloc] at hat
        exact Or.inr (by omega)
  · refine Kept.setCell ?_ (Or.inl HQ.out.f1) _
    exact HK.out.trans ((Kept.of_ext hx3).trans ⟨hgrow.os, hgrow.tape, hgrow.output, hgrow.size, fun k hk hs => hgrow.block k hk (fun e => hs (HQ.out.f4 k e.symm))⟩)

theorem rwrite_any {F : Nat → Prop} {db n : Nat} {d : Ch.Disk} {w : World} (h : DiskAtT RT RTT w F db n d) (k : Int) (s : ByteArray) (hs : s.size ≤ maxLen) (hl : d.wait.length ≤ 1000000) :
    Calls Try.prog 54 #[.pointer (some ⟨db, 0, none⟩), vi k, vs s] w (DDidT RT RTT F db n w (d.write k s).1 (vi (d.write k s).2)) := by
  obtain ⟨kb, kc, nb, nc, wv, h⟩ := h
  have hn := h.wf.now
  by_cases hb : k < 0 ∨ (n : Int) ≤ k ∨ 64 < s.size
  · have e : d.write k s = (d, 1) := by unfold Ch.Disk.write; rw [hn, if_pos hb]
    rw [e]
    refine (rwrite_bad h k s hs hb).mono ?_
    rintro e w' ⟨rfl, hx⟩
    exact DiskInT.did (h.ext hx) (Kept.of_ext hx)
  · obtain ⟨j, rfl⟩ : ∃ j : Nat, k = (j : Int) := ⟨k.toNat, by omega⟩
    by_cases hd : d.stepped.down = true
    · have e : d.write (j : Int) s = (d.stepped, 9) := by unfold Ch.Disk.write; rw [hn, if_neg hb, if_pos hd]
      rw [e]
      exact rwrite_down h j s (by omega) (by omega) (by unfold Ch.Disk.stepErr; rw [if_pos hd])
    · have e : (d.write (j : Int) s).2 = 0 := by unfold Ch.Disk.write; rw [hn, if_neg hb, if_neg hd]
      rw [e]
      exact rwrite_ok h j s (by omega) (by omega) (by unfold Ch.Disk.stepErr; rw [if_neg hd]) hl

end Go.Proofs.Ytplomeacjbkgnaa
