/-
  The walk of disk.Restart.
-/
import Derived.Test.YtplomeacjbkgnaaDisk4
import Derived.Laws.Bits64b
namespace Go.Proofs.Ytplomeacjbkgnaa
open Go.RowKit
variable {T TT : TypeId}

/-- what was written, and waits, is kept -/
theorem DiskInT.keeps {w : World} {F : Nat → Prop} {db kb kc nb nc n : Nat} {wv : Value} {d : Ch.Disk} (h : DiskInT T TT w F db kb kc nb nc n wv d) (j : Nat) (s : ByteArray) (hs : s.size = 64) :
    DiskInT T TT (w.setCell ⟨kb, j, none⟩ (vs s)) F db kb kc nb nc n wv { d with kept := d.kept.set j s } where
  blk := (setCell_other h.n1).trans h.blk
  kept := h.kept.set j s
  now := h.now.same (setCell_other (fun e => h.n3 e.symm))
  wait := owns_same h.wait (fun k hk => setCell_other (h.n4 k hk).2.1)
  f1 := h.f1
  f2 := h.f2
  f3 := h.f3
  f4 := h.f4
  n1 := h.n1
  n2 := h.n2
  n3 := h.n3
  n4 := h.n4
  lt := fun k hk => by rw [setCell_size]; exact h.lt k hk
  wf := ⟨by simp [h.wf.kept], h.wf.now, (fun x hx => by rcases List.mem_or_eq_of_mem_set hx with hx | rfl; exact h.wf.keptS x hx; exact hs), h.wf.nowS, h.wf.wait, h.wf.fuse, h.wf.fuse2⟩

/-- so far: of what waited the first k are looked at -/
def keptAt (d : Ch.Disk) (keep k : Nat) : Ch.Disk := { d with kept := Ch.keptOf keep 0 (d.wait.take k) d.kept }

structure Resumed (w wr : World) (F : Nat → Prop) (db kb kc nb nc n : Nat) (wv : Value) (d : Ch.Disk) (keep k : Nat) : Prop where
  at_ : DiskIn wr F db kb kc nb nc n wv (keptAt d keep k)
  kept : Kept F w wr

theorem bit_is (keep k : Nat) (h : keep < 18446744073709551616) : (bits .and .u64 ((keep : Int) / 2 ^ (k % 64)) 1 == 1) = Ch.keepBit keep k := by
  have e : ((keep : Int) / 2 ^ (k % 64)) = ((keep / 2 ^ (k % 64) : Nat) : Int) := by push_cast; rfl
  have hlt : keep / 2 ^ (k % 64) < 18446744073709551616 := Nat.lt_of_le_of_lt (Nat.div_le_self _ _) h
  have h1 := bits_and_u64_nat (keep / 2 ^ (k % 64)) 1 hlt (by decide)
  rw [e]
  have h2 : bits .and .u64 ((keep / 2 ^ (k % 64) : Nat) : Int) 1 = (((keep / 2 ^ (k % 64)) % 2 : Nat) : Int) := by
    rw [← Nat.and_one_is_mod]; exact h1
  rw [h2]
  unfold Ch.keepBit
  have : (keep / 2 ^ (k % 64)) % 2 = 0 ∨ (keep / 2 ^ (k % 64)) % 2 = 1 := by omega
  rcases this with e | e <;> rw [e] <;> rfl

theorem keptAt_no {d : Ch.Disk} {keep k : Nat} {t : Nat × ByteArray} (h : d.wait[k]? = some t) (hb : Ch.keepBit keep k = false) : keptAt d keep (k + 1) = keptAt d keep k := by
  unfold keptAt; rw [Ch.keptOf_take keep h, hb]; rfl

theorem keptAt_yes {d : Ch.Disk} {keep k : Nat} {t : Nat × ByteArray} (h : d.wait[k]? = some t) (hb : Ch.keepBit keep k = true) : keptAt d keep (k + 1) = { keptAt d keep k with kept := (keptAt d keep k).kept.set t.1 t.2 } := by
  unfold keptAt; rw [Ch.keptOf_take keep h, hb]; rfl

set_option maxRecDepth 100000 in
set_option maxHeartbeats 2000000 in
theorem restart_any {F : Nat → Prop} {db n : Nat} {d : Ch.Disk} {w : World} (h : DiskAt w F db n d) (keep : Nat) (hk : keep < 18446744073709551616) (hl : d.wait.length ≤ 1000000) :
    Calls Try.prog 60 #[.pointer (some ⟨db, 0, none⟩), .int .u64 (keep : Int)] w (DDid F db n w (d.restart keep) (.tuple #[])) := by
  obtain ⟨kb, kc, nb, nc, wv, h⟩ := h
  obtain ⟨a, cap, rfl, hs⟩ := Sl.of_owns h.wait (by decide) (fun _ => rfl)
  have hbd := hs.bound
  obtain ⟨c0, c1, c2, c3, c4⟩ := h.cells
  have hb := cell_lt c1
  have R0 : Resumed w w F db kb kc nb nc n _ d keep 0 := ⟨h, Kept.refl _ _⟩
  have HR0 := Lib.hid R0
  generalize hm : d.wait.length = m at *
  clear h hs R0
  go_enter Try.func60, Try.ntmps60
  go_wp2
  go_loopw [11] (fun i wr => ∃ k : Nat, k ≤ m ∧ i = .int .i64 k ∧ Resumed w wr F db kb kc nb nc n (.slice a m cap) d keep k) (fun i _ => m - (intOf i).toNat)
  case atStart => exact ⟨0, by omega, rfl, HR0.out⟩
  case round =>
    obtain ⟨k, hkm, rfl, hr⟩ := hrel
    by_cases hlt : k < m
    · obtain ⟨a', cap', e1, hs⟩ := Sl.of_owns (l := d.wait) (enc := turnCells) hr.at_.wait (by decide) (fun _ => rfl)
      obtain ⟨rfl, rfl⟩ : a = a' ∧ cap = cap' := by
        simp only [Value.slice.injEq] at e1
        exact ⟨e1.1, e1.2.2⟩
      have hs : Sl wr 2 turnCells d.wait a m cap := by rw [← hm]; exact hs
      obtain ⟨b, o, t, rfl, ht, dx⟩ := hs.get hlt
      have dx := at2 dx
      have hbl := cell_lt dx.1
      have HR := Lib.hid hr
      have HT := Lib.hid ht
      have hw := hr.at_.wf.wait t (List.mem_of_getElem? ht)
      clear hr hs e1 ht c0 c1 c2 c3 c4 hb
      have hbit := bit_is keep k hk
      obtain ⟨x, hx⟩ : ∃ x, (keptAt d keep k).kept[t.1]? = some x := ⟨(keptAt d keep k).kept[t.1]'(by have := HR.out.at_.wf.kept; omega), by simp⟩
      have hc := HR.out.at_.kept.cell hx
      have fz := HR.out.at_.kept.free t.1
      have hbn := cell_lt hc
      obtain ⟨c0, c1, c2, c3, c4⟩ := HR.out.at_.cells
      have hbd2 := cell_lt c1
      clear hx
      cases hkb : Ch.keepBit keep k
      · have HB := Lib.hid hkb
        rw [hkb] at hbit
        clear hkb
        go_wp2
        go_roundw
        case rel => exact ⟨k + 1, by omega, by go_num, ⟨by rw [keptAt_no HT.out HB.out]; exact HR.out.at_.ext (by simp (maxDischargeDepth := 60)), HR.out.kept.ext (by simp (maxDischargeDepth := 60))⟩⟩
        case measure => simp [intOf]; omega
      · have HB := Lib.hid hkb
        rw [hkb] at hbit
        clear hkb
        go_wp2
        (refine wp_region_tail_ext 9 (by kernel_rfl) (by kernel_rfl) ?_; (simp only [List.take_succ_cons, List.take_zero, List.drop_succ_cons, List.drop_zero]); (repeat (first | go_big_quiet_step (fail) | quiet_step (fail))); refine wpQuiet_nil ?_; intro _ hw'; obtain ⟨oq, nq, hw''⟩ := hw'; subst hw'')
        go_wp2
        go_roundw
        case rel => exact ⟨k + 1, by omega, by go_num, ⟨by rw [keptAt_yes HT.out HB.out]; exact (HR.out.at_.ext (by simp (maxDischargeDepth := 60))).keeps _ _ hw.2, (HR.out.kept.ext (by simp (maxDischargeDepth := 60))).setCell (Or.inl HR.out.at_.f2) _⟩⟩
        case measure => simp [intOf]; omega
    · obtain rfl : k = m := by omega
      obtain ⟨c0, c1, c2, c3, c4⟩ := hr.at_.cells
      have hbd2 := cell_lt c1
      have HE : Hid (d.restart keep = { keptAt d keep k with now := (keptAt d keep k).kept, wait := [], fuse := -1, down := false }) := by
        unfold Hid keptAt Ch.Disk.restart
        rw [List.take_of_length_le (by omega)]
      have HA := Lib.hid hr.at_
      have HKP := Lib.hid hr.kept
      clear hr
      generalize keptAt d keep k = q at HA HE c3 c4
      go_upto_region 6 with fail
      (refine wp_region_tail_ext 8 (by kernel_rfl) (by kernel_rfl) ?_; (simp only [List.take_succ_cons, List.take_zero, List.drop_succ_cons, List.drop_zero]); (repeat (first | go_big_quiet_step (fail) | quiet_step (fail))); refine wpQuiet_nil ?_; intro _ hw'; obtain ⟨oq, nq, hw''⟩ := hw'; subst hw'')
      have hq := HA.out.ext (w' := World.plus wr oq nq) (by simp (maxDischargeDepth := 60))
      obtain ⟨cur, hc1, hc2, hc3⟩ := hq.now.heap
      have hn := hq.wf.kept
      have hnc := hq.now.nc
      refine wpList_copy_own rfl _ _ _ _ rfl 9 Try.underlying87 infoStr nb 0 n nc ⟨kb, 0, none⟩ n kc rfl rfl cur 9 hc1 (q.kept.map vs) (by simp [hn]) hq.kept.src (by simp [hn]; omega) (oneStr _) ?_
      have hq2 := hq.copy_now hc1 hc2
      have hk2 : Kept F w ((World.plus wr oq nq).setRow nb (cur.toList.take 0 ++ (q.kept.map vs ++ cur.toList.drop (0 + (q.kept.map vs).length))).toArray) := (HKP.out.ext (by simp (maxDischargeDepth := 60))).setRow hq.f3 _
      generalize (World.plus wr oq nq).setRow nb (cur.toList.take 0 ++ (q.kept.map vs ++ cur.toList.drop (0 + (q.kept.map vs).length))).toArray = w4 at hq2 hk2 ⊢
      have f1 := hq.f1
      clear hc1 hc2 hc3 c0 c1 c2 c3 c4 hq
      obtain ⟨b0, b1, b2, b3, b4⟩ := hq2.cells
      have fz := blk_free hq2.blk
      have hbd := cell_lt b1
      have HQ2 := Lib.hid hq2
      clear hq2
      go_wp2
      go_end0
      rw [HE.out]
      have z1 := HQ2.out.calmed
      have z2 := z1.put (e := { q with now := q.kept, wait := [], down := false }) 4 (.bool false) (by simp) rfl rfl rfl ⟨z1.wf.kept, z1.wf.now, z1.wf.keptS, z1.wf.nowS, z1.wf.wait, z1.wf.fuse, z1.wf.fuse2⟩
      have z3 := z2.put (e := { q with now := q.kept, wait := [], fuse := -1, down := false }) 3 (vi (-1)) (by simp) rfl rfl rfl ⟨z1.wf.kept, z1.wf.now, z1.wf.keptS, z1.wf.nowS, z1.wf.wait, by simp, by simp⟩
      exact DiskInT.did z3 (((hk2.setCell (Or.inl f1) _).setCell (Or.inl f1) _).setCell (Or.inl f1) _)

end Go.Proofs.Ytplomeacjbkgnaa
