/-
  The walks of disk.Write (whatever comes), disk.Flush.
-/
import Derived.Test.YtplomeacjbkgnaaDisk3
import Derived.Laws.CopyOwn
namespace Go.Proofs.Ytplomeacjbkgnaa
open Go.RowKit
variable {T TT : TypeId}

theorem write_any {F : Nat → Prop} {db n : Nat} {d : Ch.Disk} {w : World} (h : DiskAt w F db n d) (k : Int) (s : ByteArray) (hs : s.size ≤ maxLen) (hl : d.wait.length ≤ 1000000) :
    Calls Try.prog 53 #[.pointer (some ⟨db, 0, none⟩), vi k, vs s] w (DDid F db n w (d.write k s).1 (errV (d.write k s).2)) := by
  obtain ⟨kb, kc, nb, nc, wv, h⟩ := h
  have hn := h.wf.now
  by_cases hb : k < 0 ∨ (n : Int) ≤ k ∨ 64 < s.size
  · have e : d.write k s = (d, 1) := by unfold Ch.Disk.write; rw [hn, if_pos hb]
    rw [e]
    refine (write_bad h k s hs hb).mono ?_
    rintro e w' ⟨rfl, hx⟩
    exact DiskInT.did (h.ext hx) (Kept.of_ext hx)
  · obtain ⟨j, rfl⟩ : ∃ j : Nat, k = (j : Int) := ⟨k.toNat, by omega⟩
    by_cases hd : d.stepped.down = true
    · have e : d.write (j : Int) s = (d.stepped, 9) := by unfold Ch.Disk.write; rw [hn, if_neg hb, if_pos hd]
      rw [e]
      exact write_down h j s (by omega) (by omega) (by unfold Ch.Disk.stepErr; rw [if_pos hd])
    · have e : (d.write (j : Int) s).2 = 0 := by unfold Ch.Disk.write; rw [hn, if_neg hb, if_neg hd]
      rw [e]
      exact write_ok h j s (by omega) (by omega) (by unfold Ch.Disk.stepErr; rw [if_neg hd]) hl

theorem infoStr : (Try.prog.info? 9).map (·.size) = some 1 := by kernel_rfl

/-- a row that another one was copied over -/
theorem StrRow.copied {w : World} {g n c : Nat} {l m : List ByteArray} {cur : Array Value} (h1 : w.heap[g]? = some (.cells cur 9 (0, 0))) (h2 : cur.size = c) (hn : n ≤ c) (hc : c ≤ maxLen) (hm : m.length = n) :
    StrRow (w.setRow g (cur.toList.take 0 ++ (m.map vs ++ cur.toList.drop (0 + (m.map vs).length))).toArray) g n c m := by
  refine ⟨hm, hn, hc, _, setRow_heap w g cur _ 9 _ h1, by simp; omega, ?_⟩
  simp [hm]

theorem StrRow.src {w : World} {g n c : Nat} {l : List ByteArray} (h : StrRow w g n c l) : ∀ j v, (l.map vs)[j]? = some v → w.cell? ((⟨g, 0, none⟩ : Addr).add j) = some v := by
  intro j v hj
  rw [List.getElem?_map] at hj
  cases hs : l[j]? with
  | none => rw [hs] at hj; cases hj
  | some s =>
    rw [hs] at hj
    obtain rfl : vs s = v := by simpa using hj
    have e : (⟨g, 0, none⟩ : Addr).add j = ⟨g, j, none⟩ := by unfold Addr.add; split <;> simp_all
    rw [e]; exact h.cell hs

theorem setRow_ne {w : World} {g k : Nat} {cs : Array Value} (h : k ≠ g) : (w.setRow g cs).heap[k]? = w.heap[k]? := setRow_other w g k cs h

/-- all is kept: the row of what is kept is what is now -/
theorem DiskInT.copy_kept {w : World} {F : Nat → Prop} {db kb kc nb nc n : Nat} {wv : Value} {d : Ch.Disk} (h : DiskInT T TT w F db kb kc nb nc n wv d) {cur : Array Value} (h1 : w.heap[kb]? = some (.cells cur 9 (0, 0))) (h2 : cur.size = kc) :
    DiskInT T TT (w.setRow kb (cur.toList.take 0 ++ (d.now.map vs ++ cur.toList.drop (0 + (d.now.map vs).length))).toArray) F db kb kc nb nc n wv { d with kept := d.now } where
  blk := (setRow_ne h.n1).trans h.blk
  kept := StrRow.copied (l := d.kept) h1 h2 h.kept.nc h.kept.cm h.wf.now
  now := h.now.same (setRow_ne (fun e => h.n3 e.symm))
  wait := owns_same h.wait (fun k hk => setRow_ne (h.n4 k hk).2.1)
  f1 := h.f1
  f2 := h.f2
  f3 := h.f3
  f4 := h.f4
  n1 := h.n1
  n2 := h.n2
  n3 := h.n3
  n4 := h.n4
  lt := fun k hk => by have := h.lt k hk; simpa [World.setRow] using this
  wf := ⟨h.wf.now, h.wf.now, h.wf.nowS, h.wf.nowS, h.wf.wait, h.wf.fuse, h.wf.fuse2⟩

/-- what is now is what is kept -/
theorem DiskInT.copy_now {w : World} {F : Nat → Prop} {db kb kc nb nc n : Nat} {wv : Value} {d : Ch.Disk} (h : DiskInT T TT w F db kb kc nb nc n wv d) {cur : Array Value} (h1 : w.heap[nb]? = some (.cells cur 9 (0, 0))) (h2 : cur.size = nc) :
    DiskInT T TT (w.setRow nb (cur.toList.take 0 ++ (d.kept.map vs ++ cur.toList.drop (0 + (d.kept.map vs).length))).toArray) F db kb kc nb nc n wv { d with now := d.kept } where
  blk := (setRow_ne h.n2).trans h.blk
  kept := h.kept.same (setRow_ne h.n3)
  now := StrRow.copied (l := d.now) h1 h2 h.now.nc h.now.cm h.wf.kept
  wait := owns_same h.wait (fun k hk => setRow_ne (h.n4 k hk).2.2)
  f1 := h.f1
  f2 := h.f2
  f3 := h.f3
  f4 := h.f4
  n1 := h.n1
  n2 := h.n2
  n3 := h.n3
  n4 := h.n4
  lt := fun k hk => by have := h.lt k hk; simpa [World.setRow] using this
  wf := ⟨h.wf.kept, h.wf.kept, h.wf.keptS, h.wf.keptS, h.wf.wait, h.wf.fuse, h.wf.fuse2⟩

theorem Kept.setRow {S : Nat → Prop} {w w' : World} (h : Kept S w w') {b : Nat} (hb : S b) (cs : Array Value) : Kept S w (w'.setRow b cs) :=
  ⟨h.os, h.tape, h.output, by simpa [World.setRow] using h.size, fun k hk hs => (setRow_ne (fun e => hs (by rw [e]; exact hb))).trans (h.block k hk hs)⟩

/-- nothing waits -/
theorem DiskInT.calmed {w : World} {F : Nat → Prop} {db kb kc nb nc n : Nat} {wv : Value} {d : Ch.Disk} (h : DiskInT T TT w F db kb kc nb nc n wv d) :
    DiskInT T TT (w.setCell ⟨db, 2, none⟩ (.slice none 0 0)) F db kb kc nb nc n (.slice none 0 0) { d with wait := [] } where
  blk := by rw [setCell_block h.blk]; rfl
  kept := h.kept.same (setCell_other (fun e => h.n1 e.symm))
  now := h.now.same (setCell_other (fun e => h.n2 e.symm))
  wait := World.ownsRow_nil _ _ _ _
  f1 := h.f1
  f2 := h.f2
  f3 := h.f3
  f4 := fun k hk => by cases hk
  n1 := h.n1
  n2 := h.n2
  n3 := h.n3
  n4 := fun k hk => by cases hk
  lt := fun k hk => by rw [setCell_size]; exact h.lt k hk
  wf := ⟨h.wf.kept, h.wf.now, h.wf.keptS, h.wf.nowS, by simp, h.wf.fuse, h.wf.fuse2⟩

theorem oneStr (l : List ByteArray) : ∀ v ∈ l.map vs, v.oneCell' = true := by
  intro v hv
  obtain ⟨s, _, rfl⟩ := List.mem_map.1 hv
  rfl

set_option maxRecDepth 100000 in
set_option maxHeartbeats 2000000 in
theorem flush_any {F : Nat → Prop} {db n : Nat} {d : Ch.Disk} {w : World} (h : DiskAt w F db n d) :
    Calls Try.prog 57 #[.pointer (some ⟨db, 0, none⟩)] w (DDid F db n w d.flush.1 (errV d.flush.2)) := by
  obtain ⟨kb, kc, nb, nc, wv, h⟩ := h
  have HD := Lib.hid h
  clear h
  by_cases hd : d.stepped.down = true
  · have e : d.flush = (d.stepped, 9) := by unfold Ch.Disk.flush; rw [if_pos hd]
    have he : errV d.stepErr = .iface 133 (vi 9) := by unfold Ch.Disk.stepErr; rw [if_pos hd]; rfl
    have HE := Lib.hid e
    clear e hd
    go_enter Try.func57, Try.ntmps57
    go_wp2_with (go_at_call 99; (with_reducible refine (dstep_any (HD.out.ext (by simp (maxDischargeDepth := 60)))).mono ?_); rintro e w1 ⟨rfl, hq, hk⟩)
    go_ret
    rw [HE.out]
    exact DiskInT.did hq ((Kept.of_ext (by simp (maxDischargeDepth := 60))).trans hk)
  · have e : d.flush = ({ d.stepped with kept := d.stepped.now, wait := [] }, 0) := by unfold Ch.Disk.flush; rw [if_neg hd, Ch.stepped_now]
    have he : errV d.stepErr = .nilIface := by unfold Ch.Disk.stepErr; rw [if_neg hd]; rfl
    have HE := Lib.hid e
    clear e hd
    go_enter Try.func57, Try.ntmps57
    go_upto_region 3 with (go_at_call 99; (with_reducible refine (dstep_any (HD.out.ext (by simp (maxDischargeDepth := 60)))).mono ?_); rintro e w1 ⟨rfl, hq, hk⟩)
    obtain ⟨b0, b1, b2, b3, b4⟩ := hq.cells
    have hbd := cell_lt b1
    have HQ := Lib.hid hq
    have HK := Lib.hid hk
    generalize d.stepped = q at HQ HE b3 b4
    clear hq hk HD
    (refine wp_region_tail_ext 8 (by kernel_rfl) (by kernel_rfl) ?_; (simp only [List.take_succ_cons, List.take_zero, List.drop_succ_cons, List.drop_zero]); (repeat (first | go_big_quiet_step (fail) | quiet_step (fail))); refine wpQuiet_nil ?_; intro _ hw'; obtain ⟨oq, nq, hw''⟩ := hw'; subst hw'')
    obtain ⟨cur, hc1, hc2, hc3⟩ := (HQ.out.ext (w' := World.plus w1 oq nq) (by simp (maxDischargeDepth := 60))).kept.heap
    have hcm := HQ.out.kept.nc
    have hn := HQ.out.wf.now
    have H1 := Lib.hid hc1
    refine wpList_copy_own rfl _ _ _ _ rfl 9 Try.underlying87 infoStr kb 0 n kc ⟨nb, 0, none⟩ n nc rfl rfl cur 9 hc1 (q.now.map vs) (by simp [hn]) (HQ.out.ext (w' := World.plus w1 oq nq) (by simp (maxDischargeDepth := 60))).now.src (by simp [hn]; omega) (oneStr _) ?_
    have hq2 := (HQ.out.ext (w' := World.plus w1 oq nq) (by simp (maxDischargeDepth := 60))).copy_kept hc1 hc2
    have hk2 : Kept F w ((World.plus w1 oq nq).setRow kb (cur.toList.take 0 ++ (q.now.map vs ++ cur.toList.drop (0 + (q.now.map vs).length))).toArray) := (HK.out.ext (by simp (maxDischargeDepth := 60))).setRow HQ.out.f2 _
    generalize (World.plus w1 oq nq).setRow kb (cur.toList.take 0 ++ (q.now.map vs ++ cur.toList.drop (0 + (q.now.map vs).length))).toArray = w4 at hq2 hk2 ⊢
    clear hc1 hc2 hc3 b0 b1 b2 b3 b4
    obtain ⟨b0, b1, b2, b3, b4⟩ := hq2.cells
    have fz := blk_free hq2.blk
    have hbd := cell_lt b1
    have HQ2 := Lib.hid hq2
    clear hq2
    go_wp2
    go_ret
    rw [HE.out]
    exact DiskInT.did HQ2.out.calmed (hk2.setCell (Or.inl HQ.out.f1) _)

end Go.Proofs.Ytplomeacjbkgnaa
