/-
  The walks of package disk: a disk in memory, what is read, what is done to it.
-/
import Derived.Test.YtplomeacjbkgnaaTower
import Derived.Test.YtplomeacjbkgnaaRegion
import Derived.Test.YtplomeacjbkgnaaKept
import Derived.Test.YtplomeacjbkgnaaDiskLaw
import Derived.Deep.OwnRows
import Derived.Deep.RegionHeld3
import Derived.IntWalk
namespace Go.Proofs.Ytplomeacjbkgnaa
open Go.RowKit

abbrev vs (s : ByteArray) : Value := .string s

def turnCells (t : Nat × ByteArray) : List Value := [vi (t.1 : Int), vs t.2]

/-- the disk's cells -/
abbrev diskCells (kb kc nb nc n : Nat) (wv : Value) (d : Ch.Disk) : Array Value := #[.slice (some ⟨kb, 0, none⟩) n kc, .slice (some ⟨nb, 0, none⟩) n nc, wv, vi d.fuse, .bool d.down]

/-- a row of strings in a block -/
structure StrRow (w : World) (g n c : Nat) (l : List ByteArray) : Prop where
  len : l.length = n
  nc : n ≤ c
  cm : c ≤ maxLen
  heap : ∃ cur : Array Value, w.heap[g]? = some (.cells cur 9 (0, 0)) ∧ cur.size = c ∧ cur.toList.take n = l.map vs

/-- a disk in memory: in which blocks, n sectors -/
structure DiskInT (T TT : TypeId) (w : World) (F : Nat → Prop) (db kb kc nb nc n : Nat) (wv : Value) (d : Ch.Disk) : Prop where
  blk : w.heap[db]? = some (.cells (diskCells kb kc nb nc n wv d) T (0, 0))
  kept : StrRow w kb n kc d.kept
  now : StrRow w nb n nc d.now
  wait : w.ownsRow 0 TT 2 wv d.wait.length (d.wait.flatMap turnCells)
  f1 : F db
  f2 : F kb
  f3 : F nb
  f4 : ∀ k, wv.ownBlock = some k → F k
  n1 : db ≠ kb
  n2 : db ≠ nb
  n3 : kb ≠ nb
  n4 : ∀ k, wv.ownBlock = some k → k ≠ db ∧ k ≠ kb ∧ k ≠ nb
  lt : ∀ k, F k → k < w.heap.size
  wf : d.WF n

/-- a disk in memory, with the blocks that it has -/
def DiskAtT (T TT : TypeId) (w : World) (F : Nat → Prop) (db n : Nat) (d : Ch.Disk) : Prop := ∃ kb kc nb nc wv, DiskInT T TT w F db kb kc nb nc n wv d

/-- the program's own -/
abbrev DiskIn := DiskInT 141 144

abbrev DiskAt := DiskAtT 141 144

variable {T TT : TypeId}

theorem blk_cell {w : World} {b : Nat} {cs : Array Value} {t : TypeId} {i : Nat} {v : Value} (h : w.heap[b]? = some (.cells cs t (0, 0))) (hi : cs[i]? = some v) : w.cell? ⟨b, i, none⟩ = some v := by
  simp [World.cell?, h, hi]

theorem blk_free {w : World} {b : Nat} {cs : Array Value} {t : TypeId} (h : w.heap[b]? = some (.cells cs t (0, 0))) (i : Nat) : w.frozen? ⟨b, i, none⟩ = false := by
  simp [World.frozen?, h]

theorem blk_lt {w : World} {b : Nat} {o : Obj} (h : w.heap[b]? = some o) : b < w.heap.size := by
  by_cases hb : b < w.heap.size
  · exact hb
  · rw [Array.getElem?_eq_none (Nat.le_of_not_lt hb)] at h; cases h

theorem StrRow.same {w w' : World} {g n c : Nat} {l : List ByteArray} (h : StrRow w g n c l) (e : w'.heap[g]? = w.heap[g]?) : StrRow w' g n c l :=
  ⟨h.len, h.nc, h.cm, let ⟨cur, h1, h2, h3⟩ := h.heap; ⟨cur, e.trans h1, h2, h3⟩⟩

theorem StrRow.cell {w : World} {g n c : Nat} {l : List ByteArray} (h : StrRow w g n c l) {k : Nat} {s : ByteArray} (hs : l[k]? = some s) : w.cell? ⟨g, k, none⟩ = some (vs s) := by
  obtain ⟨cur, h1, h2, h3⟩ := h.heap
  have hk : k < n := by
    have := h.len
    by_cases hk : k < l.length
    · omega
    · rw [List.getElem?_eq_none (by omega)] at hs; cases hs
  refine blk_cell h1 ?_
  have : (cur.toList.take n)[k]? = some (vs s) := by rw [h3, List.getElem?_map, hs]; rfl
  rw [List.getElem?_take, if_pos hk] at this
  simpa using this

theorem StrRow.free {w : World} {g n c : Nat} {l : List ByteArray} (h : StrRow w g n c l) (k : Nat) : w.frozen? ⟨g, k, none⟩ = false := by
  obtain ⟨cur, h1, _, _⟩ := h.heap
  exact blk_free h1 k

theorem StrRow.lt {w : World} {g n c : Nat} {l : List ByteArray} (h : StrRow w g n c l) : g < w.heap.size := by
  obtain ⟨cur, h1, _, _⟩ := h.heap
  exact blk_lt h1

theorem StrRow.set {w : World} {g n c : Nat} {l : List ByteArray} (h : StrRow w g n c l) (k : Nat) (s : ByteArray) : StrRow (w.setCell ⟨g, k, none⟩ (vs s)) g n c (l.set k s) := by
  obtain ⟨cur, h1, h2, h3⟩ := h.heap
  refine ⟨by simp [h.len], h.nc, h.cm, cur.setIfInBounds k (vs s), setCell_block h1, by simpa using h2, ?_⟩
  rw [Array.toList_setIfInBounds, List.take_set, h3, List.map_set]

theorem owns_same {w w' : World} {base e size : Nat} {v : Value} {n : Nat} {xs : List Value} (h : w.ownsRow base e size v n xs) (he : ∀ k, v.ownBlock = some k → w'.heap[k]? = w.heap[k]?) : w'.ownsRow base e size v n xs := by
  refine ⟨h.1, ?_⟩
  rcases h.2 with h2 | ⟨g, cap, cur, hv, hb, hg, r⟩
  · exact .inl h2
  · exact .inr ⟨g, cap, cur, hv, hb, (he g (by rw [hv]; rfl)).trans hg, r⟩

/-- another world in which the disk's blocks are the same -/
theorem DiskInT.same {w w' : World} {F : Nat → Prop} {db kb kc nb nc n : Nat} {wv : Value} {d : Ch.Disk} (h : DiskInT T TT w F db kb kc nb nc n wv d) (hs : ∀ k, F k → w'.heap[k]? = w.heap[k]?) (hz : w.heap.size ≤ w'.heap.size) : DiskInT T TT w' F db kb kc nb nc n wv d :=
  { h with
    blk := (hs db h.f1).trans h.blk
    kept := h.kept.same (hs kb h.f2)
    now := h.now.same (hs nb h.f3)
    wait := owns_same h.wait (fun k hk => hs k (h.f4 k hk))
    lt := fun k hk => Nat.lt_of_lt_of_le (h.lt k hk) hz }

theorem DiskInT.ext {w w' : World} {F : Nat → Prop} {db kb kc nb nc n : Nat} {wv : Value} {d : Ch.Disk} (h : DiskInT T TT w F db kb kc nb nc n wv d) (e : Ext w w') : DiskInT T TT w' F db kb kc nb nc n wv d := by
  have hb := e.below
  exact h.same (fun k hk => hb.block k (h.lt k hk)) hb.size

theorem DiskAtT.ext {w w' : World} {F : Nat → Prop} {db n : Nat} {d : Ch.Disk} (h : DiskAtT T TT w F db n d) (e : Ext w w') : DiskAtT T TT w' F db n d := by
  obtain ⟨kb, kc, nb, nc, wv, h⟩ := h
  exact ⟨kb, kc, nb, nc, wv, h.ext e⟩

/-- what is done elsewhere leaves a disk as it is -/
theorem DiskAtT.kept {w w' : World} {F S : Nat → Prop} {db n : Nat} {d : Ch.Disk} (h : DiskAtT T TT w F db n d) (k : Kept S w w') (hs : ∀ b, F b → ¬ S b) : DiskAtT T TT w' F db n d := by
  obtain ⟨kb, kc, nb, nc, wv, h⟩ := h
  exact ⟨kb, kc, nb, nc, wv, h.same (fun b hb => k.block b (h.lt b hb) (hs b hb)) k.size⟩

theorem DiskInT.cells {w : World} {F : Nat → Prop} {db kb kc nb nc n : Nat} {wv : Value} {d : Ch.Disk} (h : DiskInT T TT w F db kb kc nb nc n wv d) :
    w.cell? ⟨db, 0, none⟩ = some (.slice (some ⟨kb, 0, none⟩) n kc) ∧ w.cell? ⟨db, 1, none⟩ = some (.slice (some ⟨nb, 0, none⟩) n nc) ∧ w.cell? ⟨db, 2, none⟩ = some wv ∧ w.cell? ⟨db, 3, none⟩ = some (vi d.fuse) ∧ w.cell? ⟨db, 4, none⟩ = some (.bool d.down) :=
  ⟨blk_cell h.blk rfl, blk_cell h.blk rfl, blk_cell h.blk rfl, blk_cell h.blk rfl, blk_cell h.blk rfl⟩

/-- the fields turn, the rows stay -/
theorem DiskInT.put {w : World} {F : Nat → Prop} {db kb kc nb nc n : Nat} {wv : Value} {d e : Ch.Disk} (h : DiskInT T TT w F db kb kc nb nc n wv d) (i : Nat) (v : Value) (hq : (diskCells kb kc nb nc n wv d).setIfInBounds i v = diskCells kb kc nb nc n wv e)
    (h1 : e.kept = d.kept) (h2 : e.now = d.now) (h3 : e.wait = d.wait) (hw : e.WF n) : DiskInT T TT (w.setCell ⟨db, i, none⟩ v) F db kb kc nb nc n wv e where
  blk := by rw [setCell_block h.blk, hq]
  kept := h1 ▸ h.kept.same (setCell_other (fun e => h.n1 e.symm))
  now := h2 ▸ h.now.same (setCell_other (fun e => h.n2 e.symm))
  wait := h3 ▸ owns_same h.wait (fun k hk => setCell_other (h.n4 k hk).1)
  f1 := h.f1
  f2 := h.f2
  f3 := h.f3
  f4 := h.f4
  n1 := h.n1
  n2 := h.n2
  n3 := h.n3
  n4 := h.n4
  lt := fun k hk => by rw [setCell_size]; exact h.lt k hk
  wf := hw

/-- what becomes of a disk -/
def DDidT (T TT : TypeId) (F : Nat → Prop) (db n : Nat) (w : World) (d' : Ch.Disk) (r : Value) (e : Ending) (w' : World) : Prop :=
  e = .returned r ∧ (∃ F', DiskAtT T TT w' F' db n d' ∧ ∀ k, F' k → F k ∨ w.heap.size ≤ k) ∧ Kept F w w'

abbrev DDid := DDidT 141 144

theorem DiskInT.did {F : Nat → Prop} {db kb kc nb nc n : Nat} {wv : Value} {w w' : World} {d' : Ch.Disk} {r : Value} (h : DiskInT T TT w' F db kb kc nb nc n wv d') (k : Kept F w w') : DDidT T TT F db n w d' r (.returned r) w' :=
  ⟨rfl, ⟨F, ⟨kb, kc, nb, nc, wv, h⟩, fun _ hk => Or.inl hk⟩, k⟩

set_option maxRecDepth 100000 in
set_option maxHeartbeats 1000000 in
theorem dstep_any {F : Nat → Prop} {db kb kc nb nc n : Nat} {wv : Value} {d : Ch.Disk} {w : World} (h : DiskIn w F db kb kc nb nc n wv d) :
    Calls Try.prog 99 #[.pointer (some ⟨db, 0, none⟩)] w fun e w' => e = .returned (errV d.stepErr) ∧ DiskIn w' F db kb kc nb nc n wv d.stepped ∧ Kept F w w' := by
  obtain ⟨c0, c1, c2, c3, c4⟩ := h.cells
  have HD := Lib.hid h
  have fz := blk_free h.blk
  have hb := cell_lt c1
  have hf := h.wf.fuse
  have hf2 := h.wf.fuse2
  have f1 := h.f1
  clear h
  cases hd : d.down
  · by_cases h0 : d.fuse = 0
    · have HS : Hid (d.stepped = { d with down := true, fuse := -1 }) := by unfold Hid Ch.Disk.stepped; rw [if_neg (by rw [hd]; simp), if_pos h0]
      have HW : Hid (d.stepped.WF n) := by unfold Hid; exact HD.out.wf.stepped
      have H4 := Lib.hid hd
      rw [hd] at c4
      rw [h0] at c3
      clear hd
      go_enter Try.func99, Try.ntmps99
      go_wp2
      go_ret
      rw [HS.out]
      refine ⟨by simp [Ch.Disk.stepErr, HS.out, errV], ?_, ((Kept.refl _ _).setCell (Or.inl f1) _).setCell (Or.inl f1) _⟩
      exact (HD.out.put (e := { d with down := true }) 4 _ (by simp) rfl rfl rfl ⟨HD.out.wf.kept, HD.out.wf.now, HD.out.wf.keptS, HD.out.wf.nowS, HD.out.wf.wait, HD.out.wf.fuse, HD.out.wf.fuse2⟩).put 3 _ (by simp) rfl rfl rfl (by rw [← HS.out]; exact HW.out)
    · have HS : Hid (d.stepped = { d with fuse := max (d.fuse - 1) (-1) }) := by unfold Hid Ch.Disk.stepped; rw [if_neg (by rw [hd]; simp), if_neg h0]
      have HW : Hid (d.stepped.WF n) := by unfold Hid; exact HD.out.wf.stepped
      have h0' : (d.fuse == 0) = false := by simpa using h0
      have i1 : IntKind.i64.wrap (d.fuse - 1) = d.fuse - 1 := IntWalk.i64_in _ (by omega)
      have H4 := Lib.hid hd
      rw [hd] at c4
      clear hd h0
      go_enter Try.func99, Try.ntmps99
      go_wp2
      all_goals
        go_ret
        rw [HS.out]
        refine ⟨by simp [Ch.Disk.stepErr, HS.out, H4.out], ?_, (Kept.refl _ _).setCell (Or.inl f1) _⟩
        exact HD.out.put 3 _ (by simp; omega) rfl rfl rfl (by rw [← HS.out]; exact HW.out)
  · have HS : Hid (d.stepped = d) := by unfold Hid Ch.Disk.stepped; rw [if_pos hd]
    have H4 := Lib.hid hd
    rw [hd] at c4
    clear hd
    go_enter Try.func99, Try.ntmps99
    go_wp2
    go_ret
    rw [HS.out]
    exact ⟨by simp [Ch.Disk.stepErr, HS.out, H4.out, errV], HD.out, Kept.refl _ _⟩

end Go.Proofs.Ytplomeacjbkgnaa
