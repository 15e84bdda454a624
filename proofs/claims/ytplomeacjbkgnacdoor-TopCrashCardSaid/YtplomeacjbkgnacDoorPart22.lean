/-
  Walks of the program's functions, and what they need: WTopCrash.
-/
import Derived.Test.YtplomeacjbkgnacDoorPart21
import Derived.Test.YtplomeacjbkgnacDoorPart06
import Derived.Test.YtplomeacjbkgnacDoorPart14

namespace Go.Proofs.YtplomeacjbkgnacDoor
open Go.RowKit

theorem crash_number (f : Int) (w : World) : Calls Tryd.prog 14 #[errV f] w fun e w' => e = .returned (vi f) ∧ Ext w w' := by
  by_cases h0 : f = 0
  · subst h0
    show Calls _ _ #[.nilIface] _ _
    go_enter Tryd.func14, Tryd.ntmps14
    go_wp2
    go_ret
    exact ⟨rfl, (by simp (maxDischargeDepth := 60))⟩
  · rw [errV_pos h0]
    have ht : ∀ w, (Instr.typeAssert (.iface 63 (vi f)) 29 63 true).run Tryd.prog w = .ok (.tuple #[vi f, .bool true]) w := fun w => by kernel_rfl
    clear h0
    go_enter Tryd.func14, Tryd.ntmps14
    go_wp2
    go_ret
    exact ⟨rfl, (by simp (maxDischargeDepth := 60))⟩

theorem crash_number0 (w : World) : Calls Tryd.prog 14 #[.nilIface] w fun e w' => e = .returned (vi 0) ∧ Ext w w' := crash_number 0 w

theorem Sl.block_ltC {α : Type} {w : World} {c : Nat} {enc : α → List Value} {l : List α} {n cap b o : Nat} (h : Sl w c enc l (some ⟨b, o, none⟩) n cap) (hn : 0 < n) (he : ∀ x, enc x ≠ []) : b < w.heap.size := by
  obtain ⟨b', o', x, e, _, f⟩ := h.get hn
  cases e
  cases hh : enc x with
  | nil => exact absurd hh (he x)
  | cons y r => exact cell_lt (f 0 y (by rw [hh]; rfl))

/-- the books of what is to be done -/
def BooksInC (w : World) (l : List RAct) : Prop := ∀ x ∈ l, ∃ ls js, Sl w 8 stayCells ls x.a1 x.n1 x.c1 ∧ Sl w 2 jobCells js x.a2 x.n2 x.c2

/-- a book in its cell, its lists in old memory -/
def CBook (w : World) (X : Nat) (b : Ch.Book) (wr : World) : Prop :=
  ∃ y1 c1 y2 c2, wr.heap[X]? = some (.cells #[vi b.last, .slice y1 b.stays.length c1, .slice y2 b.jobs.length c2] 25 (0, 0)) ∧ Sl w 8 stayCells b.stays y1 b.stays.length c1 ∧ Sl w 2 jobCells b.jobs y2 b.jobs.length c2

theorem CBook.kept {w : World} {X : Nat} {b : Ch.Book} {wr w' : World} {S : Nat → Prop} (h : CBook w X b wr) (k : Kept S wr w') (hX : ¬ S X) : CBook w X b w' := by
  obtain ⟨y1, c1, y2, c2, q1, q2, q3⟩ := h
  exact ⟨y1, c1, y2, c2, (k.block X (blk_lt q1) hX).trans q1, q2, q3⟩

theorem CBook.ext {w : World} {X : Nat} {b : Ch.Book} {wr w' : World} (h : CBook w X b wr) (x : Ext wr w') : CBook w X b w' := h.kept (Kept.of_ext (S := fun _ => False) x) id

theorem CBook.cells {w : World} {X : Nat} {b : Ch.Book} {wr : World} (h : CBook w X b wr) :
    ∃ y1 c1 y2 c2, wr.cell? ⟨X, 0, none⟩ = some (vi b.last) ∧ wr.cell? ⟨X, 1, none⟩ = some (.slice y1 b.stays.length c1) ∧ wr.cell? ⟨X, 2, none⟩ = some (.slice y2 b.jobs.length c2) ∧ X < wr.heap.size ∧ (∀ i, wr.frozen? ⟨X, i, none⟩ = false) ∧
      Sl w 8 stayCells b.stays y1 b.stays.length c1 ∧ Sl w 2 jobCells b.jobs y2 b.jobs.length c2 := by
  obtain ⟨y1, c1, y2, c2, q1, q2, q3⟩ := h
  exact ⟨y1, c1, y2, c2, blk_cell q1 rfl, blk_cell q1 rfl, blk_cell q1 rfl, blk_lt q1, blk_free q1, q2, q3⟩

/-- a book is stored -/
theorem CBook.put {w : World} {X : Nat} {b : Ch.Book} {wr : World} (h : CBook w X b wr) {last : Int} {ls : List Ch.Stay} {js : List Ch.Job} {a1 a2 : Option Addr} {m1 c1 m2 c2 : Nat} (s1 : Sl w 8 stayCells ls a1 m1 c1) (s2 : Sl w 2 jobCells js a2 m2 c2) :
    CBook w X ⟨last, ls, js⟩ (((wr.setCell ⟨X, 0, none⟩ (vi last)).setCell ⟨X, 1, none⟩ (.slice a1 m1 c1)).setCell ⟨X, 2, none⟩ (.slice a2 m2 c2)) ∧ Kept (Is X) wr (((wr.setCell ⟨X, 0, none⟩ (vi last)).setCell ⟨X, 1, none⟩ (.slice a1 m1 c1)).setCell ⟨X, 2, none⟩ (.slice a2 m2 c2)) := by
  obtain ⟨y1, d1, y2, d2, q1, _, _⟩ := h
  have e1 := s1.len
  have e2 := s2.len
  refine ⟨⟨a1, c1, a2, c2, ?_, ?_, ?_⟩, (((Kept.refl (Is X) wr).setCell (a := ⟨X, 0, none⟩) (Or.inl rfl) _).setCell (a := ⟨X, 1, none⟩) (Or.inl rfl) _).setCell (a := ⟨X, 2, none⟩) (Or.inl rfl) _⟩
  · rw [setCell_block (setCell_block (setCell_block q1)), e1, e2]
    rfl
  · dsimp only; rw [e1]; exact s1
  · dsimp only; rw [e2]; exact s2

def crZ (w : World) (X Y : Nat) (i : Nat) : Prop := w.heap.size ≤ i ∧ i ≠ X ∧ i ≠ Y

/-- between two rounds -/
structure CRound (w : World) (X Y db lb : Nat) (lv : Int) (k e : Nat) (b : Ch.Book) (d : Ch.Disk) (wr : World) : Prop where
  ep : e ≤ k + 2
  calm : d.Calm 22
  holds : Ch.Holds d.now lv e b
  ln : LN (crZ w X Y) db lb 22 lv e b d wr
  x : Ext w wr
  wx : CBook w X b wr
  wy : CBook w Y b wr
  hX : w.heap.size ≤ X
  hY : w.heap.size ≤ Y
  nXY : X ≠ Y

/-- behind all rounds, or a fall -/
structure CEnd (w : World) (X Y db : Nat) (lv : Int) (keep : Nat) (bx bz : Ch.Book) (d : Ch.Disk) (wr : World) : Prop where
  dz : DZ (crZ w X Y) db 22 d wr
  wait : d.wait.length ≤ 1000
  hold : ∃ e b, e ≤ 30 ∧ LP 22 lv e b (d.restart keep) ∧ (b = bx ∨ b = bz)
  x : Ext w wr
  wx : CBook w X bx wr
  wy : CBook w Y bz wr
  hX : w.heap.size ≤ X
  hY : w.heap.size ≤ Y
  nXY : X ≠ Y

theorem CRound.ext {w : World} {X Y db lb : Nat} {lv : Int} {k e : Nat} {b : Ch.Book} {d : Ch.Disk} {wr w' : World} (h : CRound w X Y db lb lv k e b d wr) (x : Ext wr w') : CRound w X Y db lb lv k e b d w' :=
  ⟨h.ep, h.calm, h.holds, h.ln.ext x, h.x.trans x, h.wx.ext x, h.wy.ext x, h.hX, h.hY, h.nXY⟩

theorem CRound.next {w : World} {X Y db lb : Nat} {lv : Int} {k e : Nat} {b : Ch.Book} {d : Ch.Disk} {wr w' : World} (h : CRound w X Y db lb lv k e b d wr) (x : Ext wr w') : CRound w X Y db lb lv (k + 1) e b d w' :=
  ⟨by have := h.ep; omega, h.calm, h.holds, h.ln.ext x, h.x.trans x, h.wx.ext x, h.wy.ext x, h.hX, h.hY, h.nXY⟩

theorem crZ_new {w wr : World} {X Y : Nat} (x : Ext w wr) (hX : X < wr.heap.size) (hY : Y < wr.heap.size) : ∀ k, wr.heap.size ≤ k → crZ w X Y k := fun k hk =>
  ⟨Nat.le_trans x.below.size hk, by omega, by omega⟩

theorem CBook.lt {w : World} {X : Nat} {b : Ch.Book} {wr : World} (h : CBook w X b wr) : X < wr.heap.size := by
  obtain ⟨y1, c1, y2, c2, q1, _, _⟩ := h
  exact blk_lt q1

theorem restart_calm {d : Ch.Disk} (h : d.Calm 22) (keep : Nat) : (d.restart keep).now = d.now := by
  show Ch.keptOf keep 0 d.wait d.kept = _
  rw [h.none, ← h.all]
  rfl

theorem CRound.ends {w : World} {X Y db lb : Nat} {lv : Int} {k e : Nat} {b : Ch.Book} {d : Ch.Disk} {wr : World} (h : CRound w X Y db lb lv k e b d wr) (hk : k ≤ 20) (keep : Nat) : CEnd w X Y db lv keep b b d wr :=
  ⟨h.ln.dz, by rw [h.calm.none]; simp, ⟨e, b, by have := h.ep; omega, ⟨⟨h.calm.wf.restart keep, rfl, rfl, rfl⟩, rfl, by rw [restart_calm h.calm]; exact h.holds⟩, Or.inl rfl⟩, h.x, h.wx, h.wy, h.hX, h.hY, h.nXY⟩

/-- the book that is kept next is stored; then it is kept, or the disk falls -/
theorem CRound.stored {w : World} {X Y db lb : Nat} {lv : Int} {k e : Nat} {b B : Ch.Book} {d : Ch.Disk} {wr w1 : World} (h : CRound w X Y db lb lv k e b d wr) (hb : CBook w Y B w1) (hk : Kept (Is Y) wr w1) :
    LN (crZ w X Y) db lb 22 lv e b d w1 ∧ Ext w w1 ∧ CBook w X b w1 :=
  ⟨h.ln.kept hk (fun i hi hz => hz.2.2 hi), Ext.of_below (below_kept h.x.below (Nat.le_refl _) hk (fun i hi => by cases hi; exact h.hY)), h.wx.kept hk (fun e => h.nXY e)⟩

theorem crash_keep {w : World} {X Y db lb : Nat} {lv : Int} {k e : Nat} {b : Ch.Book} {d : Ch.Disk} {wr w1 w2 : World} (h : CRound w X Y db lb lv k e b d wr) (l4 : lv ≤ 4) (hk : k < 20) {B : Ch.Book} (hb : CBook w Y B w1) (hk1 : Kept (Is Y) wr w1) (hf : Ch.bookFault B lv = 0)
    (hk2 : Kept (crZ w X Y) w1 w2) (hl : ((d.keep (e + 1) B).2 = 0 ∧ LN (crZ w X Y) db lb 22 lv (e + 1) B (d.keep (e + 1) B).1 w2) ∨ (¬ (d.keep (e + 1) B).2 = 0 ∧ LN (crZ w X Y) db lb 22 lv e b (d.keep (e + 1) B).1 w2)) (hw : (d.keep (e + 1) B).1.wait.length ≤ 1000) (keep : Nat) :
    ((d.keep (e + 1) B).2 = 0 ∧ (d.keep (e + 1) B).1.Calm 22 ∧ Ch.Holds (d.keep (e + 1) B).1.now lv (e + 1) B ∧ LN (crZ w X Y) db lb 22 lv (e + 1) B (d.keep (e + 1) B).1 w2 ∧ CBook w X b w2 ∧ CBook w Y B w2 ∧ Ext w w2) ∨
    ((d.keep (e + 1) B).2 = 9 ∧ CEnd w X Y db lv keep b B (d.keep (e + 1) B).1 w2) := by
  obtain ⟨s1, s2, s3⟩ := h.stored hb hk1
  have hx2 : Ext w w2 := Ext.of_below (below_kept s2.below (Nat.le_refl _) hk2 (fun i hi => hi.1))
  have bx : CBook w X b w2 := s3.kept hk2 (fun hz => hz.2.1 rfl)
  have bz : CBook w Y B w2 := hb.kept hk2 (fun hz => hz.2.2 rfl)
  obtain ⟨q1, q2, q3⟩ := Ch.keep_law h.calm (Nat.le_refl _) h.holds l4 hf (by have := h.ep; omega)
  rcases q3 with ⟨r1, r2, r3⟩ | ⟨r1, r2, r3⟩
  · rcases hl with ⟨_, hl⟩ | ⟨hn, _⟩
    · exact Or.inl ⟨r1, r2, r3, hl, bx, bz, hx2⟩
    · exact absurd r1 hn
  · rcases hl with ⟨hn, _⟩ | ⟨_, hl⟩
    · rw [r1] at hn; cases hn
    · refine Or.inr ⟨r1, hl.dz, hw, ?_, hx2, bx, bz, h.hX, h.hY, h.nXY⟩
      have cal : ((d.keep (e + 1) B).1.restart keep).Calm 22 := ⟨q1.restart keep, rfl, rfl, rfl⟩
      rcases r3 keep with r | r
      · exact ⟨e, b, by have := h.ep; omega, ⟨cal, rfl, r⟩, Or.inl rfl⟩
      · exact ⟨e + 1, B, by have := h.ep; omega, ⟨cal, rfl, r⟩, Or.inr rfl⟩

theorem crash_next {w : World} {X Y db lb : Nat} {lv : Int} {k e : Nat} {b0 : Ch.Book} {d0 : Ch.Disk} {w0 : World} (h0 : CRound w X Y db lb lv k e b0 d0 w0) {B : Ch.Book} {d : Ch.Disk} {w2 w3 : World} (c : d.Calm 22) (ho : Ch.Holds d.now lv (e + 1) B) (hl : LN (crZ w X Y) db lb 22 lv (e + 1) B d w2) (hx : Ext w w2) (bz : CBook w Y B w2) (x3 : Ext w2 w3)
    {w4 : World} (bx : CBook w X B w4) (k4 : Kept (Is X) w3 w4) : CRound w X Y db lb lv (k + 1) (e + 1) B d w4 :=
  ⟨by have := h0.ep; omega, c, ho, (hl.ext x3).kept k4 (fun i hi hz => hz.2.1 hi), Ext.of_below (below_kept (hx.trans x3).below (Nat.le_refl _) k4 (fun i hi => by cases hi; exact h0.hX)), bx, (bz.ext x3).kept k4 (fun e => h0.nXY e.symm), h0.hX, h0.hY, h0.nXY⟩

theorem keep_wait (d : Ch.Disk) (e : Nat) (b : Ch.Book) (lv : Int) (hf : Ch.bookFault b lv = 0) (l4 : lv ≤ 4) (hw : d.wait.length ≤ 100) : (d.keep e b).1.wait.length ≤ 1000 := by
  have ht := Ch.text_len hf l4
  have hc := Ch.chunksB_len (Ch.bookText b)
  have h1 := wrote_wait d (Ch.chunksB (Ch.bookText b)) (2 + e % 2 * 10)
  unfold Ch.Disk.keep
  dsimp only
  have h2 := wait_flush (Ch.writes d (2 + e % 2 * 10) (Ch.chunksB (Ch.bookText b))).1
  have h3 := wait_write (Ch.writes d (2 + e % 2 * 10) (Ch.chunksB (Ch.bookText b))).1.flush.1 ((e % 2 : Nat) : Int) ⟨(Ch.head e (Ch.bookText b).length).toArray⟩
  have h4 := wait_flush ((Ch.writes d (2 + e % 2 * 10) (Ch.chunksB (Ch.bookText b))).1.flush.1.write ((e % 2 : Nat) : Int) ⟨(Ch.head e (Ch.bookText b).length).toArray⟩).1
  split
  · split
    · split
      · omega
      · omega
    · omega
  · omega

theorem check_val (F : Int) (last lv : Int) (a1 : Option Addr) (m1 c1 : Nat) (a2 : Option Addr) (m2 c2 : Nat) (l : List Ch.Stay) (js : List Ch.Job) (w : World) (h : Sl w 8 stayCells l a1 m1 c1) (h2 : Sl w 2 jobCells js a2 m2 c2) (hl4 : lv ≤ 4) (hf : Hid (Ch.bookFault ⟨last, l, js⟩ lv = F)) :
    Calls Tryd.prog 7 #[bookA last a1 m1 c1 a2 m2 c2, vi lv] w fun e w' => e = .returned (errV F) ∧ Ext w w' := by
  have := bookcheck_any last lv a1 m1 c1 a2 m2 c2 l js w h h2 hl4
  rw [hf.out] at this
  exact this

theorem errV_not {f : Int} (h : ¬ f = 0) : errV f = .iface 63 (vi f) := by unfold errV; rw [if_neg h]

theorem dz_wide {Z Z' : Nat → Prop} {db n : Nat} {d : Ch.Disk} {w w' : World} (h : DZ Z db n d w) (x : Ext w w') (hz : ∀ i, Z i → Z' i) : DZ Z' db n d w' := by
  obtain ⟨F, h1, h2⟩ := h.ext x
  exact ⟨F, h1, fun k hk => hz k (h2 k hk)⟩

theorem free_kept {S : Nat → Prop} {w w' : World} (k : Kept S w w') {b i : Nat} (hb : b < w.heap.size) (hs : ¬ S b) (hf : w.frozen? ⟨b, i, none⟩ = false) : w'.frozen? ⟨b, i, none⟩ = false := by
  have := k.block b hb hs
  unfold World.frozen? at hf ⊢
  dsimp only at hf ⊢
  rw [this]
  exact hf

/-- a fuse that is set -/
theorem arm_calm {d : Ch.Disk} {n : Nat} (h : d.Calm n) (k : Int) (hk : k ≤ 9223372036854775807) : (d.arm k).Calm n := ⟨h.wf.arm k hk, h.up, h.none, h.all⟩

set_option maxRecDepth 100000 in
set_option maxHeartbeats 8000000 in
theorem topCrash_ok (lv fuse : Int) (keep : Nat) (l1 : 1 ≤ lv) (l4 : lv ≤ 4) (hkp : keep < 18446744073709551616) (hfu : -9223372036854775808 ≤ fuse ∧ fuse ≤ 9223372036854775807) {a : Option Addr} {n cap : Nat} {l : List RAct} {w : World} (h : Sl w 12 ractCells l a n cap) (hg : ∀ x ∈ l, x.Good) (hb : BooksInC w l) (L : Libs w) :
    Calls Tryd.prog 4 #[vi lv, .slice a n cap, vi fuse, .int .u64 (keep : Int)] w fun e w' => e = .returned (.bool true) ∧ Ext w w' := by
  have HS := Lib.hid h
  have HG := Lib.hid hg
  have HB := Lib.hid hb
  have HL := Lib.hid L
  have hbd := h.bound
  have sz0 := h.len
  have hbf9 : Hid (Ch.bookFault ⟨9, [], []⟩ lv = 0) := by unfold Hid; simp [Ch.bookFault, Ch.staysFault, Ch.jobsFault]
  have hbf2 : Hid (Ch.bookFault ⟨2, [], []⟩ 1 = 0) := by unfold Hid; decide
  obtain ⟨fz, hfz⟩ : ∃ fz, Hid (min (max fuse (-1)) 500 = fz) := ⟨_, rfl⟩
  have fz1 : -1 ≤ fz ∧ fz ≤ 500 := by rw [← hfz.out]; omega
  clear h hg hb L
  go_enter Tryd.func4, Tryd.ntmps4
  go_upto_region 4 with (first
    | (go_at_call 10; refine (kept_any 1 (by decide) (by decide) _ HL.out).mono ?_; rintro e w1 ⟨db, lb, d, rfl, hp, hn, hx⟩; have HP := Lib.hid hp; have HN := Lib.hid hn; have HX := Lib.hid hx; clear hp hn hx)
    | (go_at_call 11; refine (keep_now (fun k hk => Nat.le_trans HX.out.below.size hk) HN.out HP.out (Nat.le_refl _) (by decide) (by decide) (HL.out.tab.ext HX.out) 2 none 0 0 none 0 0 [] [] (Sl.nil _ _ _) (Sl.nil _ _ _) (by intro b o h; rcases h with ⟨h, _⟩ | ⟨h, _⟩ <;> cases h) 0 hbf2 ⟨2, [], []⟩ rfl).mono ?_; rintro e w2 ⟨rfl, hk, e', d', he', hp, hn⟩; have HX2 := Lib.hid (ext_behind HX.out hk : Ext w w2); clear hk hp hn))
  clear HP HN HX
  go_upto_region 6 with (go_at_call 12; (with_reducible refine (lightActs_len _ _ _ _ l _ (Sl.below HS.out (HX2.out.trans (by simp (maxDischargeDepth := 60))).below) HG.out).mono ?_); rintro e w3 ⟨lb', rfl, hb1, o2, n2, rfl⟩; cases lb')
  all_goals try (go_wp2; go_ret; exact ⟨rfl, HX2.out.trans (by simp (maxDischargeDepth := 60))⟩; done)
  have hn20 : n ≤ 20 := by have := hb1 trivial; omega
  clear hb1
  go_upto_region 10 with (first
    | (go_at_call 10; refine (kept_any lv l1 l4 _ (HL.out.ext (HX2.out.trans (by simp (maxDischargeDepth := 60))))).mono ?_; rintro e w4 ⟨db, lb, d, rfl, hp, hn, hx⟩; have HX4 : Hid (Ext w w4) := HX2.out.trans (Ext.trans (by simp (maxDischargeDepth := 60)) hx); have HP := Lib.hid hp; have HN : Hid (LN (fun k => w.heap.size ≤ k) db lb 22 lv 2 ⟨0, [], []⟩ d w4) := hn.move (fun k _ hk => Nat.le_trans (HX2.out.trans (by simp (maxDischargeDepth := 60)) : Ext w _).below.size hk); clear hp hn hx)
    | (go_at_call 13; refine (arm_led (fun k hk => Nat.le_trans (HX4.out.trans (by simp (maxDischargeDepth := 60)) : Ext w _).below.size hk) (HN.out.ext (by simp (maxDischargeDepth := 60))) _ (by omega)).mono ?_; rintro e w5 ⟨rfl, hk5, hn5⟩; have HX5 : Hid (Ext w w5) := Ext.of_below (below_kept (HX4.out.trans (by simp (maxDischargeDepth := 60)) : Ext w _).below (Nat.le_refl _) hk5 (fun i hi => hi)); have HN5 := Lib.hid hn5; clear hk5 hn5))
  go_upto_region 12 with fail
  obtain ⟨X, hX⟩ : ∃ X, Hid (X = w5.heap.size) := ⟨_, rfl⟩
  obtain ⟨Y, hY⟩ : ∃ Y, Hid (Y = w5.heap.size + 1) := ⟨_, rfl⟩
  have hXw : w.heap.size ≤ X := by rw [hX.out]; exact HX5.out.below.size
  have hYw : w.heap.size ≤ Y := by rw [hY.out]; have := HX5.out.below.size; omega
  obtain ⟨dA, HDA⟩ : ∃ dA, Hid (Ch.Disk.arm d (min (max fuse (-1)) 500) = dA) := ⟨_, rfl⟩
  have R0 : Hid (CRound w X Y db lb lv 0 2 ⟨0, [], []⟩ dA ((w5.alloc (.cells #[vi 0, .slice none 0 0, .slice none 0 0] 25)).alloc (.cells #[vi 0, .slice none 0 0, .slice none 0 0] 25))) := by
    have hq := hX.out
    have hy := hY.out
    have hn := HN5.out
    rw [HDA.out] at hn
    have hc := HP.out.calm
    refine ⟨by omega, by rw [← HDA.out]; exact arm_calm hc _ (by omega), by rw [← HDA.out]; exact HP.out.holds, (hn.move (fun k hk hz => ⟨hz, by omega, by omega⟩)).ext (by simp (maxDischargeDepth := 60)), HX5.out.trans (by simp (maxDischargeDepth := 60)), ⟨none, 0, none, 0, ?_, Sl.nil _ _ _, Sl.nil _ _ _⟩, ⟨none, 0, none, 0, ?_, Sl.nil _ _ _, Sl.nil _ _ _⟩, hXw, hYw, by omega⟩
    · rw [hq, alloc_plus]
      exact (plus_heap _ _ _ _ (by simp)).trans (alloc_at _ _ _ rfl)
    · rw [hy]; exact alloc_at _ _ _ (by simp)
  generalize hWW : World.alloc _ _ = w6 at R0 ⊢
  rw [← hY.out, ← hX.out]
  clear hWW HX2 HX4 HX5 HN HN5 HP HDA hX hY
  go_wp2
  go_loopw [16] (fun i wr => ∃ (k e : Nat) (b : Ch.Book) (d : Ch.Disk), k ≤ n ∧ i = .int .i64 (k : Int) ∧ Hid (CRound w X Y db lb lv k e b d wr)) (fun i _ => n - (intOf i).toNat)
  case atStart => exact ⟨0, 2, ⟨0, [], []⟩, dA, Nat.zero_le _, rfl, R0⟩
  case round =>
    obtain ⟨k, ep, b, d2, hk, rfl, HR⟩ := hrel
    have hep : ep + 1 < 4294967296 := by have := HR.out.ep; omega
    by_cases hlt : k < n
    · obtain ⟨ab, o, x, rfl, hx, dx⟩ := (Sl.below HS.out HR.out.x.below).get hlt
      have HDX := Lib.hid dx
      have dx := at12 dx
      have hbl := cell_lt dx.1
      have hmem := List.mem_of_getElem? hx
      obtain ⟨ls, js, hls, hjs⟩ := HB.out x hmem
      have gx := HG.out x hmem
      have g1 := gx.l1
      have g2 := gx.l2
      have HLS := Lib.hid hls
      have HJS := Lib.hid hjs
      have hab : ab < w.heap.size := by
        have hq := HS.out
        exact Sl.block_ltC hq (by omega) (by intro s; simp [ractCells])
      clear hmem gx hls hjs hx
      obtain ⟨F, hF⟩ : ∃ F, Hid (Ch.bookFault ⟨x.last, ls, js⟩ lv = F) := ⟨_, rfl⟩
      by_cases z : F = 0
      · subst z
        obtain ⟨y1, c1, y2, c2, p0, p1, p2, pY, fY, -, -⟩ := HR.out.wy.cells
        have fy0 := fY 0
        have fy1 := fY 1
        have fy2 := fY 2
        clear fY
        go_upto_region 17 with (go_at_call 7; (with_reducible refine (check_val 0 x.last lv x.a1 x.n1 x.c1 x.a2 x.n2 x.c2 ls js _ (Sl.below HLS.out (HR.out.ext (by simp (maxDischargeDepth := 60))).x.below) (Sl.below HJS.out (HR.out.ext (by simp (maxDischargeDepth := 60))).x.below) l4 hF).mono ?_); rintro e w7 ⟨rfl, o7, n7, rfl⟩)
        generalize hW : World.setCell _ _ _ = w1
        have HP1 : Hid (CBook w Y ⟨x.last, ls, js⟩ w1 ∧ Kept (Is Y) (wr.plus o7 n7) w1) := by rw [← hW]; exact (HR.out.ext (by simp (maxDischargeDepth := 60))).wy.put HLS.out HJS.out
        have HRQ : Hid (CRound w X Y db lb lv k ep b d2 (wr.plus o7 n7)) := HR.out.ext (by simp (maxDischargeDepth := 60))
        obtain ⟨hl1, hx1, -⟩ := HRQ.out.stored HP1.out.1 HP1.out.2
        have HL1 := Lib.hid hl1
        have HX1 := Lib.hid hx1
        have HFF : Ch.bookFault ⟨x.last, ls, js⟩ lv = 0 := hF.out
        have HFH := Lib.hid HFF
        clear hl1 hx1 hW HFF
        obtain ⟨z1, k1, z2, k2, q0, q1, q2, qY, fY, u1, u2⟩ := HP1.out.1.cells
        dsimp only at q0 q1 q2 u1 u2
        have U1 := Lib.hid u1
        have U2 := Lib.hid u2
        have bu1 := u1.bound
        have bu2 := u2.bound
        have HNZ : Hid (∀ b o, (0 < ls.length ∧ z1 = some ⟨b, o, none⟩) ∨ (0 < js.length ∧ z2 = some ⟨b, o, none⟩) → ¬ crZ w X Y b) := by
          intro b o hh hz
          rcases hh with ⟨hp, e⟩ | ⟨hp, e⟩
          · subst e
            have := Sl.block_ltC u1 hp (by intro s; simp [stayCells])
            have := hz.1
            omega
          · subst e
            have := Sl.block_ltC u2 hp (by intro s; simp [jobCells])
            have := hz.1
            omega
        have hwt : d2.wait.length ≤ 1000 := by rw [HR.out.calm.none]; simp
        have hk20 : k < 20 := by omega
        have hXl : X < w1.heap.size := by have h1 := HRQ.out.wx.lt; have h2 := HP1.out.2.size; omega
        clear u1 u2 fY p0 p1 p2 pY fy0 fy1 fy2 dx HDX
        go_wp2_with (first
          | (go_at_call 11; refine (keep_led (crZ_new (HX1.out.trans (by simp (maxDischargeDepth := 60))) (Nat.lt_of_lt_of_le hXl (Ext.below (by simp (maxDischargeDepth := 60)) : Below w1.heap.size w1 _).size) (Nat.lt_of_lt_of_le qY (Ext.below (by simp (maxDischargeDepth := 60)) : Below w1.heap.size w1 _).size)) (HL1.out.ext (by simp (maxDischargeDepth := 60))) hwt l4 hep (HL.out.tab.ext (HX1.out.trans (by simp (maxDischargeDepth := 60)))) x.last z1 ls.length k1 z2 js.length k2 ls js (Sl.below U1.out (HX1.out.trans (by simp (maxDischargeDepth := 60))).below) (Sl.below U2.out (HX1.out.trans (by simp (maxDischargeDepth := 60))).below) HNZ.out HFH.out).mono ?_; rintro e w2 ⟨he, hk2, hl2⟩; have hc := crash_keep HRQ.out l4 hk20 HP1.out.1 HP1.out.2 HFH.out ((Kept.of_ext (by simp (maxDischargeDepth := 60)) : Kept (crZ w X Y) w1 _).trans hk2) hl2 (keep_wait _ _ _ lv HFH.out l4 (by rw [HRQ.out.calm.none]; simp)) keep; generalize hKP : Ch.Disk.keep d2 (ep + 1) ⟨x.last, ls, js⟩ = kr at he hc; obtain ⟨d3, f3⟩ := kr; dsimp only at he hc; clear hl2 hk2 hKP; rcases hc with ⟨f0, r1, r2, r3, r4, r5, r6⟩ | ⟨f9, r1⟩; (subst f0; subst he; obtain ⟨v1, i1, v2, i2, m0, m1', m2', mX, fX, -, -⟩ := r4.cells; obtain ⟨v3, i3, v4, i4, m3, m4, m5, mY, fY, s3, s4⟩ := r5.cells; have fx0 := fX 0; have fx1 := fX 1; have fx2 := fX 2; dsimp only at m3 m4 m5 s3 s4; have R1 := Lib.hid r1; have R2 := Lib.hid r2; have R3 := Lib.hid r3; have R4 := Lib.hid r4; have R5 := Lib.hid r5; have R6 := Lib.hid r6; have S3 := Lib.hid s3; have S4 := Lib.hid s4; have bs3 := s3.bound; have bs4 := s4.bound; clear r1 r2 r3 r4 r5 r6 fX fY s3 s4); rotate_left; (subst f9; subst he; have HE := Lib.hid r1; clear r1); rotate_left)
          | (go_at_call 14; (with_reducible refine (crash_number0 _).mono ?_); rintro e w1 ⟨rfl, o1, n1, rfl⟩) | (go_at_call 14; (with_reducible refine (crash_number 9 _).mono ?_); rintro e w1 ⟨rfl, o1, n1, rfl⟩))
        · go_wp2
          go_roundw
          case rel => exact ⟨k + 1, _, _, _, by omega, by go_num, crash_next HRQ.out R1.out R2.out R3.out R6.out R5.out (by simp (maxDischargeDepth := 60)) ((R4.out.ext (by simp (maxDischargeDepth := 60))).put S3.out S4.out).1 ((R4.out.ext (by simp (maxDischargeDepth := 60))).put S3.out S4.out).2⟩
          case measure => simp [intOf]; omega
        · obtain ⟨bx, bz, HE⟩ : ∃ bx bz, Hid (CEnd w X Y db lv keep bx bz d3 w2) := ⟨_, _, HE⟩
          have HXQ := Lib.hid HE.out.x
          go_upto_region 24 with (first
            | (go_at_call 15; refine (restart_dz (crZ_new (HXQ.out.trans (by simp (maxDischargeDepth := 60))) (HE.out.wx.ext (by simp (maxDischargeDepth := 60))).lt (HE.out.wy.ext (by simp (maxDischargeDepth := 60))).lt) (HE.out.dz.ext (by simp (maxDischargeDepth := 60))) keep hkp (by have := HE.out.wait; omega)).mono ?_; rintro e wA ⟨rfl, hkA, hdA⟩; have HKA : Hid (Kept (crZ w X Y) w2 wA) := (Kept.of_ext (by simp (maxDischargeDepth := 60)) : Kept (crZ w X Y) w2 _).trans hkA; have HXA : Hid (Ext w wA) := Ext.of_below (below_kept HXQ.out.below (Nat.le_refl _) HKA.out (fun i hi => hi.1)); have HDA := Lib.hid hdA; have HBX := Lib.hid (HE.out.wx.kept HKA.out (fun hz => hz.2.1 rfl)); have HBY := Lib.hid (HE.out.wy.kept HKA.out (fun hz => hz.2.2 rfl)); obtain ⟨ee, bb, he30, hlp, hbb⟩ := HE.out.hold; have HLP := Lib.hid hlp; have HBB := Lib.hid hbb; clear hkA hdA hlp hbb)
            | (go_at_call 16; refine (open_now (crZ_new (HXA.out.trans (by simp (maxDischargeDepth := 60))) (HBX.out.ext (by simp (maxDischargeDepth := 60))).lt (HBY.out.ext (by simp (maxDischargeDepth := 60))).lt) (HDA.out.ext (by simp (maxDischargeDepth := 60))) HLP.out l1 l4 (Nat.le_refl _) (HL.out.ext (HXA.out.trans (by simp (maxDischargeDepth := 60))))).mono ?_; rintro e wB ⟨lbB, rfl, hnB, hxB⟩; have HXAB : Hid (Ext wA wB) := Ext.trans (by simp (maxDischargeDepth := 60)) hxB; have HNB := Lib.hid hnB; clear hnB hxB))
          have hM := Ch.bookFault_iff.1 HLP.out.holds.ok
          have HMB : Hid (bb.stays.length ≤ 1000 ∧ bb.jobs.length ≤ 1000) := by have h1 := hM.s16; have h2 := hM.j8; exact ⟨by omega, by omega⟩
          have HB1 := Lib.hid (HBX.out.ext HXAB.out)
          have HB2 := Lib.hid (HBY.out.ext HXAB.out)
          have HXB := Lib.hid (HXA.out.trans HXAB.out)
          have hee : ee + 1 < 4294967296 := by omega
          have hXw2 : w.heap.size ≤ X := HE.out.hX
          have hYw2 : w.heap.size ≤ Y := HE.out.hY
          clear hM HE HXQ HBX HBY HDA HKA
          go_upto_region 27 with (go_at_call 17; refine (book_now (HNB.out.ext (by simp (maxDischargeDepth := 60))) HMB.out.1 HMB.out.2).mono ?_; rintro e wC ⟨g1, i1, g2, i2, rfl, sC, sD, hxC⟩; have HXC : Hid (Ext wB wC) := Ext.trans (by simp (maxDischargeDepth := 60)) hxC; have SC := Lib.hid sC; have SD := Lib.hid sD; clear sC sD hxC)
          generalize hWD : World.alloc _ _ = wD
          generalize hG : wC.heap.size = G
          have hxD : Ext wC wD := by rw [← hWD]; exact (by simp (maxDischargeDepth := 60))
          obtain ⟨bl, bs, bj⟩ := bb
          dsimp only at SC SD HMB
          have gg0 : wD.cell? ⟨G, 0, none⟩ = some (vi bl) := by rw [← hWD, ← hG]; simp [go_sem]
          have gg1 : wD.cell? ⟨G, 1, none⟩ = some (.slice g1 bs.length i1) := by rw [← hWD, ← hG]; simp [go_sem]
          have gg2 : wD.cell? ⟨G, 2, none⟩ = some (.slice g2 bj.length i2) := by rw [← hWD, ← hG]; simp [go_sem]
          have fG : ∀ i, wD.frozen? ⟨G, i, none⟩ = false := by intro i; rw [← hWD, ← hG]; simp [go_sem]
          have HXD := Lib.hid (HXC.out.trans hxD)
          have SCD := Lib.hid (Sl.below SC.out hxD.below)
          have SDD := Lib.hid (Sl.below SD.out hxD.below)
          have HXW := Lib.hid (HXB.out.trans HXD.out)
          have cb1 := SC.out.bound
          have cb2 := SD.out.bound
          have hXB : X < wB.heap.size := HB1.out.lt
          have hYB : Y < wB.heap.size := HB2.out.lt
          have hGB : wB.heap.size ≤ G := by rw [← hG]; exact HXC.out.below.size
          have hzs := HXD.out.below.size
          have HNG : Hid (LN (fun i => crZ w X Y i ∧ i ≠ G) db lbB 22 lv ee ⟨bl, bs, bj⟩ (Ch.Disk.restart d3 keep) wD) := (HNB.out.move (fun k hk hz => ⟨hz, by omega⟩)).ext HXD.out
          have zz3 := cell_lt gg0
          have zzX : X < wD.heap.size := by omega
          have zzY : Y < wD.heap.size := by omega
          have FG := Lib.hid fG
          have hGw : w.heap.size ≤ G := by have := HXB.out.below.size; omega
          clear hWD hG hxD SC SD HXC HNB fG
          rcases HBB.out with hbe | hbe
          · clear HBB
            subst hbe
            obtain ⟨zl, zs, zj⟩ := bz
            obtain ⟨y1, c1, y2, c2, p0, p1, p2, pX, fX, t1, t2⟩ := HB1.out.cells
            obtain ⟨z1, k1, z2, k2, q0, q1, q2, pY, fY, u1, u2⟩ := HB2.out.cells
            dsimp only at p0 p1 p2 q0 q1 q2 t1 t2 u1 u2
            have T1 := Lib.hid (Sl.below t1 HXB.out.below)
            have T2 := Lib.hid (Sl.below t2 HXB.out.below)
            have U1 := Lib.hid (Sl.below u1 HXB.out.below)
            have U2 := Lib.hid (Sl.below u2 HXB.out.below)
            have bt1 := t1.bound
            have bt2 := t2.bound
            have bu1 := u1.bound
            have bu2 := u2.bound
            have pp0 := xcell HXD.out p0
            have pp1 := xcell HXD.out p1
            have pp2 := xcell HXD.out p2
            have qq0 := xcell HXD.out q0
            have qq1 := xcell HXD.out q1
            have qq2 := xcell HXD.out q2
            clear t1 t2 u1 u2 fX fY p0 p1 p2 q0 q1 q2
            go_upto_region 29 with (first | (go_at_call 9; refine (sameBook_yes bl g1 bs.length i1 g2 bj.length i2 y1 c1 y2 c2 bs bj _ (Sl.below SCD.out (Ext.below (by simp (maxDischargeDepth := 60)))) (Sl.below SDD.out (Ext.below (by simp (maxDischargeDepth := 60)))) (Sl.below T1.out (HXD.out.trans (by simp (maxDischargeDepth := 60))).below) (Sl.below T2.out (HXD.out.trans (by simp (maxDischargeDepth := 60))).below)).mono ?_; rintro e w9 ⟨rfl, o9, n9, rfl⟩))
            all_goals go_wp2_with (first | (go_at_call 11; refine (keep_now (fun i hi => ⟨crZ_new (HXW.out.trans (by simp (maxDischargeDepth := 60))) (Nat.lt_of_lt_of_le zzX (Ext.below (by simp (maxDischargeDepth := 60)) : Below wD.heap.size wD _).size) (Nat.lt_of_lt_of_le zzY (Ext.below (by simp (maxDischargeDepth := 60)) : Below wD.heap.size wD _).size) i hi, by have hii : wD.heap.size ≤ i := Nat.le_trans (by simp) hi; omega⟩) (HNG.out.ext (by simp (maxDischargeDepth := 60))) HLP.out (Nat.le_refl _) l4 hee (HL.out.tab.ext (HXW.out.trans (by simp (maxDischargeDepth := 60)))) 9 none 0 0 none 0 0 [] [] (Sl.nil _ _ _) (Sl.nil _ _ _) (by intro b o h; rcases h with ⟨h, _⟩ | ⟨h, _⟩ <;> cases h) 0 hbf9 ⟨9, [], []⟩ rfl).mono ?_; rintro e wE ⟨rfl, hkE, e', d', he', hpE, hnE⟩; have HXE : Hid (Ext w wE) := Ext.of_below (below_kept (HXW.out.trans (by simp (maxDischargeDepth := 60)) : Ext w _).below (Nat.le_refl _) hkE (fun i hi => hi.1.1)); have HPE := Lib.hid hpE; have HNE := Lib.hid hnE; have kE := (Kept.of_ext (by simp (maxDischargeDepth := 60)) : Kept (fun i => crZ w X Y i ∧ i ≠ G) wD _).trans hkE; have r0 := cell_kept kE gg0 (fun hz => hz.2 rfl); have r1 := cell_kept kE gg1 (fun hz => hz.2 rfl); have r2 := cell_kept kE gg2 (fun hz => hz.2 rfl); have hGE := cell_lt r0; have fe0 := free_kept kE zz3 (fun hz => hz.2 rfl) (FG.out 0); have fe1 := free_kept kE zz3 (fun hz => hz.2 rfl) (FG.out 1); have fe2 := free_kept kE zz3 (fun hz => hz.2 rfl) (FG.out 2); clear hkE hpE hnE kE) | (go_at_call 16; refine (open_now (Z := fun i => w.heap.size ≤ i) (fun k hk => Nat.le_trans (HXE.out.trans (by simp (maxDischargeDepth := 60)) : Ext w _).below.size hk) (dz_wide HNE.out.dz (by simp (maxDischargeDepth := 60)) (fun i hi => hi.1.1)) HPE.out l1 l4 (Nat.le_refl _) (HL.out.ext (HXE.out.trans (by simp (maxDischargeDepth := 60))))).mono ?_; rintro e wF ⟨lbF, rfl, hnF, hxF⟩; have HXF : Hid (Ext wE wF) := Ext.trans (by simp (maxDischargeDepth := 60)) hxF; have HNF := Lib.hid hnF; clear hnF hxF; have s0 := xcell HXF.out r0; have s1 := xcell HXF.out r1; have s2 := xcell HXF.out r2; have ff0 := xfree HXF.out hGE fe0; have ff1 := xfree HXF.out hGE fe1; have ff2 := xfree HXF.out hGE fe2; have hGF := cell_lt s0) | (go_at_call 17; refine (book_now (HNF.out.ext (by simp (maxDischargeDepth := 60))) (by decide) (by decide)).mono ?_; rintro e wH ⟨h1, j1, h2, j2, rfl, -, -, hxH⟩; have HXH : Hid (Ext wF wH) := Ext.trans (by simp (maxDischargeDepth := 60)) hxH; have v0 := xcell HXH.out s0; have v1 := xcell HXH.out s1; have v2 := xcell HXH.out s2; have hh0 := xfree HXH.out hGF ff0; have hh1 := xfree HXH.out hGF ff1; have hh2 := xfree HXH.out hGF ff2; have hGH := cell_lt v0))
            all_goals
              go_wp2
              go_ret
              have hq : Ext w wH := (HXE.out.trans HXF.out).trans HXH.out
              exact ⟨by simp, ((hq.setCell (a := ⟨G, 0, none⟩) hGw _).setCell (a := ⟨G, 1, none⟩) hGw _).setCell (a := ⟨G, 2, none⟩) hGw _⟩
          · clear HBB
            subst hbe
            obtain ⟨zl, zs, zj⟩ := bx
            obtain ⟨y1, c1, y2, c2, p0, p1, p2, pX, fX, t1, t2⟩ := HB2.out.cells
            obtain ⟨z1, k1, z2, k2, q0, q1, q2, pY, fY, u1, u2⟩ := HB1.out.cells
            dsimp only at p0 p1 p2 q0 q1 q2 t1 t2 u1 u2
            have T1 := Lib.hid (Sl.below t1 HXB.out.below)
            have T2 := Lib.hid (Sl.below t2 HXB.out.below)
            have U1 := Lib.hid (Sl.below u1 HXB.out.below)
            have U2 := Lib.hid (Sl.below u2 HXB.out.below)
            have bt1 := t1.bound
            have bt2 := t2.bound
            have bu1 := u1.bound
            have bu2 := u2.bound
            have pp0 := xcell HXD.out p0
            have pp1 := xcell HXD.out p1
            have pp2 := xcell HXD.out p2
            have qq0 := xcell HXD.out q0
            have qq1 := xcell HXD.out q1
            have qq2 := xcell HXD.out q2
            clear t1 t2 u1 u2 fX fY p0 p1 p2 q0 q1 q2
            go_upto_region 29 with (first | (go_at_call_of 9 (Value.agg #[vi zl, .slice z1 zs.length k1, .slice z2 zj.length k2]); refine (sameBook_any bl zl g1 bs.length i1 g2 bj.length i2 z1 zs.length k1 z2 zj.length k2 bs zs bj zj _ (Sl.below SCD.out (Ext.below (by simp (maxDischargeDepth := 60)))) (Sl.below SDD.out (Ext.below (by simp (maxDischargeDepth := 60)))) (Sl.below U1.out (HXD.out.trans (by simp (maxDischargeDepth := 60))).below) (Sl.below U2.out (HXD.out.trans (by simp (maxDischargeDepth := 60))).below)).mono ?_; rintro e w9 ⟨⟨rr, rfl⟩, o9, n9, rfl⟩; cases rr) | (go_at_call 9; refine (sameBook_yes bl g1 bs.length i1 g2 bj.length i2 y1 c1 y2 c2 bs bj _ (Sl.below SCD.out (Ext.below (by simp (maxDischargeDepth := 60)))) (Sl.below SDD.out (Ext.below (by simp (maxDischargeDepth := 60)))) (Sl.below T1.out (HXD.out.trans (by simp (maxDischargeDepth := 60))).below) (Sl.below T2.out (HXD.out.trans (by simp (maxDischargeDepth := 60))).below)).mono ?_; rintro e w9 ⟨rfl, o9, n9, rfl⟩))
            all_goals go_wp2_with (first | (go_at_call 11; refine (keep_now (fun i hi => ⟨crZ_new (HXW.out.trans (by simp (maxDischargeDepth := 60))) (Nat.lt_of_lt_of_le zzX (Ext.below (by simp (maxDischargeDepth := 60)) : Below wD.heap.size wD _).size) (Nat.lt_of_lt_of_le zzY (Ext.below (by simp (maxDischargeDepth := 60)) : Below wD.heap.size wD _).size) i hi, by have hii : wD.heap.size ≤ i := Nat.le_trans (by simp) hi; omega⟩) (HNG.out.ext (by simp (maxDischargeDepth := 60))) HLP.out (Nat.le_refl _) l4 hee (HL.out.tab.ext (HXW.out.trans (by simp (maxDischargeDepth := 60)))) 9 none 0 0 none 0 0 [] [] (Sl.nil _ _ _) (Sl.nil _ _ _) (by intro b o h; rcases h with ⟨h, _⟩ | ⟨h, _⟩ <;> cases h) 0 hbf9 ⟨9, [], []⟩ rfl).mono ?_; rintro e wE ⟨rfl, hkE, e', d', he', hpE, hnE⟩; have HXE : Hid (Ext w wE) := Ext.of_below (below_kept (HXW.out.trans (by simp (maxDischargeDepth := 60)) : Ext w _).below (Nat.le_refl _) hkE (fun i hi => hi.1.1)); have HPE := Lib.hid hpE; have HNE := Lib.hid hnE; have kE := (Kept.of_ext (by simp (maxDischargeDepth := 60)) : Kept (fun i => crZ w X Y i ∧ i ≠ G) wD _).trans hkE; have r0 := cell_kept kE gg0 (fun hz => hz.2 rfl); have r1 := cell_kept kE gg1 (fun hz => hz.2 rfl); have r2 := cell_kept kE gg2 (fun hz => hz.2 rfl); have hGE := cell_lt r0; have fe0 := free_kept kE zz3 (fun hz => hz.2 rfl) (FG.out 0); have fe1 := free_kept kE zz3 (fun hz => hz.2 rfl) (FG.out 1); have fe2 := free_kept kE zz3 (fun hz => hz.2 rfl) (FG.out 2); clear hkE hpE hnE kE) | (go_at_call 16; refine (open_now (Z := fun i => w.heap.size ≤ i) (fun k hk => Nat.le_trans (HXE.out.trans (by simp (maxDischargeDepth := 60)) : Ext w _).below.size hk) (dz_wide HNE.out.dz (by simp (maxDischargeDepth := 60)) (fun i hi => hi.1.1)) HPE.out l1 l4 (Nat.le_refl _) (HL.out.ext (HXE.out.trans (by simp (maxDischargeDepth := 60))))).mono ?_; rintro e wF ⟨lbF, rfl, hnF, hxF⟩; have HXF : Hid (Ext wE wF) := Ext.trans (by simp (maxDischargeDepth := 60)) hxF; have HNF := Lib.hid hnF; clear hnF hxF; have s0 := xcell HXF.out r0; have s1 := xcell HXF.out r1; have s2 := xcell HXF.out r2; have ff0 := xfree HXF.out hGE fe0; have ff1 := xfree HXF.out hGE fe1; have ff2 := xfree HXF.out hGE fe2; have hGF := cell_lt s0) | (go_at_call 17; refine (book_now (HNF.out.ext (by simp (maxDischargeDepth := 60))) (by decide) (by decide)).mono ?_; rintro e wH ⟨h1, j1, h2, j2, rfl, -, -, hxH⟩; have HXH : Hid (Ext wF wH) := Ext.trans (by simp (maxDischargeDepth := 60)) hxH; have v0 := xcell HXH.out s0; have v1 := xcell HXH.out s1; have v2 := xcell HXH.out s2; have hh0 := xfree HXH.out hGF ff0; have hh1 := xfree HXH.out hGF ff1; have hh2 := xfree HXH.out hGF ff2; have hGH := cell_lt v0))
            all_goals
              go_wp2
              go_ret
              have hq : Ext w wH := (HXE.out.trans HXF.out).trans HXH.out
              exact ⟨by simp, ((hq.setCell (a := ⟨G, 0, none⟩) hGw _).setCell (a := ⟨G, 1, none⟩) hGw _).setCell (a := ⟨G, 2, none⟩) hGw _⟩
      · have hz2 := errV_not z
        go_wp2_with (go_at_call 7; (with_reducible refine (check_val F x.last lv x.a1 x.n1 x.c1 x.a2 x.n2 x.c2 ls js _ (Sl.below HLS.out (HR.out.ext (by simp (maxDischargeDepth := 60))).x.below) (Sl.below HJS.out (HR.out.ext (by simp (maxDischargeDepth := 60))).x.below) l4 hF).mono ?_); rintro e w7 ⟨he, o7, n7, rfl⟩; rw [hz2] at he; subst he)
        go_roundw
        case rel => exact ⟨k + 1, _, _, _, by omega, by go_num, HR.out.next (by simp (maxDischargeDepth := 60))⟩
        case measure => simp [intOf]; omega
    · have hkn : k = n := by omega
      subst hkn
      have HE : Hid (CEnd w X Y db lv keep b b d2 wr) := HR.out.ends hn20 keep
      obtain ⟨bx, bz, HE⟩ : ∃ bx bz, Hid (CEnd w X Y db lv keep bx bz d2 wr) := ⟨_, _, HE⟩
      have HXQ := Lib.hid HE.out.x
      go_upto_region 24 with (first
        | (go_at_call 15; refine (restart_dz (crZ_new (HXQ.out.trans (by simp (maxDischargeDepth := 60))) (HE.out.wx.ext (by simp (maxDischargeDepth := 60))).lt (HE.out.wy.ext (by simp (maxDischargeDepth := 60))).lt) (HE.out.dz.ext (by simp (maxDischargeDepth := 60))) keep hkp (by have := HE.out.wait; omega)).mono ?_; rintro e wA ⟨rfl, hkA, hdA⟩; have HKA : Hid (Kept (crZ w X Y) wr wA) := (Kept.of_ext (by simp (maxDischargeDepth := 60)) : Kept (crZ w X Y) wr _).trans hkA; have HXA : Hid (Ext w wA) := Ext.of_below (below_kept HXQ.out.below (Nat.le_refl _) HKA.out (fun i hi => hi.1)); have HDA := Lib.hid hdA; have HBX := Lib.hid (HE.out.wx.kept HKA.out (fun hz => hz.2.1 rfl)); have HBY := Lib.hid (HE.out.wy.kept HKA.out (fun hz => hz.2.2 rfl)); obtain ⟨ee, bb, he30, hlp, hbb⟩ := HE.out.hold; have HLP := Lib.hid hlp; have HBB := Lib.hid hbb; clear hkA hdA hlp hbb)
        | (go_at_call 16; refine (open_now (crZ_new (HXA.out.trans (by simp (maxDischargeDepth := 60))) (HBX.out.ext (by simp (maxDischargeDepth := 60))).lt (HBY.out.ext (by simp (maxDischargeDepth := 60))).lt) (HDA.out.ext (by simp (maxDischargeDepth := 60))) HLP.out l1 l4 (Nat.le_refl _) (HL.out.ext (HXA.out.trans (by simp (maxDischargeDepth := 60))))).mono ?_; rintro e wB ⟨lbB, rfl, hnB, hxB⟩; have HXAB : Hid (Ext wA wB) := Ext.trans (by simp (maxDischargeDepth := 60)) hxB; have HNB := Lib.hid hnB; clear hnB hxB))
      have hM := Ch.bookFault_iff.1 HLP.out.holds.ok
      have HMB : Hid (bb.stays.length ≤ 1000 ∧ bb.jobs.length ≤ 1000) := by have h1 := hM.s16; have h2 := hM.j8; exact ⟨by omega, by omega⟩
      have HB1 := Lib.hid (HBX.out.ext HXAB.out)
      have HB2 := Lib.hid (HBY.out.ext HXAB.out)
      have HXB := Lib.hid (HXA.out.trans HXAB.out)
      have hee : ee + 1 < 4294967296 := by omega
      have hXw2 : w.heap.size ≤ X := HE.out.hX
      have hYw2 : w.heap.size ≤ Y := HE.out.hY
      clear hM HE HXQ HBX HBY HDA HKA
      go_upto_region 27 with (go_at_call 17; refine (book_now (HNB.out.ext (by simp (maxDischargeDepth := 60))) HMB.out.1 HMB.out.2).mono ?_; rintro e wC ⟨g1, i1, g2, i2, rfl, sC, sD, hxC⟩; have HXC : Hid (Ext wB wC) := Ext.trans (by simp (maxDischargeDepth := 60)) hxC; have SC := Lib.hid sC; have SD := Lib.hid sD; clear sC sD hxC)
      generalize hWD : World.alloc _ _ = wD
      generalize hG : wC.heap.size = G
      have hxD : Ext wC wD := by rw [← hWD]; exact (by simp (maxDischargeDepth := 60))
      obtain ⟨bl, bs, bj⟩ := bb
      dsimp only at SC SD HMB
      have gg0 : wD.cell? ⟨G, 0, none⟩ = some (vi bl) := by rw [← hWD, ← hG]; simp [go_sem]
      have gg1 : wD.cell? ⟨G, 1, none⟩ = some (.slice g1 bs.length i1) := by rw [← hWD, ← hG]; simp [go_sem]
      have gg2 : wD.cell? ⟨G, 2, none⟩ = some (.slice g2 bj.length i2) := by rw [← hWD, ← hG]; simp [go_sem]
      have fG : ∀ i, wD.frozen? ⟨G, i, none⟩ = false := by intro i; rw [← hWD, ← hG]; simp [go_sem]
      have HXD := Lib.hid (HXC.out.trans hxD)
      have SCD := Lib.hid (Sl.below SC.out hxD.below)
      have SDD := Lib.hid (Sl.below SD.out hxD.below)
      have HXW := Lib.hid (HXB.out.trans HXD.out)
      have cb1 := SC.out.bound
      have cb2 := SD.out.bound
      have hXB : X < wB.heap.size := HB1.out.lt
      have hYB : Y < wB.heap.size := HB2.out.lt
      have hGB : wB.heap.size ≤ G := by rw [← hG]; exact HXC.out.below.size
      have hzs := HXD.out.below.size
      have HNG : Hid (LN (fun i => crZ w X Y i ∧ i ≠ G) db lbB 22 lv ee ⟨bl, bs, bj⟩ (Ch.Disk.restart d2 keep) wD) := (HNB.out.move (fun k hk hz => ⟨hz, by omega⟩)).ext HXD.out
      have zz3 := cell_lt gg0
      have zzX : X < wD.heap.size := by omega
      have zzY : Y < wD.heap.size := by omega
      have FG := Lib.hid fG
      have hGw : w.heap.size ≤ G := by have := HXB.out.below.size; omega
      clear hWD hG hxD SC SD HXC HNB fG
      rcases HBB.out with hbe | hbe
      · clear HBB
        subst hbe
        obtain ⟨zl, zs, zj⟩ := bz
        obtain ⟨y1, c1, y2, c2, p0, p1, p2, pX, fX, t1, t2⟩ := HB1.out.cells
        obtain ⟨z1, k1, z2, k2, q0, q1, q2, pY, fY, u1, u2⟩ := HB2.out.cells
        dsimp only at p0 p1 p2 q0 q1 q2 t1 t2 u1 u2
        have T1 := Lib.hid (Sl.below t1 HXB.out.below)
        have T2 := Lib.hid (Sl.below t2 HXB.out.below)
        have U1 := Lib.hid (Sl.below u1 HXB.out.below)
        have U2 := Lib.hid (Sl.below u2 HXB.out.below)
        have bt1 := t1.bound
        have bt2 := t2.bound
        have bu1 := u1.bound
        have bu2 := u2.bound
        have pp0 := xcell HXD.out p0
        have pp1 := xcell HXD.out p1
        have pp2 := xcell HXD.out p2
        have qq0 := xcell HXD.out q0
        have qq1 := xcell HXD.out q1
        have qq2 := xcell HXD.out q2
        clear t1 t2 u1 u2 fX fY p0 p1 p2 q0 q1 q2
        go_upto_region 29 with (first | (go_at_call 9; refine (sameBook_yes bl g1 bs.length i1 g2 bj.length i2 y1 c1 y2 c2 bs bj _ (Sl.below SCD.out (Ext.below (by simp (maxDischargeDepth := 60)))) (Sl.below SDD.out (Ext.below (by simp (maxDischargeDepth := 60)))) (Sl.below T1.out (HXD.out.trans (by simp (maxDischargeDepth := 60))).below) (Sl.below T2.out (HXD.out.trans (by simp (maxDischargeDepth := 60))).below)).mono ?_; rintro e w9 ⟨rfl, o9, n9, rfl⟩))
        all_goals go_wp2_with (first | (go_at_call 11; refine (keep_now (fun i hi => ⟨crZ_new (HXW.out.trans (by simp (maxDischargeDepth := 60))) (Nat.lt_of_lt_of_le zzX (Ext.below (by simp (maxDischargeDepth := 60)) : Below wD.heap.size wD _).size) (Nat.lt_of_lt_of_le zzY (Ext.below (by simp (maxDischargeDepth := 60)) : Below wD.heap.size wD _).size) i hi, by have hii : wD.heap.size ≤ i := Nat.le_trans (by simp) hi; omega⟩) (HNG.out.ext (by simp (maxDischargeDepth := 60))) HLP.out (Nat.le_refl _) l4 hee (HL.out.tab.ext (HXW.out.trans (by simp (maxDischargeDepth := 60)))) 9 none 0 0 none 0 0 [] [] (Sl.nil _ _ _) (Sl.nil _ _ _) (by intro b o h; rcases h with ⟨h, _⟩ | ⟨h, _⟩ <;> cases h) 0 hbf9 ⟨9, [], []⟩ rfl).mono ?_; rintro e wE ⟨rfl, hkE, e', d', he', hpE, hnE⟩; have HXE : Hid (Ext w wE) := Ext.of_below (below_kept (HXW.out.trans (by simp (maxDischargeDepth := 60)) : Ext w _).below (Nat.le_refl _) hkE (fun i hi => hi.1.1)); have HPE := Lib.hid hpE; have HNE := Lib.hid hnE; have kE := (Kept.of_ext (by simp (maxDischargeDepth := 60)) : Kept (fun i => crZ w X Y i ∧ i ≠ G) wD _).trans hkE; have r0 := cell_kept kE gg0 (fun hz => hz.2 rfl); have r1 := cell_kept kE gg1 (fun hz => hz.2 rfl); have r2 := cell_kept kE gg2 (fun hz => hz.2 rfl); have hGE := cell_lt r0; have fe0 := free_kept kE zz3 (fun hz => hz.2 rfl) (FG.out 0); have fe1 := free_kept kE zz3 (fun hz => hz.2 rfl) (FG.out 1); have fe2 := free_kept kE zz3 (fun hz => hz.2 rfl) (FG.out 2); clear hkE hpE hnE kE) | (go_at_call 16; refine (open_now (Z := fun i => w.heap.size ≤ i) (fun k hk => Nat.le_trans (HXE.out.trans (by simp (maxDischargeDepth := 60)) : Ext w _).below.size hk) (dz_wide HNE.out.dz (by simp (maxDischargeDepth := 60)) (fun i hi => hi.1.1)) HPE.out l1 l4 (Nat.le_refl _) (HL.out.ext (HXE.out.trans (by simp (maxDischargeDepth := 60))))).mono ?_; rintro e wF ⟨lbF, rfl, hnF, hxF⟩; have HXF : Hid (Ext wE wF) := Ext.trans (by simp (maxDischargeDepth := 60)) hxF; have HNF := Lib.hid hnF; clear hnF hxF; have s0 := xcell HXF.out r0; have s1 := xcell HXF.out r1; have s2 := xcell HXF.out r2; have ff0 := xfree HXF.out hGE fe0; have ff1 := xfree HXF.out hGE fe1; have ff2 := xfree HXF.out hGE fe2; have hGF := cell_lt s0) | (go_at_call 17; refine (book_now (HNF.out.ext (by simp (maxDischargeDepth := 60))) (by decide) (by decide)).mono ?_; rintro e wH ⟨h1, j1, h2, j2, rfl, -, -, hxH⟩; have HXH : Hid (Ext wF wH) := Ext.trans (by simp (maxDischargeDepth := 60)) hxH; have v0 := xcell HXH.out s0; have v1 := xcell HXH.out s1; have v2 := xcell HXH.out s2; have hh0 := xfree HXH.out hGF ff0; have hh1 := xfree HXH.out hGF ff1; have hh2 := xfree HXH.out hGF ff2; have hGH := cell_lt v0))
        all_goals
          go_wp2
          go_ret
          have hq : Ext w wH := (HXE.out.trans HXF.out).trans HXH.out
          exact ⟨by simp, ((hq.setCell (a := ⟨G, 0, none⟩) hGw _).setCell (a := ⟨G, 1, none⟩) hGw _).setCell (a := ⟨G, 2, none⟩) hGw _⟩
      · clear HBB
        subst hbe
        obtain ⟨zl, zs, zj⟩ := bx
        obtain ⟨y1, c1, y2, c2, p0, p1, p2, pX, fX, t1, t2⟩ := HB2.out.cells
        obtain ⟨z1, k1, z2, k2, q0, q1, q2, pY, fY, u1, u2⟩ := HB1.out.cells
        dsimp only at p0 p1 p2 q0 q1 q2 t1 t2 u1 u2
        have T1 := Lib.hid (Sl.below t1 HXB.out.below)
        have T2 := Lib.hid (Sl.below t2 HXB.out.below)
        have U1 := Lib.hid (Sl.below u1 HXB.out.below)
        have U2 := Lib.hid (Sl.below u2 HXB.out.below)
        have bt1 := t1.bound
        have bt2 := t2.bound
        have bu1 := u1.bound
        have bu2 := u2.bound
        have pp0 := xcell HXD.out p0
        have pp1 := xcell HXD.out p1
        have pp2 := xcell HXD.out p2
        have qq0 := xcell HXD.out q0
        have qq1 := xcell HXD.out q1
        have qq2 := xcell HXD.out q2
        clear t1 t2 u1 u2 fX fY p0 p1 p2 q0 q1 q2
        go_upto_region 29 with (first | (go_at_call_of 9 (Value.agg #[vi zl, .slice z1 zs.length k1, .slice z2 zj.length k2]); refine (sameBook_any bl zl g1 bs.length i1 g2 bj.length i2 z1 zs.length k1 z2 zj.length k2 bs zs bj zj _ (Sl.below SCD.out (Ext.below (by simp (maxDischargeDepth := 60)))) (Sl.below SDD.out (Ext.below (by simp (maxDischargeDepth := 60)))) (Sl.below U1.out (HXD.out.trans (by simp (maxDischargeDepth := 60))).below) (Sl.below U2.out (HXD.out.trans (by simp (maxDischargeDepth := 60))).below)).mono ?_; rintro e w9 ⟨⟨rr, rfl⟩, o9, n9, rfl⟩; cases rr) | (go_at_call 9; refine (sameBook_yes bl g1 bs.length i1 g2 bj.length i2 y1 c1 y2 c2 bs bj _ (Sl.below SCD.out (Ext.below (by simp (maxDischargeDepth := 60)))) (Sl.below SDD.out (Ext.below (by simp (maxDischargeDepth := 60)))) (Sl.below T1.out (HXD.out.trans (by simp (maxDischargeDepth := 60))).below) (Sl.below T2.out (HXD.out.trans (by simp (maxDischargeDepth := 60))).below)).mono ?_; rintro e w9 ⟨rfl, o9, n9, rfl⟩))
        all_goals go_wp2_with (first | (go_at_call 11; refine (keep_now (fun i hi => ⟨crZ_new (HXW.out.trans (by simp (maxDischargeDepth := 60))) (Nat.lt_of_lt_of_le zzX (Ext.below (by simp (maxDischargeDepth := 60)) : Below wD.heap.size wD _).size) (Nat.lt_of_lt_of_le zzY (Ext.below (by simp (maxDischargeDepth := 60)) : Below wD.heap.size wD _).size) i hi, by have hii : wD.heap.size ≤ i := Nat.le_trans (by simp) hi; omega⟩) (HNG.out.ext (by simp (maxDischargeDepth := 60))) HLP.out (Nat.le_refl _) l4 hee (HL.out.tab.ext (HXW.out.trans (by simp (maxDischargeDepth := 60)))) 9 none 0 0 none 0 0 [] [] (Sl.nil _ _ _) (Sl.nil _ _ _) (by intro b o h; rcases h with ⟨h, _⟩ | ⟨h, _⟩ <;> cases h) 0 hbf9 ⟨9, [], []⟩ rfl).mono ?_; rintro e wE ⟨rfl, hkE, e', d', he', hpE, hnE⟩; have HXE : Hid (Ext w wE) := Ext.of_below (below_kept (HXW.out.trans (by simp (maxDischargeDepth := 60)) : Ext w _).below (Nat.le_refl _) hkE (fun i hi => hi.1.1)); have HPE := Lib.hid hpE; have HNE := Lib.hid hnE; have kE := (Kept.of_ext (by simp (maxDischargeDepth := 60)) : Kept (fun i => crZ w X Y i ∧ i ≠ G) wD _).trans hkE; have r0 := cell_kept kE gg0 (fun hz => hz.2 rfl); have r1 := cell_kept kE gg1 (fun hz => hz.2 rfl); have r2 := cell_kept kE gg2 (fun hz => hz.2 rfl); have hGE := cell_lt r0; have fe0 := free_kept kE zz3 (fun hz => hz.2 rfl) (FG.out 0); have fe1 := free_kept kE zz3 (fun hz => hz.2 rfl) (FG.out 1); have fe2 := free_kept kE zz3 (fun hz => hz.2 rfl) (FG.out 2); clear hkE hpE hnE kE) | (go_at_call 16; refine (open_now (Z := fun i => w.heap.size ≤ i) (fun k hk => Nat.le_trans (HXE.out.trans (by simp (maxDischargeDepth := 60)) : Ext w _).below.size hk) (dz_wide HNE.out.dz (by simp (maxDischargeDepth := 60)) (fun i hi => hi.1.1)) HPE.out l1 l4 (Nat.le_refl _) (HL.out.ext (HXE.out.trans (by simp (maxDischargeDepth := 60))))).mono ?_; rintro e wF ⟨lbF, rfl, hnF, hxF⟩; have HXF : Hid (Ext wE wF) := Ext.trans (by simp (maxDischargeDepth := 60)) hxF; have HNF := Lib.hid hnF; clear hnF hxF; have s0 := xcell HXF.out r0; have s1 := xcell HXF.out r1; have s2 := xcell HXF.out r2; have ff0 := xfree HXF.out hGE fe0; have ff1 := xfree HXF.out hGE fe1; have ff2 := xfree HXF.out hGE fe2; have hGF := cell_lt s0) | (go_at_call 17; refine (book_now (HNF.out.ext (by simp (maxDischargeDepth := 60))) (by decide) (by decide)).mono ?_; rintro e wH ⟨h1, j1, h2, j2, rfl, -, -, hxH⟩; have HXH : Hid (Ext wF wH) := Ext.trans (by simp (maxDischargeDepth := 60)) hxH; have v0 := xcell HXH.out s0; have v1 := xcell HXH.out s1; have v2 := xcell HXH.out s2; have hh0 := xfree HXH.out hGF ff0; have hh1 := xfree HXH.out hGF ff1; have hh2 := xfree HXH.out hGF ff2; have hGH := cell_lt v0))
        all_goals
          go_wp2
          go_ret
          have hq : Ext w wH := (HXE.out.trans HXF.out).trans HXH.out
          exact ⟨by simp, ((hq.setCell (a := ⟨G, 0, none⟩) hGw _).setCell (a := ⟨G, 1, none⟩) hGw _).setCell (a := ⟨G, 2, none⟩) hGw _⟩

set_option maxRecDepth 100000 in
set_option maxHeartbeats 4000000 in
theorem topCrash_bad (lv fuse : Int) (keep : Int) (hlv : lv < 1 ∨ 4 < lv) {a : Option Addr} {n cap : Nat} {l : List RAct} {w : World} (h : Sl w 12 ractCells l a n cap) (hg : ∀ x ∈ l, x.Good) (L : Libs w) :
    Calls Tryd.prog 4 #[vi lv, .slice a n cap, vi fuse, .int .u64 keep] w fun e w' => e = .returned (.bool true) ∧ Ext w w' := by
  have HS := Lib.hid h
  have HG := Lib.hid hg
  have HL := Lib.hid L
  have hbf2 : Hid (Ch.bookFault ⟨2, [], []⟩ 1 = 0) := by unfold Hid; decide
  clear h hg L
  go_enter Tryd.func4, Tryd.ntmps4
  go_upto_region 4 with (first
    | (go_at_call 10; refine (kept_any 1 (by decide) (by decide) _ HL.out).mono ?_; rintro e w1 ⟨db, lb, d, rfl, hp, hn, hx⟩; have HP := Lib.hid hp; have HN := Lib.hid hn; have HX := Lib.hid hx; clear hp hn hx)
    | (go_at_call 11; refine (keep_now (fun k hk => Nat.le_trans HX.out.below.size hk) HN.out HP.out (Nat.le_refl _) (by decide) (by decide) (HL.out.tab.ext HX.out) 2 none 0 0 none 0 0 [] [] (Sl.nil _ _ _) (Sl.nil _ _ _) (by intro b o h; rcases h with ⟨h, _⟩ | ⟨h, _⟩ <;> cases h) 0 hbf2 ⟨2, [], []⟩ rfl).mono ?_; rintro e w2 ⟨rfl, hk, e', d', he', hp, hn⟩; have HX2 := Lib.hid (ext_behind HX.out hk : Ext w w2); clear hk hp hn))
  clear HP HN HX
  rcases hlv with hlv | hlv
  all_goals
    go_upto_region 6 with (go_at_call 12; (with_reducible refine (lightActs_len _ _ _ _ l _ (Sl.below HS.out (HX2.out.trans (by simp (maxDischargeDepth := 60))).below) HG.out).mono ?_); rintro e w3 ⟨lb', rfl, hb1, o2, n2, rfl⟩; cases lb')
    all_goals
      go_wp2
      go_ret
      exact ⟨rfl, HX2.out.trans (by simp (maxDischargeDepth := 60))⟩

theorem topCrash_walk (lv fuse : Int) (keep : Nat) (hkp : keep < 18446744073709551616) (hfu : -9223372036854775808 ≤ fuse ∧ fuse ≤ 9223372036854775807) {a : Option Addr} {n cap : Nat} {l : List RAct} {w : World} (h : Sl w 12 ractCells l a n cap) (hg : ∀ x ∈ l, x.Good) (hb : BooksInC w l) (L : Libs w) :
    Calls Tryd.prog 4 #[vi lv, .slice a n cap, vi fuse, .int .u64 (keep : Int)] w fun e w' => e = .returned (.bool true) ∧ Ext w w' := by
  by_cases hl : lv < 1 ∨ 4 < lv
  · exact topCrash_bad lv fuse keep hl h hg L
  · exact topCrash_ok lv fuse keep (by omega) (by omega) hkp hfu h hg hb L

end Go.Proofs.YtplomeacjbkgnacDoor
