/-
  Walks of the program's functions, and what they need: WLedgerSays2, ReadBook, ReadAct, Card.
-/
import Derived.Test.YtplomeacjbkgnaaGreatDoorPart23
import Derived.Test.YtplomeacjbkgnaaGreatDoorPart07
import Derived.Test.YtplomeacjbkgnaaGreatDoorPart17
import Derived.HandedShaped
import Derived.Stop.LaidErr
import Derived.MakeChecks
import Derived.LaidMore

namespace Go.Proofs.YtplomeacjbkgnaaGreatDoor
open Go.RowKit

theorem Sl.block_ltL {α : Type} {w : World} {c : Nat} {enc : α → List Value} {l : List α} {n cap b o : Nat} (h : Sl w c enc l (some ⟨b, o, none⟩) n cap) (hn : 0 < n) (he : ∀ x, enc x ≠ []) : b < w.heap.size := by
  obtain ⟨b', o', x, e, _, f⟩ := h.get hn
  cases e
  cases hh : enc x with
  | nil => exact absurd hh (he x)
  | cons y r => exact cell_lt (f 0 y (by rw [hh]; rfl))

/-- the book that is wanted, in its cell -/
def Wanted (w : World) (X : Nat) (b : Ch.Book) (wr : World) : Prop :=
  ∃ y1 c1 y2 c2, wr.heap[X]? = some (.cells #[vi b.last, .slice y1 b.stays.length c1, .slice y2 b.jobs.length c2] 38 (0, 0)) ∧ Sl w 8 stayCells b.stays y1 b.stays.length c1 ∧ Sl w 2 jobCells b.jobs y2 b.jobs.length c2

def ledZ (w : World) (X : Nat) (i : Nat) : Prop := w.heap.size ≤ i ∧ i ≠ X

/-- between two rounds -/
structure LRound (w : World) (X db lb n : Nat) (lv : Int) (k e : Nat) (b : Ch.Book) (d : Ch.Disk) (wr : World) : Prop where
  ep : e ≤ k + 2
  lp : LP n lv e b d
  ln : LN (ledZ w X) db lb n lv e b d wr
  x : Ext w wr
  wt : Wanted w X b wr
  m1 : b.stays.length ≤ 1000
  m2 : b.jobs.length ≤ 1000

theorem LRound.ext {w : World} {X db lb n : Nat} {lv : Int} {k e : Nat} {b : Ch.Book} {d : Ch.Disk} {wr w' : World} (h : LRound w X db lb n lv k e b d wr) (x : Ext wr w') : LRound w X db lb n lv k e b d w' := by
  obtain ⟨y1, c1, y2, c2, q1, q2, q3⟩ := h.wt
  exact ⟨h.ep, h.lp, h.ln.ext x, h.x.trans x, ⟨y1, c1, y2, c2, (x.below.block X (blk_lt q1)).trans q1, q2, q3⟩, h.m1, h.m2⟩

theorem ledZ_new {w wr : World} {X : Nat} {v : Obj} (x : Ext w wr) (hX : wr.heap[X]? = some v) : ∀ k, wr.heap.size ≤ k → ledZ w X k := fun k hk =>
  ⟨Nat.le_trans x.below.size hk, fun e => by have := (Array.getElem?_eq_some_iff.1 hX).1; omega⟩

theorem LRound.zs {w : World} {X db lb n : Nat} {lv : Int} {k e : Nat} {b : Ch.Book} {d : Ch.Disk} {wr : World} (h : LRound w X db lb n lv k e b d wr) : ∀ k, wr.heap.size ≤ k → ledZ w X k := by
  obtain ⟨y1, c1, y2, c2, q1, q2, q3⟩ := h.wt
  exact ledZ_new h.x q1

theorem LRound.kept {w : World} {X db lb n : Nat} {lv : Int} {k e : Nat} {b : Ch.Book} {d : Ch.Disk} {wr w' : World} (h : LRound w X db lb n lv k e b d wr) (k6 : Kept (ledZ w X) wr w') : Ext w w' :=
  Ext.of_below (below_kept h.x.below (Nat.le_refl _) k6 (fun i hi => hi.1))

theorem LRound.cells {w : World} {X db lb n : Nat} {lv : Int} {k e : Nat} {b : Ch.Book} {d : Ch.Disk} {wr w' : World} (h : LRound w X db lb n lv k e b d wr) (k6 : Kept (ledZ w X) wr w') :
    ∃ v0 v1 v2, w'.cell? ⟨X, 0, none⟩ = some v0 ∧ w'.cell? ⟨X, 1, none⟩ = some v1 ∧ w'.cell? ⟨X, 2, none⟩ = some v2 ∧ X < w'.heap.size ∧ ∀ i, w'.frozen? ⟨X, i, none⟩ = false := by
  obtain ⟨y1, c1, y2, c2, q1, q2, q3⟩ := h.wt
  have q := (k6.block X (blk_lt q1) (fun hz => hz.2 rfl)).trans q1
  exact ⟨_, _, _, blk_cell q rfl, blk_cell q rfl, blk_cell q rfl, blk_lt q, blk_free q⟩

/-- it was opened anew -/
theorem LRound.opened {w : World} {X db lb lb' n : Nat} {lv : Int} {k e : Nat} {b : Ch.Book} {d : Ch.Disk} {wr w' : World} (h : LRound w X db lb n lv k e b d wr) (x : Ext wr w') (hn : LN (ledZ w X) db lb' n lv e b d w') : LRound w X db lb' n lv (k + 1) e b d w' := by
  have h2 := h.ext x
  exact ⟨by have := h.ep; omega, h.lp, hn, h2.x, h2.wt, h.m1, h.m2⟩

/-- a book was not kept -/
theorem LRound.no {w : World} {X db lb n : Nat} {lv : Int} {k e e' : Nat} {b : Ch.Book} {d d' : Ch.Disk} {wr w' : World} (h : LRound w X db lb n lv k e b d wr) (k6 : Kept (ledZ w X) wr w') (he : e' ≤ e + 1) (hp : LP n lv e' b d') (hn : LN (ledZ w X) db lb n lv e' b d' w') :
    LRound w X db lb n lv (k + 1) e' b d' w' := by
  have hx := h.kept k6
  obtain ⟨y1, c1, y2, c2, q1, q2, q3⟩ := h.wt
  exact ⟨by have := h.ep; omega, hp, hn, hx, ⟨y1, c1, y2, c2, (k6.block X (blk_lt q1) (fun hz => hz.2 rfl)).trans q1, q2, q3⟩, h.m1, h.m2⟩

/-- a book was kept -/
theorem LRound.yes {w : World} {X db lb n : Nat} {lv : Int} {k e e' : Nat} {b : Ch.Book} {d d' : Ch.Disk} {wr w' w2 : World} (h : LRound w X db lb n lv k e b d wr) (k6 : Kept (ledZ w X) wr w') (he : e' ≤ e + 1) {last : Int} {ls : List Ch.Stay} {js : List Ch.Job}
    (hp : LP n lv e' ⟨last, ls, js⟩ d') (hn : LN (ledZ w X) db lb n lv e' ⟨last, ls, js⟩ d' w') (hX : w.heap.size ≤ X) (x2 : Ext w' w2) {a1 a2 : Option Addr} {m1 c1 m2 c2 : Nat} (s1 : Sl w 8 stayCells ls a1 m1 c1) (s2 : Sl w 2 jobCells js a2 m2 c2) :
    LRound w X db lb n lv (k + 1) e' ⟨last, ls, js⟩ d' (((w2.setCell ⟨X, 0, none⟩ (vi last)).setCell ⟨X, 1, none⟩ (.slice a1 m1 c1)).setCell ⟨X, 2, none⟩ (.slice a2 m2 c2)) := by
  have hx := h.kept k6
  obtain ⟨y1, d1, y2, d2, q1, q2, q3⟩ := h.wt
  have hok := Ch.bookFault_iff.1 hp.holds.ok
  have o1 := hok.s16
  have o2 := hok.j8
  have e1 := s1.len
  have e2 := s2.len
  have q4 := (k6.block X (blk_lt q1) (fun hz => hz.2 rfl)).trans q1
  have q5 := (x2.below.block X (blk_lt q4)).trans q4
  dsimp only at o1 o2
  have kk : Kept (fun i => i = X) w2 (((w2.setCell ⟨X, 0, none⟩ (vi last)).setCell ⟨X, 1, none⟩ (.slice a1 m1 c1)).setCell ⟨X, 2, none⟩ (.slice a2 m2 c2)) :=
    (((Kept.refl (fun i => i = X) w2).setCell (a := ⟨X, 0, none⟩) (Or.inl rfl) _).setCell (a := ⟨X, 1, none⟩) (Or.inl rfl) _).setCell (a := ⟨X, 2, none⟩) (Or.inl rfl) _
  refine ⟨by have := h.ep; omega, hp, (hn.ext x2).kept kk (fun i hi hz => hz.2 hi), ?_, ⟨a1, c1, a2, c2, ?_, ?_, ?_⟩, by dsimp only; omega, by dsimp only; omega⟩
  · exact Ext.of_below (below_kept (hx.trans x2).below (Nat.le_refl _) kk (fun i hi => by cases hi; exact hX))
  · rw [setCell_block (setCell_block (setCell_block q5)), e1, e2]
    rfl
  · dsimp only; rw [e1]; exact s1
  · dsimp only; rw [e2]; exact s2

set_option maxRecDepth 100000 in
set_option maxHeartbeats 8000000 in
theorem ledgerSays_ok (sec : Nat) (lv : Int) (s1 : 22 ≤ sec) (s2 : sec ≤ 40) (l1 : 1 ≤ lv) (l4 : lv ≤ 4) {a : Option Addr} {n cap : Nat} {l : List RAct} {w : World} (h : Sl w 12 ractCells l a n cap) (hg : ∀ x ∈ l, x.Good) (hb : BooksIn w l) (L : Libs w) :
    Calls Tryz.prog 3 #[vi (sec : Int), vi lv, .slice a n cap] w fun e w' => e = .returned (.bool true) ∧ Ext w w' := by
  have HS := Lib.hid h
  have HG := Lib.hid hg
  have HB := Lib.hid hb
  have HL := Lib.hid L
  have hbd := h.bound
  have i1 : ¬ ((sec : Int) < 1) := by omega
  have i2 : ¬ (40 < (sec : Int)) := by omega
  have i3 : ¬ ((sec : Int) < 22) := by omega
  have sz0 := h.len
  clear h hg hb L
  go_enter Tryz.func3, Tryz.ntmps3
  go_upto_region 4 with (first
    | (go_at_call 4; (with_reducible refine (ledgers_any _ HL.out).mono ?_); rintro e w1 ⟨rfl, o1, n1, rfl⟩)
    | (go_at_call 5; (with_reducible refine (lightActs_len _ _ _ _ l _ (Sl.below HS.out (Ext.below (by simp (maxDischargeDepth := 60)))) HG.out).mono ?_); rintro e w2 ⟨lb, rfl, hb1, o2, n2, rfl⟩; cases lb))
  all_goals try (go_ret; exact ⟨rfl, (by simp (maxDischargeDepth := 60))⟩; done)
  have hn20 : n ≤ 20 := by have := hb1 trivial; omega
  clear hb1
  go_upto_region 22 with (first
    | (go_at_call 6; refine (new_dz sec _ (by omega) s2).mono ?_; rintro e w3 ⟨db, rfl, hd, hx⟩; have HX := Lib.hid (Ext.trans (by simp (maxDischargeDepth := 60)) hx : Ext w w3); have HD : Hid (DZ (fun k => w.heap.size ≤ k) db sec (Ch.Disk.new sec) w3) := (by obtain ⟨F, g1, g2⟩ := hd; exact ⟨F, g1, fun k hk => Nat.le_trans (Ext.below (by simp (maxDischargeDepth := 60)) : Below w.heap.size w _).size (g2 k hk)⟩); clear hd hx)
    | (go_at_call 9; refine (format_now (fun k hk => Nat.le_trans (HX.out.trans (by simp (maxDischargeDepth := 60)) : Ext w _).below.size hk) (HD.out.ext (by simp (maxDischargeDepth := 60))) (Ch.calm_new sec) rfl s1 lv (HL.out.tab.ext (HX.out.trans (by simp (maxDischargeDepth := 60))))).mono ?_; rintro e w4 ⟨rfl, hk, d, hp, hd2⟩; have HX2 := Lib.hid (ext_behind (HX.out.trans (by simp (maxDischargeDepth := 60))) hk : Ext w w4); have HP := Lib.hid hp; have HD2 := Lib.hid hd2; clear hk hp hd2)
    | (go_at_call 8; refine (open_no HD.out rfl (Ch.open_new sec s1 lv) l1 l4 s1 (HL.out.ext HX.out)).mono ?_; rintro e wq ⟨rfl, oq, nq, rfl⟩)
    | (go_at_call 8; refine (open_now (fun k hk => Nat.le_trans HX2.out.below.size hk) HD2.out HP.out l1 l4 s1 (HL.out.ext HX2.out)).mono ?_; rintro e w5 ⟨lb, rfl, hn, hx⟩; have HN := Lib.hid hn; have HX3 := Lib.hid (HX2.out.trans hx); clear hn hx)
    | (go_at_call 7; (with_reducible refine (same_yes 4 _ (by decide)).mono ?_); rintro e w1 ⟨rfl, o1, n1, rfl⟩))
  obtain ⟨X, hX⟩ : ∃ X, Hid (X = w5.heap.size) := ⟨_, rfl⟩
  have hXw : w.heap.size ≤ X := by rw [hX.out]; exact HX3.out.below.size
  have R0 : Hid (LRound w X db lb sec lv 0 2 ⟨0, [], []⟩ d ((w5.alloc (.cells #[vi 0, .slice none 0 0, .slice none 0 0] 38)))) := by
    have hq := hX.out
    refine ⟨by omega, HP.out, (HN.out.move (fun k hk hz => ⟨hz, by omega⟩)).ext (by simp (maxDischargeDepth := 60)), HX3.out.trans (by simp (maxDischargeDepth := 60)), ⟨none, 0, none, 0, by rw [hq]; exact alloc_at _ _ _ rfl, Sl.nil _ _ _, Sl.nil _ _ _⟩, by decide, by decide⟩
  generalize hWW : World.alloc w5 _ = w6 at R0 ⊢
  rw [← hX.out]
  clear hWW HX HD HX2 HD2 HP HN
  go_wp2
  go_loopw [13, 16] (fun p i wr => ∃ (k e : Nat) (b : Ch.Book) (d : Ch.Disk) (lb : Nat), k ≤ n ∧ p = .pointer (some ⟨lb, 0, none⟩) ∧ i = .int .i64 (k : Int) ∧ Hid (LRound w X db lb sec lv k e b d wr)) (fun _ i _ => n - (intOf i).toNat)
  case atStart => exact ⟨0, 2, ⟨0, [], []⟩, d, lb, Nat.zero_le _, rfl, rfl, R0⟩
  case round =>
    obtain ⟨k, ep, b, d2, lb2, hk, rfl, rfl, HR⟩ := hrel
    have hep : ep + 1 < 4294967296 := by have := HR.out.ep; omega
    by_cases hlt : k < n
    · obtain ⟨ab, o, x, rfl, hx, dx⟩ := (Sl.below HS.out HR.out.x.below).get hlt
      have HDX := Lib.hid dx
      have dx := at12 dx
      have hbl := cell_lt dx.1
      have HAB : Hid (¬ ledZ w X ab) := by
        intro hz
        have hq := HS.out
        have := Sl.block_ltL hq (by omega) (by intro s; simp [ractCells])
        have := hz.1
        omega
      have hmem := List.mem_of_getElem? hx
      obtain ⟨ls, js, hls, hjs⟩ := HB.out x hmem
      have gx := HG.out x hmem
      have g1 := gx.l1
      have g2 := gx.l2
      have HLS := Lib.hid hls
      have HJS := Lib.hid hjs
      clear hmem gx hls hjs hx
      by_cases k1 : x.kind = kKeep
      · have e1 : (x.kind.toList == [107, 101, 101, 112]) = true := kind_is k1
        clear k1
        obtain ⟨F, hF⟩ : ∃ F, Hid (Ch.bookFault ⟨x.last, ls, js⟩ lv = F) := ⟨_, rfl⟩
        have hF0 : 0 ≤ F := by rw [← hF.out]; exact bookFault_nnL _ _
        have HNZ : Hid (∀ b o, (0 < x.n1 ∧ x.a1 = some ⟨b, o, none⟩) ∨ (0 < x.n2 ∧ x.a2 = some ⟨b, o, none⟩) → ¬ ledZ w X b) := by
          intro b o hh hz
          rcases hh with ⟨hp, e⟩ | ⟨hp, e⟩
          · have hq := HLS.out
            rw [e] at hq
            have := Sl.block_ltL hq hp (by intro s; simp [stayCells])
            have := hz.1
            omega
          · have hq := HJS.out
            rw [e] at hq
            have := Sl.block_ltL hq hp (by intro s; simp [jobCells])
            have := hz.1
            omega
        by_cases z : F = 0
        · subst z
          go_upto_region 35 with (first
            | (go_at_call 10; (with_reducible refine (rfault_atL 0 x.last lv x.a1 x.n1 x.c1 x.a2 x.n2 x.c2 ls js _ (Sl.below HLS.out (HR.out.ext (by simp (maxDischargeDepth := 60))).x.below) (Sl.below HJS.out (HR.out.ext (by simp (maxDischargeDepth := 60))).x.below) l1 l4 hF).mono ?_); rintro e w1 ⟨rfl, o1, n1, rfl⟩)
            | (go_at_call 11; refine (keep_now (HR.out.ext (by simp (maxDischargeDepth := 60))).zs (HR.out.ext (by simp (maxDischargeDepth := 60))).ln HR.out.lp s1 l4 hep (HL.out.tab.ext (HR.out.ext (by simp (maxDischargeDepth := 60))).x) x.last x.a1 x.n1 x.c1 x.a2 x.n2 x.c2 ls js (Sl.below HLS.out (HR.out.ext (by simp (maxDischargeDepth := 60))).x.below) (Sl.below HJS.out (HR.out.ext (by simp (maxDischargeDepth := 60))).x.below) HNZ.out 0 hF ⟨x.last, ls, js⟩ rfl).mono ?_; rintro e w7 ⟨rfl, hk7, e', d', he', hp7, hn7⟩; have HK7 := Lib.hid ((Kept.of_ext (by simp (maxDischargeDepth := 60))).trans hk7 : Kept (ledZ w X) wr w7); have HP7 := Lib.hid hp7; have HN7 := Lib.hid hn7; obtain ⟨v0, v1, v2, p0, p1, p2, p3, p4⟩ := HR.out.cells HK7.out; have dx6 : ∀ (j : Nat) (y : Value), (ractCells x)[j]? = some y → w7.cell? ⟨ab, o + k * 12 + j, none⟩ = some y := (fun j y hy => cell_kept HK7.out (HDX.out j y hy) HAB.out); have dx7 := at12 dx6; have hb7 := cell_lt dx7.1; clear dx6; clear hk7 hp7 hn7)
            | (go_at_call 7; (with_reducible refine (same_nilL _).mono ?_); rintro e w1 ⟨rfl, o1, n1, rfl⟩))
          generalize hW : World.setCell _ _ _ = wt
          have HR2 : Hid (LRound w X db lb2 sec lv (k + 1) e' ⟨x.last, ls, js⟩ d' wt) := by rw [← hW]; exact HR.out.yes HK7.out he' HP7.out HN7.out hXw (by simp (maxDischargeDepth := 60)) HLS.out HJS.out
          generalize (⟨x.last, ls, js⟩ : Ch.Book) = bb at HR2
          clear hW p0 p1 p2 p3 p4 dx7 hb7 HDX HK7 HP7 HN7 HR dx HNZ
          obtain ⟨bl, bs, bj⟩ := bb
          obtain ⟨y1, c1, y2, c2, q0, t1, t2⟩ := HR2.out.wt
          have HM := Lib.hid (And.intro HR2.out.m1 HR2.out.m2)
          have HN := Lib.hid HR2.out.ln
          have q1 : wt.cell? ⟨X, 0, none⟩ = some (vi bl) := blk_cell (i := 0) q0 rfl
          have q2 : wt.cell? ⟨X, 1, none⟩ = some (.slice y1 bs.length c1) := blk_cell (i := 1) q0 rfl
          have q3 : wt.cell? ⟨X, 2, none⟩ = some (.slice y2 bj.length c2) := blk_cell (i := 2) q0 rfl
          have zX := blk_lt q0
          have b1 := t1.bound
          have b2 := t2.bound
          dsimp only at t1 t2 b1 b2
          have T1 := Lib.hid (Sl.below t1 HR2.out.x.below)
          have T2 := Lib.hid (Sl.below t2 HR2.out.x.below)
          clear q0 t1 t2
          go_region_held3 (fun w' => w'.cell? ⟨X, 0, none⟩ = some (vi bl) ∧ w'.cell? ⟨X, 1, none⟩ = some (.slice y1 bs.length c1) ∧ w'.cell? ⟨X, 2, none⟩ = some (.slice y2 bj.length c2))
            (first | ((try dsimp only); (repeat' apply And.intro) <;> first | (with_reducible assumption) | (refine xcell (w := wt) ?_ (by with_reducible assumption); simp (maxDischargeDepth := 60); done)))
            (first
              | (go_at_call 13; refine (book_now (HN.out.ext (by simp (maxDischargeDepth := 60))) HM.out.1 HM.out.2).mono ?_; rintro e w8 ⟨z1, f1, z2, f2, rfl, s8, s9, ⟨o8, n8, rfl⟩⟩; dsimp only at s8 s9 ⊢; have S8 := Lib.hid s8; have S9 := Lib.hid s9; clear s8 s9)
              | (go_at_call 12; refine (sameBook_yes bl z1 bs.length f1 z2 bj.length f2 y1 c1 y2 c2 bs bj _ (Sl.below S8.out (Ext.below (by simp (maxDischargeDepth := 60)))) (Sl.below S9.out (Ext.below (by simp (maxDischargeDepth := 60)))) (Sl.below T1.out (Ext.below (by simp (maxDischargeDepth := 60)))) (Sl.below T2.out (Ext.below (by simp (maxDischargeDepth := 60))))).mono ?_; rintro e w9 ⟨rfl, o9, n9, rfl⟩))
          all_goals
            go_wp2
            go_roundw
            case rel => exact ⟨k + 1, _, _, _, _, by omega, rfl, by go_num, HR2.out.ext (by simp (maxDischargeDepth := 60))⟩
            case measure => simp [intOf]; omega
        · obtain ⟨bb, HBB⟩ : ∃ bb, Hid (bb = if F = 0 then ⟨x.last, ls, js⟩ else b) := ⟨_, rfl⟩
          have hbb : bb = b := by rw [HBB.out, if_neg z]
          go_upto_region 35 with (first
            | (go_at_call 10; (with_reducible refine (rfault_atL F x.last lv x.a1 x.n1 x.c1 x.a2 x.n2 x.c2 ls js _ (Sl.below HLS.out (HR.out.ext (by simp (maxDischargeDepth := 60))).x.below) (Sl.below HJS.out (HR.out.ext (by simp (maxDischargeDepth := 60))).x.below) l1 l4 hF).mono ?_); rintro e w1 ⟨rfl, o1, n1, rfl⟩)
            | (go_at_call 11; refine (keep_now (HR.out.ext (by simp (maxDischargeDepth := 60))).zs (HR.out.ext (by simp (maxDischargeDepth := 60))).ln HR.out.lp s1 l4 hep (HL.out.tab.ext (HR.out.ext (by simp (maxDischargeDepth := 60))).x) x.last x.a1 x.n1 x.c1 x.a2 x.n2 x.c2 ls js (Sl.below HLS.out (HR.out.ext (by simp (maxDischargeDepth := 60))).x.below) (Sl.below HJS.out (HR.out.ext (by simp (maxDischargeDepth := 60))).x.below) HNZ.out F hF bb HBB).mono ?_; rintro e w7 ⟨rfl, hk7, e', d', he', hp7, hn7⟩; have HK7 := Lib.hid ((Kept.of_ext (by simp (maxDischargeDepth := 60))).trans hk7 : Kept (ledZ w X) wr w7); have HP7 := Lib.hid hp7; have HN7 := Lib.hid hn7; obtain ⟨v0, v1, v2, p0, p1, p2, p3, p4⟩ := HR.out.cells HK7.out; have dx6 : ∀ (j : Nat) (y : Value), (ractCells x)[j]? = some y → w7.cell? ⟨ab, o + k * 12 + j, none⟩ = some y := (fun j y hy => cell_kept HK7.out (HDX.out j y hy) HAB.out); have dx7 := at12 dx6; have hb7 := cell_lt dx7.1; clear dx6; clear hk7 hp7 hn7)
            | (go_at_call 7; (with_reducible refine (same_yes F _ hF0).mono ?_); rintro e w1 ⟨rfl, o1, n1, rfl⟩))
          generalize hW : World.plus _ _ _ = wt
          have HR2 : Hid (LRound w X db lb2 sec lv (k + 1) e' bb d' wt) := by rw [← hW]; rw [hbb] at HP7 HN7 ⊢; exact (HR.out.no HK7.out he' HP7.out HN7.out).ext (by simp (maxDischargeDepth := 60))
          clear hW p0 p1 p2 p3 p4 dx7 hb7 HDX HK7 HP7 HN7 HR dx HNZ hbb HBB
          obtain ⟨bl, bs, bj⟩ := bb
          obtain ⟨y1, c1, y2, c2, q0, t1, t2⟩ := HR2.out.wt
          have HM := Lib.hid (And.intro HR2.out.m1 HR2.out.m2)
          have HN := Lib.hid HR2.out.ln
          have q1 : wt.cell? ⟨X, 0, none⟩ = some (vi bl) := blk_cell (i := 0) q0 rfl
          have q2 : wt.cell? ⟨X, 1, none⟩ = some (.slice y1 bs.length c1) := blk_cell (i := 1) q0 rfl
          have q3 : wt.cell? ⟨X, 2, none⟩ = some (.slice y2 bj.length c2) := blk_cell (i := 2) q0 rfl
          have zX := blk_lt q0
          have b1 := t1.bound
          have b2 := t2.bound
          dsimp only at t1 t2 b1 b2
          have T1 := Lib.hid (Sl.below t1 HR2.out.x.below)
          have T2 := Lib.hid (Sl.below t2 HR2.out.x.below)
          clear q0 t1 t2
          go_region_held3 (fun w' => w'.cell? ⟨X, 0, none⟩ = some (vi bl) ∧ w'.cell? ⟨X, 1, none⟩ = some (.slice y1 bs.length c1) ∧ w'.cell? ⟨X, 2, none⟩ = some (.slice y2 bj.length c2))
            (first | ((try dsimp only); (repeat' apply And.intro) <;> first | (with_reducible assumption) | (refine xcell (w := wt) ?_ (by with_reducible assumption); simp (maxDischargeDepth := 60); done)))
            (first
              | (go_at_call 13; refine (book_now (HN.out.ext (by simp (maxDischargeDepth := 60))) HM.out.1 HM.out.2).mono ?_; rintro e w8 ⟨z1, f1, z2, f2, rfl, s8, s9, ⟨o8, n8, rfl⟩⟩; dsimp only at s8 s9 ⊢; have S8 := Lib.hid s8; have S9 := Lib.hid s9; clear s8 s9)
              | (go_at_call 12; refine (sameBook_yes bl z1 bs.length f1 z2 bj.length f2 y1 c1 y2 c2 bs bj _ (Sl.below S8.out (Ext.below (by simp (maxDischargeDepth := 60)))) (Sl.below S9.out (Ext.below (by simp (maxDischargeDepth := 60)))) (Sl.below T1.out (Ext.below (by simp (maxDischargeDepth := 60)))) (Sl.below T2.out (Ext.below (by simp (maxDischargeDepth := 60))))).mono ?_; rintro e w9 ⟨rfl, o9, n9, rfl⟩))
          all_goals
            go_wp2
            go_roundw
            case rel => exact ⟨k + 1, _, _, _, _, by omega, rfl, by go_num, HR2.out.ext (by simp (maxDischargeDepth := 60))⟩
            case measure => simp [intOf]; omega
      · have e1 : (x.kind.toList == [107, 101, 101, 112]) = false := str_ne k1
        clear k1
        go_upto_region 35 with (first
          | (go_at_call 8; refine (open_now (HR.out.ext (by simp (maxDischargeDepth := 60))).zs (HR.out.ext (by simp (maxDischargeDepth := 60))).ln.dz HR.out.lp l1 l4 s1 (HL.out.ext (HR.out.ext (by simp (maxDischargeDepth := 60))).x)).mono ?_; rintro e wt ⟨lb7, rfl, hn7, hx7⟩; have HR2 := Lib.hid ((HR.out.ext (by simp (maxDischargeDepth := 60))).opened hx7 hn7); clear hn7 hx7))
        clear HR dx HDX
        generalize b = bb at HR2
        obtain ⟨bl, bs, bj⟩ := bb
        obtain ⟨y1, c1, y2, c2, q0, t1, t2⟩ := HR2.out.wt
        have HM := Lib.hid (And.intro HR2.out.m1 HR2.out.m2)
        have HN := Lib.hid HR2.out.ln
        have q1 : wt.cell? ⟨X, 0, none⟩ = some (vi bl) := blk_cell (i := 0) q0 rfl
        have q2 : wt.cell? ⟨X, 1, none⟩ = some (.slice y1 bs.length c1) := blk_cell (i := 1) q0 rfl
        have q3 : wt.cell? ⟨X, 2, none⟩ = some (.slice y2 bj.length c2) := blk_cell (i := 2) q0 rfl
        have zX := blk_lt q0
        have b1 := t1.bound
        have b2 := t2.bound
        dsimp only at t1 t2 b1 b2
        have T1 := Lib.hid (Sl.below t1 HR2.out.x.below)
        have T2 := Lib.hid (Sl.below t2 HR2.out.x.below)
        clear q0 t1 t2
        go_region_held3 (fun w' => w'.cell? ⟨X, 0, none⟩ = some (vi bl) ∧ w'.cell? ⟨X, 1, none⟩ = some (.slice y1 bs.length c1) ∧ w'.cell? ⟨X, 2, none⟩ = some (.slice y2 bj.length c2))
          (first | ((try dsimp only); (repeat' apply And.intro) <;> first | (with_reducible assumption) | (refine xcell (w := wt) ?_ (by with_reducible assumption); simp (maxDischargeDepth := 60); done)))
          (first
            | (go_at_call 13; refine (book_now (HN.out.ext (by simp (maxDischargeDepth := 60))) HM.out.1 HM.out.2).mono ?_; rintro e w8 ⟨z1, f1, z2, f2, rfl, s8, s9, ⟨o8, n8, rfl⟩⟩; dsimp only at s8 s9 ⊢; have S8 := Lib.hid s8; have S9 := Lib.hid s9; clear s8 s9)
            | (go_at_call 12; refine (sameBook_yes bl z1 bs.length f1 z2 bj.length f2 y1 c1 y2 c2 bs bj _ (Sl.below S8.out (Ext.below (by simp (maxDischargeDepth := 60)))) (Sl.below S9.out (Ext.below (by simp (maxDischargeDepth := 60)))) (Sl.below T1.out (Ext.below (by simp (maxDischargeDepth := 60)))) (Sl.below T2.out (Ext.below (by simp (maxDischargeDepth := 60))))).mono ?_; rintro e w9 ⟨rfl, o9, n9, rfl⟩))
        all_goals
          go_wp2
          go_roundw
          case rel => exact ⟨k + 1, _, _, _, _, by omega, rfl, by go_num, HR2.out.ext (by simp (maxDischargeDepth := 60))⟩
          case measure => simp [intOf]; omega
    · have hkn : k = n := by omega
      subst hkn
      go_wp2
      go_ret
      exact ⟨rfl, HR.out.x⟩

theorem ledgerSays_walk (sec lv : Int) {a : Option Addr} {n cap : Nat} {l : List RAct} {w : World} (h : Sl w 12 ractCells l a n cap) (hg : ∀ x ∈ l, x.Good) (hb : BooksIn w l) (L : Libs w) :
    Calls Tryz.prog 3 #[vi sec, vi lv, .slice a n cap] w fun e w' => e = .returned (.bool true) ∧ Ext w w' := by
  by_cases hs : sec < 1 ∨ 40 < sec
  · exact ledgerSays_bad sec lv hs h hg L
  · obtain ⟨k, rfl⟩ := Int.eq_ofNat_of_zero_le (a := sec) (by omega)
    by_cases hl : lv < 1 ∨ 4 < lv
    · exact ledgerSays_none k lv (by omega) (by omega) hl h hg L
    · by_cases h22 : k < 22
      · exact ledgerSays_small k lv (by omega) h22 (by omega) (by omega) h hg L
      · exact ledgerSays_ok k lv (by omega) (by omega) (by omega) (by omega) h hg hb L

end Go.Proofs.YtplomeacjbkgnaaGreatDoor

namespace Go.Proofs.YtplomeacjbkgnaaGreatDoor
open Go.RowKit
variable {H : Type} {enc : TypeId × Value → H} {w : World}

theorem rd_book {cs : List Value} (h : Rd enc Tryz.prog w 38 cs) : ∃ last a1 n1 c1 a2 n2 c2 l js, cs = [vi last, .slice a1 n1 c1, .slice a2 n2 c2] ∧ Sl w 8 stayCells l a1 n1 c1 ∧ Sl w 2 jobCells js a2 n2 c2 ∧ I64 last ∧ (∀ s ∈ l, I64Y s) ∧ ∀ j ∈ js, I64J j := by
  obtain ⟨hl, hf⟩ := rd_struct [(3, 0, 1), (35, 1, 1), (36, 2, 1)] 3 (by kernel_rfl) (by kernel_rfl) (by kernel_rfl) h
  obtain ⟨last, h0, g0⟩ := rd_int Tryz.underlying3 (hf (3, 0, 1) (by simp))
  obtain ⟨l, a1, n1, c1, h1, s1, g1⟩ := rd_list (c := 8) stayCells I64Y (by decide) (fun _ => rfl) Tryz.underlying35 (by kernel_rfl) (fun ecs h => rd_stay h) (hf (35, 1, 1) (by simp))
  obtain ⟨js, a2, n2, c2, h2, s2, g2⟩ := rd_list (c := 2) jobCells I64J (by decide) (fun _ => rfl) Tryz.underlying36 (by kernel_rfl) (fun ecs h => rd_job h) (hf (36, 2, 1) (by simp))
  refine ⟨last, a1, n1, c1, a2, n2, c2, l, js, ?_, s1, s2, g0, g1, g2⟩
  match cs, hl with
  | [x0, x1, x2], _ => simp at h0 h1 h2; simp [h0, h1, h2]
end Go.Proofs.YtplomeacjbkgnaaGreatDoor

namespace Go.Proofs.YtplomeacjbkgnaaGreatDoor
open Go.ChangeShapes Go.WideShapes Go.ChangeAt Go.RowKit
variable {H : Type} {enc : TypeId × Value → H} {w : World}

def RAct.Whole (w : World) (x : RAct) : Prop := x.Good ∧ ∃ ls js, Sl w 8 stayCells ls x.a1 x.n1 x.c1 ∧ Sl w 2 jobCells js x.a2 x.n2 x.c2

theorem rd_actB {cs : List Value} (h : Rd enc Tryz.prog w 45 cs) : ∃ x : RAct, cs = ractCells x ∧ x.Whole w := by
  obtain ⟨hl, hf⟩ := rd_struct [(9, 0, 1), (3, 1, 1), (3, 2, 1), (42, 3, 4), (9, 7, 1), (43, 8, 1), (38, 9, 3)] 12 (by kernel_rfl) (by kernel_rfl) (by kernel_rfl) h
  obtain ⟨kd, h0, g0⟩ := rd_string (by kernel_rfl) (hf (9, 0, 1) (by simp))
  obtain ⟨a, h1, g1⟩ := rd_int Tryz.underlying3 (hf (3, 1, 1) (by simp))
  obtain ⟨b, h2, g2⟩ := rd_int Tryz.underlying3 (hf (3, 2, 1) (by simp))
  obtain ⟨c, h3, g3⟩ := rd_car (hf (42, 3, 4) (by simp))
  obtain ⟨s, h4, g4⟩ := rd_string (by kernel_rfl) (hf (9, 7, 1) (by simp))
  obtain ⟨k, h5, g5, g5'⟩ := rd_u64 (by kernel_rfl) (hf (43, 8, 1) (by simp))
  obtain ⟨last, a1, n1, c1, a2, n2, c2, l, js, h6, s1, s2, g6, _, _⟩ := rd_book (hf (38, 9, 3) (by simp))
  refine ⟨⟨kd, a, b, c, s, k, last, a1, n1, c1, a2, n2, c2⟩, ?_, ⟨g0, g4, g1, g2, g3, g6, g5, g5', s1.bound, s2.bound⟩, l, js, s1, s2⟩
  match cs, hl with
  | [x0, x1, x2, x3, x4, x5, x6, x7, x8, x9, x10, x11], _ => simp [carCells] at h0 h1 h2 h3 h4 h5 h6; simp [ractCells, h0, h1, h2, h3, h4, h5, h6]

theorem wholes_good {l : List RAct} (h : ∀ x ∈ l, RAct.Whole w x) : ∀ x ∈ l, x.Good := fun x hx => (h x hx).1

end Go.Proofs.YtplomeacjbkgnaaGreatDoor

namespace Go.Proofs.YtplomeacjbkgnaaGreatDoor
open Go.ChangeShapes Go.WideShapes Go.ChangeAt Go.RowKit

/-- a row's frame, with the listed variables and the shape of the world at hand -/
theorem handed_laid_shaped {H : Type} {enc : TypeId × Value → H} {a : Assume} {C : Checked} {os : Os} {f : FuncId} {fn : Func} {s : ChangeSpec} {conds : List PathCond} {apart fresh handsOn again : Bool} {X : World → Array Value → Prop}
    (hX : ∀ (w w' : World) (args : Array Value), w.heap = w'.heap → X w args → X w' args)
    (own : ownKnob C.prog.godebug = none) (started : os.Started) (noInit : C.prog.inits.idxOf? f = none) (hfn : C.prog.funcs[f]? = some fn)
    (witness : ∃ (w : World) (tape : Tape) (i : Input), w.os = os ∧ (w.forCall tape i).Shaped C.prog ∧ i.vars = [] ∧ Input.okWide C.prog (w.forCall tape i) .any w.heap.size f i ∧
      ((s.pre enc C.prog fn conds apart (w.forCall tape i).memory i.args ∧ X (w.forCall tape i).memory i.args) ∧ sizedMet enc C.prog fn (OpenSpec.ofChange s) apart (w.forCall tape i).memory i.args) ∧ a.holds C.prog (lone (Frame.enter C.prog f i.args .normal) [] (w.forCall tape i)))
    (contract : ∀ (W : World) (base : Nat) (args : Array Value) (ds gs : List (DataW H)) (before : List MemPlace),
      (∀ (j : Nat) t v, fn.params[j]? = some t → args[j]? = some v → Value.okWide C.prog W .any base t v) →
      DataW.Whole enc C.prog fn.params.toList s.vars apart W args.toList ds gs before →
      (DataW.weightsEach C.prog (fn.params.toList ++ s.plain.varTypes C.prog) (ds ++ gs)).all (· ≤ reachBytes) = true → X W args → W.ShapedOpen C.prog →
      Calls C.prog f args W fun e W' => ∃ v, e = .returned v ∧ s.post enc C.prog fn apart fresh handsOn again W args v W') :
    ReturnsInHanded a C os f .any (fun w args => (s.pre enc C.prog fn conds apart w args ∧ X w args) ∧ sizedMet enc C.prog fn (OpenSpec.ofChange s) apart w args) (s.post enc C.prog fn apart fresh handsOn again) := by
  refine returnsInHanded_of_calls own started noInit witness fun w tape i _ hshape _ hok hpre _ => ?_
  obtain ⟨_, _, _, g, hg, _, _, _, _, hval⟩ := hok
  obtain rfl : g = fn := Option.some.inj (hg.symm.trans hfn)
  obtain ⟨⟨⟨ds, gs, before, hw, _⟩, hx⟩, hz⟩ := hpre
  refine (contract (w.forCall tape i) w.heap.size i.args ds gs before hval (DataW.Whole.of_heap (by rfl) hw) (hz.weights hw) (hX _ _ _ (by rfl) hx) hshape).mono ?_
  rintro e W' ⟨v, rfl, hp⟩
  exact ChangeSpec.post_blind hp

/-- the name of the library's type of errors, as a pointer -/
def starN : String := String.ofList (Char.ofNat 42 :: String.toList "errors.errorString")

theorem star_rows : ∀ t, t = starN → ((List.range Tryz.prog.types.size).all fun u => Tryz.prog.typeName? 3 u != some t || u == 147) = true := by
  intro t ht; subst ht; kernel_rfl

theorem rowErr (s : String) (hs : s = starN) (u : TypeId) (h : Tryz.prog.typeName? 3 u = some s) : u = 147 :=
  typeName_ptr_named (nm := "errors.errorString") (star_rows _ (by decide)) (by kernel_rfl) (by decide) u (by rw [h, hs]; exact congrArg some (by decide))

theorem tab_of {w : World} {name : String} (hg : Tryz.prog.globalNamed name = some 3) (h : Lib.TabIs Tryz.prog w name .u64 Lib.pow10Tab) : Tab w := by
  unfold Lib.TabIs World.var? at h
  rw [hg] at h
  simp only [Option.bind_some] at h
  split at h
  · rename_i cs t fr hb
    cases h
    exact ⟨t, fr, hb⟩
  · cases h

theorem cell_of_var {w : World} {name : String} {g : Nat} {tp : TypeId} {p : Value} (hg : Tryz.prog.globalNamed name = some g) (h : w.var? Tryz.prog name = some #[.iface tp p]) : w.cell? ⟨g, 0, none⟩ = some (.iface tp p) := by
  have h0 := World.var?_cell hg h 0
  simpa using h0

/-- what the library reads -/
theorem libs_of {w : World} {n0 n1 n2 n3 n4 n5 : String} {d0 d1 d2 d3 d4 d5 : DataW Unit} {s4 s5 : String} {x4 x5 : List UInt8} {r : List (String × DataW Unit)}
    (h : laidMet Tryz.prog ((n0, d0) :: (n1, d1) :: (n2, d2) :: (n3, d3) :: (n4, d4) :: (n5, d5) :: r) w) (hs : w.ShapedOpen Tryz.prog)
    (e2 : d2 = Lib.tabData .u64 Lib.pow10Tab) (e4 : d4 = .iface s4 (.ptr (.agg [.lit (.string x4)]))) (q4 : s4 = starN) (e5 : d5 = .iface s5 (.ptr (.agg [.lit (.string x5)]))) (q5 : s5 = starN)
    (g2 : Tryz.prog.globalNamed n2 = some 3) (g4 : Tryz.prog.globalNamed n4 = some 1) (g5 : Tryz.prog.globalNamed n5 = some 0) : Libs w := by
  subst e2 e4 e5
  have h2 := h.tail.tail
  obtain ⟨_, _, hv4, -, -, -⟩ := laid_sentinel h2.tail.tail g4 (by kernel_rfl) (Tryz.underlying27) (rowErr _ q4) Tryz.underlying147 Tryz.underlying149 rfl rfl Tryz.underlying9 (by kernel_rfl) (by kernel_rfl)
  obtain ⟨_, _, hv5, -, -, -⟩ := laid_sentinel h2.tail.tail.tail g5 (by kernel_rfl) (Tryz.underlying27) (rowErr _ q5) Tryz.underlying147 Tryz.underlying149 rfl rfl Tryz.underlying9 (by kernel_rfl) (by kernel_rfl)
  exact ⟨tab_of g2 (Lib.tabIs_of_head g2 (t := 151) (e := 43) (n := 20) (by kernel_rfl) (by kernel_rfl) (by kernel_rfl) (by kernel_rfl) (by kernel_rfl) h2), Tryz.laysM146.s1_3 w hs, ⟨_, _, cell_of_var g5 hv5⟩, ⟨_, _, cell_of_var g4 hv4⟩⟩
end Go.Proofs.YtplomeacjbkgnaaGreatDoor
