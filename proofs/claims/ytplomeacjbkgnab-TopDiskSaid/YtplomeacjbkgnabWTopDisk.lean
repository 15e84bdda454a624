/-
  The walk of TopDisk.
-/
import Derived.Test.YtplomeacjbkgnabDisk7
import Derived.Test.YtplomeacjbkgnabAct
namespace Go.Proofs.Ytplomeacjbkgnab
open Go.RowKit

/-- a list of acts is light, or not: it is told; a light one is short -/
def ToldN (w : World) (n : Nat) (m : Int) (e : Ending) (w' : World) : Prop := ∃ b, e = .returned (.bool b) ∧ (b = true → (n : Int) ≤ m) ∧ Ext w w'

set_option maxRecDepth 100000 in
set_option maxHeartbeats 2000000 in
theorem lightActs_len (m : Int) (a : Option Addr) (n cap : Nat) (l : List RAct) (w : World) (h : Sl w 12 ractCells l a n cap) (hg : ∀ x ∈ l, x.Good) :
    Calls Try.prog 22 #[.slice a n cap, vi m] w (ToldN w n m) := by
  by_cases hm : (n : Int) ≤ m
  · refine (lightActs_any m a n cap l w h hg).mono ?_
    rintro e w' ⟨b, rfl, hx⟩
    exact ⟨b, rfl, fun _ => hm, hx⟩
  · have hm' : m < (n : Int) := by omega
    clear h hg hm
    go_enter Try.func22, Try.ntmps22
    go_wp2
    go_ret
    exact ⟨false, rfl, (fun h => by cases h), (by simp (maxDischargeDepth := 60))⟩

/-- a disk that stands, and never falls -/
structure Calm4 (d : Ch.Disk) : Prop where
  wf : d.WF 4
  down : d.down = false
  fuse : d.fuse = -1

theorem Calm4.stepped {d : Ch.Disk} (h : Calm4 d) : d.stepped = d := by
  unfold Ch.Disk.stepped
  have h1 := h.down
  have h2 := h.fuse
  rw [if_neg (by rw [h1]; simp), if_neg (by rw [h2]; decide), h2]
  cases d
  simp only at h2
  subst h2
  rfl

theorem Calm4.write {d : Ch.Disk} (h : Calm4 d) (k : Int) (s : ByteArray) : Calm4 (d.write k s).1 := by
  refine ⟨h.wf.write k s, ?_, ?_⟩
  · unfold Ch.Disk.write
    rw [h.stepped]
    split
    · exact h.down
    · rw [if_neg (by rw [h.down]; simp)]; exact h.down
  · unfold Ch.Disk.write
    rw [h.stepped]
    split
    · exact h.fuse
    · rw [if_neg (by rw [h.down]; simp)]; exact h.fuse

theorem Calm4.write_no {d : Ch.Disk} (h : Calm4 d) {k : Int} {s : ByteArray} (hb : k < 0 ∨ 4 ≤ k ∨ 64 < s.size) : d.write k s = (d, 1) := by
  unfold Ch.Disk.write
  have hn := h.wf.now
  rw [if_pos (by omega)]

theorem Calm4.write_yes {d : Ch.Disk} (h : Calm4 d) {j : Nat} {s : ByteArray} (hj : j < 4) (hs : s.size ≤ 64) : d.write (j : Int) s = ({ d with now := d.now.set j (Ch.fullS s), wait := d.wait ++ [(j, Ch.fullS s)] }, 0) := by
  unfold Ch.Disk.write
  have hn := h.wf.now
  rw [if_neg (by omega), h.stepped, if_neg (by rw [h.down]; simp)]
  simp

theorem Calm4.flush {d : Ch.Disk} (h : Calm4 d) : d.flush = ({ d with kept := d.now, wait := [] }, 0) := by
  unfold Ch.Disk.flush
  rw [h.stepped, if_neg (by rw [h.down]; simp)]

theorem Calm4.flushed {d : Ch.Disk} (h : Calm4 d) : Calm4 { d with kept := d.now, wait := [] } :=
  ⟨by have := h.wf.flush; rw [h.flush] at this; exact this, h.down, h.fuse⟩

theorem Calm4.read {d : Ch.Disk} (h : Calm4 d) {j : Nat} {s : ByteArray} (hs : d.now[j]? = some s) : d.read (j : Int) = (s, 0) := by
  have hj : j < d.now.length := by
    by_cases hj : j < d.now.length
    · exact hj
    · rw [List.getElem?_eq_none (by omega)] at hs; cases hs
  unfold Ch.Disk.read
  rw [if_neg (by rw [h.down]; simp), if_neg (by omega)]
  simp [List.getD, hs]

theorem Calm4.write_len {d : Ch.Disk} (h : Calm4 d) (k : Int) (s : ByteArray) : (d.write k s).1.wait.length ≤ d.wait.length + 1 := by
  by_cases hb : k < 0 ∨ 4 ≤ k ∨ 64 < s.size
  · rw [h.write_no hb]; exact Nat.le_add_right _ _
  · obtain ⟨j, rfl⟩ : ∃ j : Nat, k = (j : Int) := ⟨k.toNat, by omega⟩
    rw [h.write_yes (by omega) (by omega)]; simp

/-- a disk that is at hand, behind w -/
structure DBe (w wr : World) (F : Nat → Prop) (db : Nat) (d : Ch.Disk) : Prop where
  at_ : DiskAt wr F db 4 d
  calm : Calm4 d
  new : ∀ b, F b → w.heap.size ≤ b
  below : Below w.heap.size w wr

theorem DBe.ext {w wr w' : World} {F : Nat → Prop} {db : Nat} {d : Ch.Disk} (h : DBe w wr F db d) (e : Ext wr w') : DBe w w' F db d :=
  ⟨h.at_.ext e, h.calm, h.new, h.below.trans (by have := e.below; exact ⟨this.os, this.tape, this.output, this.size, fun k hk => this.block k (by have := h.below.size; omega)⟩)⟩

theorem DBe.next {w wr w' : World} {F F' : Nat → Prop} {db : Nat} {d d' : Ch.Disk} (h : DBe w wr F db d) (h1 : DiskAt w' F' db 4 d') (h2 : ∀ k, F' k → F k ∨ wr.heap.size ≤ k) (k : Kept F wr w') (hc : Calm4 d') : DBe w w' F' db d' :=
  ⟨h1, hc, fun b hb => by rcases h2 b hb with hb | hb; exact h.new b hb; have := h.below.size; omega, below_kept h.below (Nat.le_refl _) k h.new⟩

/-- and a row of four strings beside it -/
structure DWant (w wr : World) (F : Nat → Prop) (db W : Nat) (d : Ch.Disk) (l : List ByteArray) : Prop where
  be : DBe w wr F db d
  row : wr.heap[W]? = some (.cells (l.map vs).toArray 55 (0, 0))
  len : l.length = 4
  out : ¬ F W
  new : w.heap.size ≤ W

theorem DWant.ext {w wr w' : World} {F : Nat → Prop} {db W : Nat} {d : Ch.Disk} {l : List ByteArray} (h : DWant w wr F db W d l) (e : Ext wr w') : DWant w w' F db W d l :=
  ⟨h.be.ext e, (ext_heap e (blk_lt h.row)).trans h.row, h.len, h.out, h.new⟩

theorem DWant.next {w wr w' : World} {F F' : Nat → Prop} {db W : Nat} {d d' : Ch.Disk} {l : List ByteArray} (h : DWant w wr F db W d l) (h1 : DiskAt w' F' db 4 d') (h2 : ∀ k, F' k → F k ∨ wr.heap.size ≤ k) (k : Kept F wr w') (hc : Calm4 d') : DWant w w' F' db W d' l :=
  ⟨h.be.next h1 h2 k hc, (k.block W (blk_lt h.row) h.out).trans h.row, h.len, (fun c => by rcases h2 W c with c | c; exact h.out c; have := blk_lt h.row; omega), h.new⟩

theorem DWant.set {w wr : World} {F : Nat → Prop} {db W : Nat} {d : Ch.Disk} {l : List ByteArray} (h : DWant w wr F db W d l) (j : Nat) (s : ByteArray) : DWant w (wr.setCell ⟨W, j, none⟩ (vs s)) F db W d (l.set j s) := by
  have k : Kept (fun k => k = W) wr (wr.setCell ⟨W, j, none⟩ (vs s)) := (Kept.refl (fun k => k = W) wr).setCell (a := ⟨W, j, none⟩) (Or.inl rfl) _
  refine ⟨⟨h.be.at_.kept k (fun b hb e => h.out (e ▸ hb)), h.be.calm, h.be.new, below_kept h.be.below (Nat.le_refl _) k (fun i hi => by rw [hi]; exact h.new)⟩, ?_, by simp [h.len], h.out, h.new⟩
  rw [setCell_block h.row]
  congr 2
  simp [List.map_set]

theorem DWant.cell {w wr : World} {F : Nat → Prop} {db W : Nat} {d : Ch.Disk} {l : List ByteArray} (h : DWant w wr F db W d l) {j : Nat} {s : ByteArray} (hs : l[j]? = some s) : wr.cell? ⟨W, j, none⟩ = some (vs s) :=
  blk_cell h.row (by simp [hs])

theorem take4 {l : List ByteArray} (h : l.length = 4) {j : Nat} (hj : j < 4) {s : ByteArray} (hs : l[j]? = some s) : (l.take j ++ List.replicate (4 - j) (⟨#[]⟩ : ByteArray)).set j s = l.take (j + 1) ++ List.replicate (4 - (j + 1)) (⟨#[]⟩ : ByteArray) := by
  rw [List.take_add_one, hs, List.set_append_right _ _ (by simp; omega)]
  simp only [List.length_take, Option.toList_some, List.append_assoc]
  congr 1
  rw [show j - min j l.length = 0 by omega, show 4 - j = (4 - (j + 1)) + 1 by omega]
  simp [List.replicate_succ]

theorem Calm4.new : Calm4 (Ch.Disk.new 4) := ⟨Ch.Disk.WF.new 4, rfl, rfl⟩

theorem bit_is' (keep k : Nat) (h : keep < 18446744073709551616) (hk : k < 64) : (bits .and .u64 ((keep : Int) / 2 ^ k) 1 == 1) = Ch.keepBit keep k := by
  have := bit_is keep k h
  rwa [Nat.mod_eq_of_lt hk] at this

/-- the disk behind the acts so far: what was kept, what waits -/
structure More (d1 d : Ch.Disk) (k : Nat) : Prop where
  kept : d.kept = d1.now
  few : d.wait.length ≤ k

set_option maxRecDepth 100000 in
set_option maxHeartbeats 4000000 in
theorem topDisk_nat (keep : Nat) (hkeep : keep < 18446744073709551616) {a a' : Option Addr} {n cap n' cap' : Nat} {l l' : List RAct} {w : World} (h : Sl w 12 ractCells l a n cap) (hg : ∀ x ∈ l, x.Good) (h' : Sl w 12 ractCells l' a' n' cap') (hg' : ∀ x ∈ l', x.Good) :
    Calls Try.prog 5 #[.slice a n cap, .slice a' n' cap', .int .u64 (keep : Int)] w fun e w' => e = .returned (.bool true) ∧ Ext w w' := by
  have HS := Lib.hid h
  have HG := Lib.hid hg
  have HS' := Lib.hid h'
  have HG' := Lib.hid hg'
  have hb := h.bound
  have hb' := h'.bound
  clear h hg h' hg'
  go_enter Try.func5, Try.ntmps5
  go_upto_region 2 with (go_at_call 19; refine (diskNew_any 4 _ (by decide) (by decide)).mono ?_; rintro e w1 ⟨db, F, rfl, hd, hf, hx⟩)
  have D0 : DBe w w1 F db (Ch.Disk.new 4) := ⟨hd, Calm4.new, hf, hx.below⟩
  have HD0 := Lib.hid D0
  have HX0 := Lib.hid hx
  clear hd hf hx D0
  have hfl : errV (Ch.Disk.new 4).flush.2 = .nilIface := by rw [Calm4.new.flush]; rfl
  have hfl1 : (Ch.Disk.new 4).flush.1 = Ch.Disk.new 4 := by rw [Calm4.new.flush]; rfl
  go_upto_region 4 with (first
    | (go_at_call 20; (with_reducible refine (flush_any (HD0.out.at_.ext (by simp (maxDischargeDepth := 60)))).mono ?_); rintro e w2 ⟨rfl, ⟨F1, hd1, hf1⟩, hk1⟩; rw [hfl1] at hd1; have D1 := Lib.hid (HD0.out.next hd1 hf1 hk1 Calm4.new))
    | (go_at_call 21; obtain ⟨kb, kc, nb, nc, wv, hq⟩ := D1.out.at_; (with_reducible refine (sectors_any (hq.ext (by simp (maxDischargeDepth := 60)))).mono ?_); rintro e w3 ⟨rfl, o3, n3, rfl⟩))
  go_upto_region 6 with (first
    | (go_at_call 22; (with_reducible refine (lightActs_len _ _ _ _ l _ (Sl.below HS.out (D1.out.ext (by simp (maxDischargeDepth := 60))).below) HG.out).mono ?_); rintro e w4 ⟨b1, rfl, hb1, o4, n4, rfl⟩; cases b1)
    | (go_at_call 22; (with_reducible refine (lightActs_len _ _ _ _ l' _ (Sl.below HS'.out (D1.out.ext (by simp (maxDischargeDepth := 60))).below) HG'.out).mono ?_); rintro e w5 ⟨b2, rfl, hb2, o5, n5, rfl⟩; cases b2))
  all_goals try (go_ret; exact ⟨rfl, Ext.of_below (D1.out.ext (by simp (maxDischargeDepth := 60))).below⟩; done)
  have hn1 : n ≤ 40 := by have := hb1 trivial; omega
  have hn2 : n' ≤ 60 := by have := hb2 trivial; omega
  generalize hW : World.plus _ _ _ = w6
  have D2 : DBe w w6 F1 db (Ch.Disk.new 4) := by rw [← hW]; exact D1.out.ext (by simp (maxDischargeDepth := 60))
  have HD2 := Lib.hid D2
  clear D2 hW hb1 hb2 hd1 hf1 hk1 hq
  go_wp2
  go_loopw [9] (fun i wr => ∃ (k : Nat) (d : Ch.Disk) (F' : Nat → Prop), k ≤ n ∧ i = .int .i64 k ∧ DBe w wr F' db d ∧ d.wait.length ≤ k) (fun i _ => n - (intOf i).toNat)
  case atStart => exact ⟨0, _, _, by omega, rfl, HD2.out, by simp [Ch.Disk.new]⟩
  case round =>
    obtain ⟨k, d, F', hk, rfl, hp, hwl⟩ := hrel
    have HP := Lib.hid hp
    clear hp
    by_cases hlt : k < n
    · obtain ⟨b, o, x, rfl, hx, dx⟩ := (Sl.below HS.out HP.out.below).get hlt
      have dx := at12 dx
      have hbl := cell_lt dx.1
      have gx := HG.out x (List.mem_of_getElem? hx)
      have hgs := gx.s
      clear hx gx
      go_upto_region 9 with fail
      (refine wp_region_tail_ext 11 (by kernel_rfl) (by kernel_rfl) ?_; (simp only [List.take_succ_cons, List.take_zero, List.drop_succ_cons, List.drop_zero]); (repeat (first | go_big_quiet_step (fail) | quiet_step (fail))); refine wpQuiet_nil ?_; intro _ hw'; obtain ⟨oq, nq, hw''⟩ := hw'; subst hw'')
      go_wp2_with (go_at_call 23; (with_reducible refine (write_any (HP.out.at_.ext (by simp (maxDischargeDepth := 60))) _ _ hgs (by omega)).mono ?_); rintro e w4 ⟨rfl, ⟨F2, hd2, hf2⟩, hk2⟩)
      have HN := Lib.hid ((HP.out.ext (by simp (maxDischargeDepth := 60))).next hd2 hf2 hk2 (HP.out.calm.write _ _))
      clear hd2 hf2 hk2
      go_roundw
      case rel => exact ⟨k + 1, _, F2, by omega, by go_num, HN.out, by have := HP.out.calm.write_len x.a x.s; omega⟩
      case measure => simp [intOf]; omega
    · obtain ⟨e1, c1⟩ : d.flush = ({ d with kept := d.now, wait := [] }, 0) ∧ Calm4 { d with kept := d.now, wait := [] } := ⟨HP.out.calm.flush, HP.out.calm.flushed⟩
      have hfe : errV d.flush.2 = .nilIface := by rw [e1]; rfl
      have hfd : d.flush.1 = { d with kept := d.now, wait := [] } := by rw [e1]
      have C1 := Lib.hid c1
      clear c1 e1
      go_upto_region 12 with (go_at_call 20; (with_reducible refine (flush_any (HP.out.at_.ext (by simp (maxDischargeDepth := 60)))).mono ?_); rintro e w7 ⟨rfl, ⟨F3, hd3, hf3⟩, hk3⟩; rw [hfd] at hd3)
      have HE := Lib.hid (HP.out.next hd3 hf3 hk3 C1.out)
      have HWL : Hid (({ d with kept := d.now, wait := [] } : Ch.Disk).kept = ({ d with kept := d.now, wait := [] } : Ch.Disk).now ∧ ({ d with kept := d.now, wait := [] } : Ch.Disk).wait = []) := ⟨rfl, rfl⟩
      generalize ({ d with kept := d.now, wait := [] } : Ch.Disk) = d1 at HE HWL C1
      clear hd3 hf3 hk3 hfd hfe HP hwl
      go_upto_region 13 with fail
      generalize hW : World.alloc _ _ = w8
      have HW0 : Hid (DWant w w8 F3 db w7.heap.size d1 (d1.now.take 0 ++ List.replicate (4 - 0) ⟨#[]⟩)) := by
        unfold Hid
        rw [← hW]
        exact ⟨HE.out.ext (by simp (maxDischargeDepth := 60)), heap_alloc_new _ _, by simp, (fun c => by obtain ⟨_, _, _, _, _, hq⟩ := HE.out.at_; have := hq.lt _ c; omega), HE.out.below.size⟩
      generalize w7.heap.size = W at HW0
      clear hW HE
      go_wp2
      go_loopw [11] (fun i wr => ∃ k : Nat, k ≤ 4 ∧ i = .int .i64 k ∧ DWant w wr F3 db W d1 (d1.now.take k ++ List.replicate (4 - k) ⟨#[]⟩)) (fun i _ => 4 - (intOf i).toNat)
      case atStart => exact ⟨0, by omega, rfl, HW0.out⟩
      case round =>
        obtain ⟨k, hk, rfl, hp⟩ := hrel
        have HP := Lib.hid hp
        have HN4 := Lib.hid C1.out.wf.now
        by_cases hlt : k < 4
        · obtain ⟨s, hs⟩ : ∃ s, d1.now[k]? = some s := ⟨d1.now[k]'(by rw [HN4.out]; exact hlt), by simp⟩
          have e1 : (d1.read (k : Int)).1 = s := by rw [C1.out.read hs]
          have e2 : errV (d1.read (k : Int)).2 = .nilIface := by rw [C1.out.read hs]; rfl
          have HNX := Lib.hid (take4 HN4.out hlt hs)
          obtain ⟨y, hy⟩ : ∃ y, (d1.now.take k ++ List.replicate (4 - k) (⟨#[]⟩ : ByteArray))[k]? = some y := ⟨_, List.getElem?_eq_getElem (by have := hp.len; omega)⟩
          have hc := hp.cell hy
          have fz := blk_free hp.row
          have hbw := cell_lt hc
          have h4 : (k : Int) < 4 := by omega
          clear hp hs hy
          go_wp2_with (go_at_call 24; obtain ⟨kb, kc, nb, nc, wv, hq⟩ := HP.out.be.at_; (with_reducible refine (read_any (hq.ext (by simp (maxDischargeDepth := 60))) _).mono ?_); rintro e w3 ⟨rfl, o3, n3, rfl⟩)
          go_roundw
          case rel => exact ⟨k + 1, by omega, by go_num, by rw [← HNX.out]; exact (HP.out.ext (by simp (maxDischargeDepth := 60))).set k s⟩
          case measure => simp [intOf]; omega
        · have hk4 : k = 4 := by omega
          subst hk4
          have HQ0 : Hid (DWant w wr F3 db W d1 (Ch.keptOf keep 0 d1.wait d1.now)) := by
            unfold Hid
            rw [HWL.out.2]
            have := HP.out
            rw [List.take_of_length_le (by rw [HN4.out]; exact Nat.le_refl _)] at this
            simpa [Ch.keptOf] using this
          have HL0 := Lib.hid (congrArg List.length HWL.out.2)
          have HK0 := Lib.hid HWL.out.1
          clear hp HP HW0
          go_wp2
          go_loopw [14, 15] (fun v i wr => ∃ (k : Nat) (d : Ch.Disk) (F' : Nat → Prop), k ≤ n' ∧ i = .int .i64 k ∧ v = .int .i64 (d.wait.length : Nat) ∧ DWant w wr F' db W d (Ch.keptOf keep 0 d.wait d1.now) ∧ d.kept = d1.now ∧ d.wait.length ≤ k) (fun _ i _ => n' - (intOf i).toNat)
          case atStart => exact ⟨0, d1, F3, by omega, rfl, by rw [HL0.out]; rfl, HQ0.out, HK0.out, by rw [HL0.out]; exact Nat.le_refl _⟩
          case round =>
            obtain ⟨k, d, F', hk, rfl, rfl, hp, hkd, hwl⟩ := hrel
            have HP := Lib.hid hp
            have HKD := Lib.hid hkd
            clear hp hkd
            by_cases hlt : k < n'
            · obtain ⟨b, o, x, rfl, hx, dx⟩ := (Sl.below HS'.out HP.out.be.below).get hlt
              have dx := at12 dx
              have hbl := cell_lt dx.1
              have gx := HG'.out x (List.mem_of_getElem? hx)
              have hgs := gx.s
              have HXX := Lib.hid hx
              clear hx gx
              by_cases hbad : x.a < 0 ∨ 4 ≤ x.a ∨ 64 < x.s.size
              · have e1 : (d.write x.a x.s).1 = d := by rw [HP.out.be.calm.write_no hbad]
                have e2 : errV (d.write x.a x.s).2 = .iface 100 (vi 1) := by rw [HP.out.be.calm.write_no hbad]; rfl
                clear hbad
                go_upto_region 24 with fail
                (refine wp_region_tail_ext 11 (by kernel_rfl) (by kernel_rfl) ?_; (simp only [List.take_succ_cons, List.take_zero, List.drop_succ_cons, List.drop_zero]); (repeat (first | go_big_quiet_step (fail) | quiet_step (fail))); refine wpQuiet_nil ?_; intro _ hw'; obtain ⟨oq, nq, hw''⟩ := hw'; subst hw'')
                go_wp2_with (go_at_call 23; (with_reducible refine (write_any (HP.out.be.at_.ext (by simp (maxDischargeDepth := 60))) _ _ hgs (by omega)).mono ?_); rintro e w4 ⟨rfl, ⟨F2, hd2, hf2⟩, hk2⟩; rw [e1] at hd2)
                have HN := Lib.hid ((HP.out.ext (by simp (maxDischargeDepth := 60))).next hd2 hf2 hk2 HP.out.be.calm)
                clear hd2 hf2 hk2
                go_roundw
                case rel =>
                  repeat apply Exists.intro
                  refine ⟨?_, rfl⟩
                  exact ⟨k + 1, d, F2, by omega, by go_num, rfl, HN.out, HKD.out, by omega⟩
                case measure => simp [intOf]; omega
              · obtain ⟨j, hj⟩ : ∃ j : Nat, x.a = (j : Int) := ⟨x.a.toNat, by omega⟩
                have hj4 : j < 4 := by omega
                have hs64 : x.s.size ≤ 64 := by omega
                have hw := HP.out.be.calm.write_yes (s := x.s) hj4 hs64
                have e1 : (d.write x.a x.s).1 = { d with now := d.now.set j (Ch.fullS x.s), wait := d.wait ++ [(j, Ch.fullS x.s)] } := by rw [hj, hw]
                have e2 : errV (d.write x.a x.s).2 = .nilIface := by rw [hj, hw]; rfl
                have hc2 : Calm4 { d with now := d.now.set j (Ch.fullS x.s), wait := d.wait ++ [(j, Ch.fullS x.s)] } := by have := HP.out.be.calm.write (j : Int) x.s; rw [hw] at this; exact this
                have HC2 := Lib.hid hc2
                have HSN := Lib.hid (Ch.keptOf_snoc keep (j, Ch.fullS x.s) d.wait 0 d1.now)
                have hbit := bit_is' keep d.wait.length hkeep (by omega)
                have r1 : (({ d with now := d.now.set j (Ch.fullS x.s), wait := d.wait ++ [(j, Ch.fullS x.s)] } : Ch.Disk).read x.a).1 = Ch.fullS x.s := by
                  rw [hj, HC2.out.read (s := Ch.fullS x.s) (by simp; rw [List.getElem?_set_self (by have := HP.out.be.calm.wf.now; omega)])]
                have r2 : errV (({ d with now := d.now.set j (Ch.fullS x.s), wait := d.wait ++ [(j, Ch.fullS x.s)] } : Ch.Disk).read x.a).2 = .nilIface := by
                  rw [hj, HC2.out.read (s := Ch.fullS x.s) (by simp; rw [List.getElem?_set_self (by have := HP.out.be.calm.wf.now; omega)])]; rfl
                have HD' : Hid (({ d with now := d.now.set j (Ch.fullS x.s), wait := d.wait ++ [(j, Ch.fullS x.s)] } : Ch.Disk).wait = d.wait ++ [(j, Ch.fullS x.s)] ∧ ({ d with now := d.now.set j (Ch.fullS x.s), wait := d.wait ++ [(j, Ch.fullS x.s)] } : Ch.Disk).kept = d1.now) := ⟨rfl, HKD.out⟩
                generalize ({ d with now := d.now.set j (Ch.fullS x.s), wait := d.wait ++ [(j, Ch.fullS x.s)] } : Ch.Disk) = d' at e1 HC2 r1 r2 HD'
                have HLN := Lib.hid (congrArg List.length HD'.out.1)
                clear hw hc2 hbad
                obtain ⟨y, hy⟩ : ∃ y, (Ch.keptOf keep 0 d.wait d1.now)[j]? = some y := ⟨_, List.getElem?_eq_getElem (by have := HP.out.len; omega)⟩
                have HY := Lib.hid hy
                have jn : x.a.toNat = j := by omega
                have j0 : 0 ≤ x.a := by omega
                have j4 : x.a < 4 := by omega
                clear hy hj
                cases hkb : Ch.keepBit keep d.wait.length
                · have HB := Lib.hid hkb
                  rw [hkb] at hbit
                  clear hkb
                  go_upto_region 24 with fail
                  (refine wp_region_tail_ext 11 (by kernel_rfl) (by kernel_rfl) ?_; (simp only [List.take_succ_cons, List.take_zero, List.drop_succ_cons, List.drop_zero]); (repeat (first | go_big_quiet_step (fail) | quiet_step (fail))); refine wpQuiet_nil ?_; intro _ hw'; obtain ⟨oq, nq, hw''⟩ := hw'; subst hw'')
                  go_wp2_with (go_at_call 23; (with_reducible refine (write_any (HP.out.be.at_.ext (by simp (maxDischargeDepth := 60))) _ _ hgs (by omega)).mono ?_); rintro e w4 ⟨rfl, ⟨F2, hd2, hf2⟩, hk2⟩; rw [e1] at hd2)
                  have HN := Lib.hid ((HP.out.ext (by simp (maxDischargeDepth := 60))).next hd2 hf2 hk2 HC2.out)
                  clear hd2 hf2 hk2
                  go_roundw
                  case rel =>
                    repeat apply Exists.intro
                    refine ⟨?_, rfl⟩
                    refine ⟨k + 1, d', F2, by omega, by go_num, by rw [HLN.out]; simp, ?_, HD'.out.2, by rw [HLN.out]; simp; omega⟩
                    rw [HD'.out.1, HSN.out, Nat.zero_add, HB.out]
                    exact HN.out
                  case measure => simp [intOf]; omega
                · have HB := Lib.hid hkb
                  rw [hkb] at hbit
                  clear hkb
                  go_upto_region 24 with fail
                  (refine wp_region_tail_ext 11 (by kernel_rfl) (by kernel_rfl) ?_; (simp only [List.take_succ_cons, List.take_zero, List.drop_succ_cons, List.drop_zero]); (repeat (first | go_big_quiet_step (fail) | quiet_step (fail))); refine wpQuiet_nil ?_; intro _ hw'; obtain ⟨oq, nq, hw''⟩ := hw'; subst hw'')
                  go_upto_region 25 with (go_at_call 23; (with_reducible refine (write_any (HP.out.be.at_.ext (by simp (maxDischargeDepth := 60))) _ _ hgs (by omega)).mono ?_); rintro e w4 ⟨rfl, ⟨F2, hd2, hf2⟩, hk2⟩; rw [e1] at hd2)
                  have hn := (HP.out.ext (w' := World.plus wr oq nq) (by simp (maxDischargeDepth := 60))).next hd2 hf2 hk2 HC2.out
                  have HN := Lib.hid hn
                  have hc := hn.cell HY.out
                  have fz := blk_free hn.row
                  have hbw := cell_lt hc
                  have d1' := (Sl.below HS'.out hn.be.below)
                  clear hd2 hf2 hk2 hn
                  obtain ⟨x2, hx2, dx2⟩ := d1'.get' hlt
                  obtain rfl : x2 = x := by have := HXX.out; rw [this] at hx2; exact (Option.some.inj hx2).symm
                  have dx2 := at12 dx2
                  have hbl2 := cell_lt dx2.1
                  clear d1' hx2
                  go_wp2_with (go_at_call 24; obtain ⟨kb, kc, nb, nc, wv, hq⟩ := HN.out.be.at_; (with_reducible refine (read_any (hq.ext (by simp (maxDischargeDepth := 60))) _).mono ?_); rintro e w5 ⟨rfl, o5, n5, rfl⟩)
                  go_roundw
                  case rel =>
                    repeat apply Exists.intro
                    refine ⟨?_, rfl⟩
                    refine ⟨k + 1, d', F2, by omega, by go_num, by rw [HLN.out]; simp, ?_, HD'.out.2, by rw [HLN.out]; simp; omega⟩
                    rw [HD'.out.1, HSN.out, Nat.zero_add, HB.out]
                    exact (HN.out.ext (by simp (maxDischargeDepth := 60))).set j (Ch.fullS x2.s)
                  case measure => simp [intOf]; omega
            · have HRE : Hid ((d.restart keep).now = Ch.keptOf keep 0 d.wait d1.now) := by
                unfold Hid Ch.Disk.restart
                rw [HKD.out]
              have HC3 : Hid (Calm4 (d.restart keep)) := by unfold Hid; exact ⟨HP.out.be.calm.wf.restart keep, rfl, rfl⟩
              go_wp2_with (go_at_call 25; (with_reducible refine (restart_any (HP.out.be.at_.ext (by simp (maxDischargeDepth := 60))) keep hkeep (by omega)).mono ?_); rintro e w9 ⟨rfl, ⟨F4, hd4, hf4⟩, hk4⟩)
              have HN := Lib.hid ((HP.out.ext (by simp (maxDischargeDepth := 60))).next hd4 hf4 hk4 HC3.out)
              generalize d.restart keep = d4 at HRE HC3 HN
              generalize Ch.keptOf keep 0 d.wait d1.now = want at HRE HN
              clear hd4 hf4 hk4
              go_loopw [18] (fun i wr => ∃ k : Nat, k ≤ 4 ∧ i = .int .i64 k ∧ DWant w wr F4 db W d4 want) (fun i _ => 4 - (intOf i).toNat)
              case atStart => exact ⟨0, by omega, rfl, HN.out⟩
              case round =>
                obtain ⟨k, hk, rfl, hp⟩ := hrel
                have HP2 := Lib.hid hp
                by_cases hlt : k < 4
                · obtain ⟨s, hs⟩ : ∃ s, want[k]? = some s := ⟨_, List.getElem?_eq_getElem (by have := hp.len; omega)⟩
                  have hs' : d4.now[k]? = some s := by rw [HRE.out]; exact hs
                  have e1 : (d4.read (k : Int)).1 = s := by rw [HC3.out.read hs']
                  have e2 : errV (d4.read (k : Int)).2 = .nilIface := by rw [HC3.out.read hs']; rfl
                  have hc := hp.cell hs
                  have hbw := cell_lt hc
                  have h4 : (k : Int) < 4 := by omega
                  clear hp hs hs'
                  go_wp2_with (go_at_call 24; obtain ⟨kb, kc, nb, nc, wv, hq⟩ := HP2.out.be.at_; (with_reducible refine (read_any (hq.ext (by simp (maxDischargeDepth := 60))) _).mono ?_); rintro e w5 ⟨rfl, o5, n5, rfl⟩)
                  go_roundw
                  case rel => exact ⟨k + 1, by omega, by go_num, HP2.out.ext (by simp (maxDischargeDepth := 60))⟩
                  case measure => simp [intOf]; omega
                · clear hp
                  go_wp2
                  go_ret
                  exact ⟨rfl, Ext.of_below (HP2.out.ext (by simp (maxDischargeDepth := 60))).be.below⟩

theorem topDisk_walk (keep : Int) (h0 : 0 ≤ keep) (h1 : keep < 18446744073709551616) {a a' : Option Addr} {n cap n' cap' : Nat} {l l' : List RAct} {w : World} (h : Sl w 12 ractCells l a n cap) (hg : ∀ x ∈ l, x.Good) (h' : Sl w 12 ractCells l' a' n' cap') (hg' : ∀ x ∈ l', x.Good) :
    Calls Try.prog 5 #[.slice a n cap, .slice a' n' cap', .int .u64 keep] w fun e w' => e = .returned (.bool true) ∧ Ext w w' := by
  obtain ⟨k, rfl⟩ := Int.eq_ofNat_of_zero_le h0
  exact topDisk_nat k (by omega) h hg h' hg'

end Go.Proofs.Ytplomeacjbkgnab
