/-
  The walk of DiskSays.
-/
import Derived.Test.YtplomeacjbkgnaaRDisk3
import Derived.Test.YtplomeacjbkgnaaLight
import Derived.Test.YtplomeacjbkgnaaStr
import Derived.Test.YtplomeacjbkgnaaErr
namespace Go.Proofs.Ytplomeacjbkgnaa
open Go.RowKit

theorem write_nn (d : Ch.Disk) (k : Int) (s : ByteArray) : 0 ≤ (d.write k s).2 := by
  unfold Ch.Disk.write; split
  · simp
  · split <;> simp

theorem flush_nn (d : Ch.Disk) : 0 ≤ d.flush.2 := by unfold Ch.Disk.flush; split <;> simp

theorem read_nn (d : Ch.Disk) (k : Int) : 0 ≤ (d.read k).2 := by
  unfold Ch.Disk.read; split
  · simp
  · split <;> simp

theorem same_nil0 (w : World) : Calls Try.prog 30 #[.nilIface, vi 0] w fun e w' => e = .returned (.bool true) ∧ Ext w w' := same_yes 0 w (by decide)

/-! ### a closed fact -/

abbrev spin0 : Ch.Disk := Ch.Disk.new 3

abbrev spinT : ByteArray := ⟨#[120, 121]⟩

set_option maxRecDepth 100000 in
set_option maxHeartbeats 2000000 in
theorem spins_any (w : World) : Calls Try.prog 48 #[] w fun e w' => e = .returned (.bool true) ∧ Ext w w' := by
  have hz : spinT.size ≤ 64 := by decide
  have f1 : errV (spin0.write 1 spinT).2 = .nilIface := rfl
  have f2 : errV (spin0.write 1 spinT).1.flush.2 = .nilIface := rfl
  have f3 : errV (((spin0.write 1 spinT).1.flush.1.restart 0).read 1).2 = .nilIface := rfl
  have f4 : (((spin0.write 1 spinT).1.flush.1.restart 0).read 1).1 = Ch.fullS spinT := rfl
  have f5 : (Ch.fullS spinT).size = 64 := Ch.fullS_size hz
  have f6 : ((Ch.fullS spinT).extract 0 2).toList = [120, 121] := by rw [toList_data]; rfl
  have g1 := Lib.hid f1
  go_enter Try.func48, Try.ntmps48
  go_upto_region 4 with (go_at_call 50; refine (diskNew_any 3 _ (by decide) (by decide)).mono ?_; rintro e w1 ⟨db, F, rfl, hd, hf, hx⟩)
  have HX := Lib.hid hx
  have HF := Lib.hid hf
  clear hx hf
  go_wp2_with fail
  go_at_call 53
  refine (write_any hd 1 spinT (by unfold maxLen; decide) (by simp [spin0, Ch.Disk.new])).mono ?_
  rintro e w2 ⟨rfl, ⟨F2, hd2, hf2⟩, hk2⟩
  rw [f1]
  have B2 := Lib.hid (below_kept HX.out.below (Nat.le_refl _) hk2 HF.out)
  have HF2 : Hid (∀ k, F2 k → w.heap.size ≤ k) := fun k hk => by rcases hf2 k hk with h | h; exact HF.out k h; have := HX.out.below.size; omega
  clear hd hf2 hk2
  go_wp2_with fail
  go_at_call 57
  refine (flush_any hd2).mono ?_
  rintro e w3 ⟨rfl, ⟨F3, hd3, hf3⟩, hk3⟩
  rw [f2]
  have B3 := Lib.hid (below_kept B2.out (Nat.le_refl _) hk3 HF2.out)
  have HF3 : Hid (∀ k, F3 k → w.heap.size ≤ k) := fun k hk => by rcases hf3 k hk with h | h; exact HF2.out k h; have := B2.out.size; omega
  clear hd2 hf3 hk3
  go_wp2_with fail
  go_at_call 60
  refine (restart_any hd3 0 (by decide) (by decide)).mono ?_
  rintro e w4 ⟨rfl, ⟨F4, hd4, hf4⟩, hk4⟩
  have B4 := Lib.hid (below_kept B3.out (Nat.le_refl _) hk4 HF3.out)
  clear hd3 hf4 hk4
  obtain ⟨kb, kc, nb, nc, wv, hq⟩ := hd4
  have HQ := Lib.hid hq
  clear hq
  generalize (spin0.write 1 spinT).1.flush.1.restart 0 = q at HQ f3 f4
  go_wp2_with (first
    | (go_at_call 55; (with_reducible refine (read_any (HQ.out.ext (by simp (maxDischargeDepth := 60))) 1).mono ?_); rintro e w5 ⟨rfl, o5, n5, rfl⟩)
    | (go_at_call 30; (with_reducible refine (same_nil0 _).mono ?_); rintro e w6 ⟨rfl, o6, n6, rfl⟩)
    | (go_at_call 52; (with_reducible refine (sectors_any (HQ.out.ext (by simp (maxDischargeDepth := 60)))).mono ?_); rintro e w7 ⟨rfl, o7, n7, rfl⟩))
  go_ret
  refine ⟨?_, (Ext.of_below B4.out).trans (by simp (maxDischargeDepth := 60))⟩
  simp

theorem write_len (d : Ch.Disk) (k : Int) (s : ByteArray) : (d.write k s).1.wait.length ≤ d.wait.length + 1 := by
  unfold Ch.Disk.write
  split
  · exact Nat.le_add_right _ _
  · split
    · rw [Ch.stepped_wait]; exact Nat.le_add_right _ _
    · simp

theorem flush_len (d : Ch.Disk) : d.flush.1.wait.length ≤ d.wait.length := by
  unfold Ch.Disk.flush
  split
  · rw [Ch.stepped_wait]; exact Nat.le_refl _
  · simp

/-- a disk, and the reference's, alike -/
structure Two (w wr : World) (F G : Nat → Prop) (db rb n : Nat) (d e : Ch.Disk) : Prop where
  pa : DiskAt wr F db n d
  ra : DiskAtT RT RTT wr G rb n e
  apart : ∀ k, F k → ¬ G k
  newF : ∀ k, F k → w.heap.size ≤ k
  newG : ∀ k, G k → w.heap.size ≤ k
  below : Below w.heap.size w wr

theorem Two.ext {w wr w' : World} {F G : Nat → Prop} {db rb n : Nat} {d e : Ch.Disk} (h : Two w wr F G db rb n d e) (x : Ext wr w') : Two w w' F G db rb n d e :=
  ⟨h.pa.ext x, h.ra.ext x, h.apart, h.newF, h.newG, h.below.trans (by have := x.below; exact ⟨this.os, this.tape, this.output, this.size, fun k hk => this.block k (by have := h.below.size; omega)⟩)⟩

theorem disk_lt {T TT : TypeId} {w : World} {F : Nat → Prop} {db n : Nat} {d : Ch.Disk} (h : DiskAtT T TT w F db n d) : ∀ k, F k → k < w.heap.size := by
  obtain ⟨_, _, _, _, _, h⟩ := h
  exact h.lt

theorem Two.left {w wr w' : World} {F G F' : Nat → Prop} {db rb n : Nat} {d e d' : Ch.Disk} (h : Two w wr F G db rb n d e) (h1 : DiskAt w' F' db n d') (h2 : ∀ k, F' k → F k ∨ wr.heap.size ≤ k) (k : Kept F wr w') : Two w w' F' G db rb n d' e :=
  ⟨h1, h.ra.kept k (fun b hb hf => h.apart b hf hb), (fun b hb hg => by rcases h2 b hb with hb | hb; exact h.apart b hb hg; have := disk_lt h.ra b hg; omega), (fun b hb => by rcases h2 b hb with hb | hb; exact h.newF b hb; have := h.below.size; omega), h.newG, below_kept h.below (Nat.le_refl _) k h.newF⟩

theorem Two.right {w wr w' : World} {F G G' : Nat → Prop} {db rb n : Nat} {d e e' : Ch.Disk} (h : Two w wr F G db rb n d e) (h1 : DiskAtT RT RTT w' G' rb n e') (h2 : ∀ k, G' k → G k ∨ wr.heap.size ≤ k) (k : Kept G wr w') : Two w w' F G' db rb n d e' :=
  ⟨h.pa.kept k (fun b hb hg => h.apart b hb hg), h1, (fun b hb hg => by rcases h2 b hg with hg | hg; exact h.apart b hb hg; have := disk_lt h.pa b hb; omega), h.newF, (fun b hb => by rcases h2 b hb with hb | hb; exact h.newG b hb; have := h.below.size; omega), below_kept h.below (Nat.le_refl _) k h.newG⟩

def kWrite : ByteArray := ⟨#[119, 114, 105, 116, 101]⟩

def kRead : ByteArray := ⟨#[114, 101, 97, 100]⟩

def kFlush : ByteArray := ⟨#[102, 108, 117, 115, 104]⟩

def kArm : ByteArray := ⟨#[97, 114, 109]⟩

set_option maxRecDepth 100000 in
set_option maxHeartbeats 4000000 in
theorem diskSays_bad (sec : Int) (hs : sec < 1 ∨ 40 < sec) {a : Option Addr} {n cap : Nat} {l : List RAct} {w : World} (h : Sl w 12 ractCells l a n cap) (hg : ∀ x ∈ l, x.Good) :
    Calls Try.prog 7 #[vi sec, .slice a n cap] w fun e w' => e = .returned (.bool true) ∧ Ext w w' := by
  have HS := Lib.hid h
  have HG := Lib.hid hg
  have HSB := Lib.hid hs
  clear h hg hs
  go_enter Try.func7, Try.ntmps7
  go_upto_region 4 with (first
    | (go_at_call 48; (with_reducible refine (spins_any _).mono ?_); rintro e w1 ⟨rfl, o1, n1, rfl⟩)
    | (go_at_call 49; (with_reducible refine (lightActs_any _ _ _ _ l _ (Sl.below HS.out (Ext.below (by simp (maxDischargeDepth := 60)))) HG.out).mono ?_); rintro e w2 ⟨lb, rfl, o2, n2, rfl⟩; cases lb))
  all_goals try (go_ret; exact ⟨rfl, (by simp (maxDischargeDepth := 60))⟩; done)
  go_wp2_with (first
    | (go_at_call 50; (with_reducible refine (diskNew_bad _ _ HSB.out).mono ?_); rintro e w1 ⟨rfl, o1, n1, rfl⟩)
    | (go_at_call 51; (with_reducible refine (rnew_bad _ _ HSB.out).mono ?_); rintro e w4 ⟨rfl, o4, n4, rfl⟩)
    | (go_at_call 30; (with_reducible refine (same_yes 1 _ (by decide)).mono ?_); rintro e w5 ⟨rfl, o5, n5, rfl⟩))
  go_ret
  exact ⟨rfl, (by simp (maxDischargeDepth := 60))⟩

set_option maxRecDepth 100000 in
set_option maxHeartbeats 4000000 in
theorem diskSays_ok (sec : Nat) (s1 : 1 ≤ sec) (s2 : sec ≤ 40) {a : Option Addr} {n cap : Nat} {l : List RAct} {w : World} (h : Sl w 12 ractCells l a n cap) (hg : ∀ x ∈ l, x.Good) :
    Calls Try.prog 7 #[vi (sec : Int), .slice a n cap] w fun e w' => e = .returned (.bool true) ∧ Ext w w' := by
  have HS := Lib.hid h
  have HG := Lib.hid hg
  have hb := h.bound
  clear h hg
  go_enter Try.func7, Try.ntmps7
  go_upto_region 4 with (first
    | (go_at_call 48; (with_reducible refine (spins_any _).mono ?_); rintro e w1 ⟨rfl, o1, n1, rfl⟩)
    | (go_at_call 49; (with_reducible refine (lightActs_len _ _ _ _ l _ (Sl.below HS.out (Ext.below (by simp (maxDischargeDepth := 60)))) HG.out).mono ?_); rintro e w2 ⟨lb, rfl, hb1, o2, n2, rfl⟩; cases lb))
  all_goals try (go_ret; exact ⟨rfl, (by simp (maxDischargeDepth := 60))⟩; done)
  have hn80 : n ≤ 80 := by have := hb1 trivial; omega
  clear hb1
  go_upto_region 8 with (first
    | (go_at_call 50; refine (diskNew_any sec _ s1 s2).mono ?_; rintro e w3 ⟨db, F, rfl, hd, hf, hx⟩; have HD := Lib.hid hd; have HF := Lib.hid hf; have HX := Lib.hid hx)
    | (go_at_call 51; refine (rnew_any sec _ s1 s2).mono ?_; rintro e w4 ⟨rb, G, rfl, hd2, hf2, hx2⟩; have HD2 := Lib.hid hd2; have HF2 := Lib.hid hf2; have HX2 := Lib.hid hx2))
  have T0 : Two w w4 F G db rb sec (Ch.Disk.new sec) (Ch.Disk.new sec) := by
    have z1 := HX.out.below.size
    have z2 := HX2.out.below.size
    simp at z1
    refine ⟨HD.out.ext HX2.out, HD2.out, ?_, ?_, ?_, ?_⟩
    · intro k hF hG
      have h1 := disk_lt HD.out k hF
      have h2 := HF2.out k hG
      omega
    · intro k hF
      have := HF.out k hF
      simp at this
      omega
    · intro k hG
      have := HF2.out k hG
      omega
    · exact (Ext.trans (Ext.trans (by simp (maxDischargeDepth := 60)) HX.out) HX2.out).below
  have HT0 := Lib.hid T0
  clear T0 hd hf hx hd2 hf2 hx2 HD HF HX HD2 HF2 HX2
  go_wp2_with (go_at_call 52; obtain ⟨kb, kc, nb, nc, wv, hq⟩ := HT0.out.pa; (with_reducible refine (sectors_any (hq.ext (by simp (maxDischargeDepth := 60)))).mono ?_); rintro e w5 ⟨rfl, o5, n5, rfl⟩)
  go_loopw [10] (fun i wr => ∃ (k : Nat) (d : Ch.Disk) (F' G' : Nat → Prop), k ≤ n ∧ i = .int .i64 k ∧ Two w wr F' G' db rb sec d d ∧ d.wait.length ≤ k) (fun i _ => n - (intOf i).toNat)
  case atStart => exact ⟨0, _, _, _, by omega, rfl, HT0.out.ext (by simp (maxDischargeDepth := 60)), by simp [Ch.Disk.new]⟩
  case round =>
    obtain ⟨k, d, F', G', hk, rfl, hp, hwl⟩ := hrel
    have HP := Lib.hid hp
    clear hp
    by_cases hlt : k < n
    · obtain ⟨b, o, x, rfl, hx, dx⟩ := (Sl.below HS.out HP.out.below).get hlt
      have dx := at12 dx
      have hbl := cell_lt dx.1
      have gx := HG.out x (List.mem_of_getElem? hx)
      have hgs := gx.s
      have GX := Lib.hid gx
      clear hx gx
      by_cases k1 : x.kind = kWrite
      · have e1 : (x.kind.toList == [119, 114, 105, 116, 101]) = true := kind_is k1
        clear k1
        go_upto_region 19 with fail
        generalize hW : World.alloc _ _ = w0
        have HT : Hid (Two w w0 F' G' db rb sec d d) := by unfold Hid; rw [← hW]; exact HP.out.ext (by simp (maxDischargeDepth := 60))
        have hA : w0.heap[wr.heap.size]? = some (.cells #[.string x.kind, vi x.a, vi x.b, vi x.car.id, vi x.car.size.long, vi x.car.size.high, vi x.car.size.heavy, .string x.s, .int .u64 x.k, vi x.last, .slice x.a1 x.n1 x.c1, .slice x.a2 x.n2 x.c2] 78 (0, 0)) := by rw [← hW]; exact heap_alloc_new _ _
        have hAF : ¬ F' wr.heap.size := fun c => by have := disk_lt HP.out.pa _ c; omega
        have hAG : ¬ G' wr.heap.size := fun c => by have := disk_lt HP.out.ra _ c; omega
        have a1 := blk_cell (i := 1) hA rfl
        have a7 := blk_cell (i := 7) hA rfl
        have a8 := blk_cell (i := 8) hA rfl
        have zA := blk_lt hA
        generalize wr.heap.size = A at *
        have NF := Lib.hid hAF
        have NG := Lib.hid hAG
        clear hW hA hAF hAG HP dx
        go_region_held3 (fun w' => w'.cell? ⟨A, 1, none⟩ = some (vi x.a) ∧ w'.cell? ⟨A, 7, none⟩ = some (vs x.s))
          (first | ((try dsimp only); (repeat' apply And.intro) <;> first | assumption | (refine xcell (w := w0) ?_ (by assumption); simp (maxDischargeDepth := 60); done) | (refine xcell (w := w6) ?_ (by assumption); simp (maxDischargeDepth := 60); done)))
          (first
          | (go_at_call 53; refine (write_any HR1.out.pa _ _ hgs (by omega)).mono ?_; rintro e w6 ⟨rfl, ⟨F2, hd2, hf2⟩, hk2⟩; have HB := Lib.hid (HR1.out.left hd2 hf2 hk2); have t1 := cell_kept hk2 r1 NF.out; have t7 := cell_kept hk2 r7 NF.out; clear hd2 hf2 hk2)
          | (go_at_call 53; refine (write_any (HT.out.pa.ext (by simp (maxDischargeDepth := 60))) _ _ hgs (by omega)).mono ?_; rintro e w5 ⟨rfl, ⟨F2, hd2, hf2⟩, hk2⟩; have HP1 := Lib.hid ((HT.out.ext (by simp (maxDischargeDepth := 60))).left hd2 hf2 hk2); have r1 := cell_kept hk2 (xcell (w := w0) (by simp (maxDischargeDepth := 60)) a1) NF.out; have r7 := cell_kept hk2 (xcell (w := w0) (by simp (maxDischargeDepth := 60)) a7) NF.out; clear hd2 hf2 hk2)
          | (go_at_call 54; refine (rwrite_any HP1.out.ra _ _ hgs (by omega)).mono ?_; rintro e w6 ⟨rfl, ⟨G2, hd2, hf2⟩, hk2⟩; have HB := Lib.hid (HP1.out.right hd2 hf2 hk2); have t1 := cell_kept hk2 r1 NG.out; have t7 := cell_kept hk2 r7 NG.out; clear hd2 hf2 hk2)
          | (go_at_call 54; refine (rwrite_any (HT.out.ra.ext (by simp (maxDischargeDepth := 60))) _ _ hgs (by omega)).mono ?_; rintro e w5 ⟨rfl, ⟨G2, hd2, hf2⟩, hk2⟩; have HR1 := Lib.hid ((HT.out.ext (by simp (maxDischargeDepth := 60))).right hd2 hf2 hk2); have r1 := cell_kept hk2 (xcell (w := w0) (by simp (maxDischargeDepth := 60)) a1) NG.out; have r7 := cell_kept hk2 (xcell (w := w0) (by simp (maxDischargeDepth := 60)) a7) NG.out; clear hd2 hf2 hk2)
          | (go_at_call 30; refine (same_yes _ _ (write_nn _ _ _)).mono ?_; rintro e w7 ⟨rfl, o7, n7, rfl⟩))
        all_goals
          have hlen := write_len d x.a x.s
          generalize (d.write x.a x.s).1 = d' at HB hlen
          obtain ⟨ka, kca, na, nca, wa, hpp⟩ := HB.out.pa
          obtain ⟨kb2, kc2, nb2, nc2, wv2, hqq⟩ := HB.out.ra
          have m4 := hqq.cells.2.2.2.2
          have mz := cell_lt m4
          have HPP := Lib.hid hpp
          clear hpp hqq
          go_upto_region 29 with fail
          (refine wp_region_ext (by kernel_rfl) (by kernel_rfl) ?_; (repeat (first | go_big_quiet_step ((intro _; go_at_call 62; exact ext_callG (down_any (HPP.out.ext (by simp (maxDischargeDepth := 60)))) (by rintro w' ⟨o', n', rfl⟩; exact ⟨_, n', by first | (simp only [plus_plus]; rfl) | (simp only [plus_plus, Array.append_assoc]; rfl) | rfl⟩))) | quiet_step ((intro _; go_at_call 62; exact ext_callG (down_any (HPP.out.ext (by simp (maxDischargeDepth := 60)))) (by rintro w' ⟨o', n', rfl⟩; exact ⟨_, n', by first | (simp only [plus_plus]; rfl) | (simp only [plus_plus, Array.append_assoc]; rfl) | rfl⟩))))); refine wpQuiet_nil ?_; intro _ hw'; obtain ⟨oq, nq, hw''⟩ := hw'; subst hw'')
          go_wp2
          go_roundw
          case rel =>
            first
            | exact ⟨k + 1, d', _, _, by omega, by go_num, HB.out.ext (by simp (maxDischargeDepth := 60)), by omega⟩
            | (repeat apply Exists.intro
               refine ⟨?_, rfl⟩
               exact ⟨k + 1, d', _, _, by omega, by go_num, HB.out.ext (by simp (maxDischargeDepth := 60)), by omega⟩)
          case measure => simp [intOf]; omega
      · have e1 : (x.kind.toList == [119, 114, 105, 116, 101]) = false := str_ne k1
        by_cases k2 : x.kind = kRead
        · have e2 : (x.kind.toList == [114, 101, 97, 100]) = true := kind_is k2
          clear k1 k2
          go_upto_region 21 with fail
          generalize hW : World.alloc _ _ = w0
          have HT : Hid (Two w w0 F' G' db rb sec d d) := by unfold Hid; rw [← hW]; exact HP.out.ext (by simp (maxDischargeDepth := 60))
          have hA : w0.heap[wr.heap.size]? = some (.cells #[.string x.kind, vi x.a, vi x.b, vi x.car.id, vi x.car.size.long, vi x.car.size.high, vi x.car.size.heavy, .string x.s, .int .u64 x.k, vi x.last, .slice x.a1 x.n1 x.c1, .slice x.a2 x.n2 x.c2] 78 (0, 0)) := by rw [← hW]; exact heap_alloc_new _ _
          have hAF : ¬ F' wr.heap.size := fun c => by have := disk_lt HP.out.pa _ c; omega
          have hAG : ¬ G' wr.heap.size := fun c => by have := disk_lt HP.out.ra _ c; omega
          have a1 := blk_cell (i := 1) hA rfl
          have a7 := blk_cell (i := 7) hA rfl
          have a8 := blk_cell (i := 8) hA rfl
          have zA := blk_lt hA
          generalize wr.heap.size = A at *
          have NF := Lib.hid hAF
          have NG := Lib.hid hAG
          clear hW hA hAF hAG HP dx
          obtain ⟨ja, jca, ma, mca, va, hpa⟩ := HT.out.pa
          obtain ⟨jb, jcb, mb, mcb, vb', hra⟩ := HT.out.ra
          have HPA := Lib.hid hpa
          have HRA := Lib.hid hra
          clear hpa hra
          have HB := HT
          have hlen : d.wait.length ≤ k + 1 := by omega
          have hsame := Lib.hid (read_nn d x.a)
          go_upto_region 29 with (first
            | (go_at_call 55; (with_reducible refine (read_any (HPA.out.ext (by simp (maxDischargeDepth := 60))) _).mono ?_); rintro e w5 ⟨rfl, o5, n5, rfl⟩)
            | (go_at_call 56; (with_reducible refine (rread_any (HRA.out.ext (by simp (maxDischargeDepth := 60))) _).mono ?_); rintro e w6 ⟨rfl, o6, n6, rfl⟩)
            | (go_at_call 30; refine (same_yes _ _ hsame.out).mono ?_; rintro e w7 ⟨rfl, o7, n7, rfl⟩))
          obtain ⟨ka, kca, na, nca, wa, hpp⟩ := HB.out.pa
          obtain ⟨kb2, kc2, nb2, nc2, wv2, hqq⟩ := HB.out.ra
          have m4 := hqq.cells.2.2.2.2
          have mz := cell_lt m4
          have HPP := Lib.hid hpp
          clear hpp hqq
          (refine wp_region_ext (by kernel_rfl) (by kernel_rfl) ?_; (repeat (first | go_big_quiet_step ((intro _; go_at_call 62; exact ext_callG (down_any (HPP.out.ext (by simp (maxDischargeDepth := 60)))) (by rintro w' ⟨o', n', rfl⟩; exact ⟨_, n', by first | (simp only [plus_plus]; rfl) | (simp only [plus_plus, Array.append_assoc]; rfl) | rfl⟩))) | quiet_step ((intro _; go_at_call 62; exact ext_callG (down_any (HPP.out.ext (by simp (maxDischargeDepth := 60)))) (by rintro w' ⟨o', n', rfl⟩; exact ⟨_, n', by first | (simp only [plus_plus]; rfl) | (simp only [plus_plus, Array.append_assoc]; rfl) | rfl⟩))))); refine wpQuiet_nil ?_; intro _ hw'; obtain ⟨oq, nq, hw''⟩ := hw'; subst hw'')
          go_wp2
          go_roundw
          case rel =>
            first
            | exact ⟨k + 1, d, _, _, by omega, by go_num, HB.out.ext (by simp (maxDischargeDepth := 60)), by omega⟩
            | (repeat apply Exists.intro
               refine ⟨?_, rfl⟩
               exact ⟨k + 1, d, _, _, by omega, by go_num, HB.out.ext (by simp (maxDischargeDepth := 60)), by omega⟩)
          case measure => simp [intOf]; omega
        · have e2 : (x.kind.toList == [114, 101, 97, 100]) = false := str_ne k2
          by_cases k3 : x.kind = kFlush
          · have e3 : (x.kind.toList == [102, 108, 117, 115, 104]) = true := kind_is k3
            clear k1 k2 k3
            go_upto_region 25 with fail
            generalize hW : World.alloc _ _ = w0
            have HT : Hid (Two w w0 F' G' db rb sec d d) := by unfold Hid; rw [← hW]; exact HP.out.ext (by simp (maxDischargeDepth := 60))
            have hA : w0.heap[wr.heap.size]? = some (.cells #[.string x.kind, vi x.a, vi x.b, vi x.car.id, vi x.car.size.long, vi x.car.size.high, vi x.car.size.heavy, .string x.s, .int .u64 x.k, vi x.last, .slice x.a1 x.n1 x.c1, .slice x.a2 x.n2 x.c2] 78 (0, 0)) := by rw [← hW]; exact heap_alloc_new _ _
            have hAF : ¬ F' wr.heap.size := fun c => by have := disk_lt HP.out.pa _ c; omega
            have hAG : ¬ G' wr.heap.size := fun c => by have := disk_lt HP.out.ra _ c; omega
            have a1 := blk_cell (i := 1) hA rfl
            have a7 := blk_cell (i := 7) hA rfl
            have a8 := blk_cell (i := 8) hA rfl
            have zA := blk_lt hA
            generalize wr.heap.size = A at *
            have NF := Lib.hid hAF
            have NG := Lib.hid hAG
            clear hW hA hAF hAG HP dx
            have hlen := flush_len d
            go_upto_region 29 with (first
              | (go_at_call 57; (with_reducible refine (flush_any (HT.out.pa.ext (by simp (maxDischargeDepth := 60)))).mono ?_); rintro e w5 ⟨rfl, ⟨F2, hd2, hf2⟩, hk2⟩; have HP1 := Lib.hid ((HT.out.ext (by simp (maxDischargeDepth := 60))).left hd2 hf2 hk2); clear hd2 hf2 hk2)
              | (go_at_call 58; (with_reducible refine (rflush_any (HP1.out.ra.ext (by simp (maxDischargeDepth := 60))) s1 (by omega)).mono ?_); rintro e w6 ⟨rfl, ⟨G2, hd2, hf2⟩, hk2⟩; have HB := Lib.hid ((HP1.out.ext (by simp (maxDischargeDepth := 60))).right hd2 hf2 hk2); clear hd2 hf2 hk2)
              | (go_at_call 30; refine (same_yes _ _ (flush_nn _)).mono ?_; rintro e w7 ⟨rfl, o7, n7, rfl⟩))
            generalize d.flush.1 = d' at HB hlen
            obtain ⟨ka, kca, na, nca, wa, hpp⟩ := HB.out.pa
            obtain ⟨kb2, kc2, nb2, nc2, wv2, hqq⟩ := HB.out.ra
            have m4 := hqq.cells.2.2.2.2
            have mz := cell_lt m4
            have HPP := Lib.hid hpp
            clear hpp hqq
            (refine wp_region_ext (by kernel_rfl) (by kernel_rfl) ?_; (repeat (first | go_big_quiet_step ((intro _; go_at_call 62; exact ext_callG (down_any (HPP.out.ext (by simp (maxDischargeDepth := 60)))) (by rintro w' ⟨o', n', rfl⟩; exact ⟨_, n', by first | (simp only [plus_plus]; rfl) | (simp only [plus_plus, Array.append_assoc]; rfl) | rfl⟩))) | quiet_step ((intro _; go_at_call 62; exact ext_callG (down_any (HPP.out.ext (by simp (maxDischargeDepth := 60)))) (by rintro w' ⟨o', n', rfl⟩; exact ⟨_, n', by first | (simp only [plus_plus]; rfl) | (simp only [plus_plus, Array.append_assoc]; rfl) | rfl⟩))))); refine wpQuiet_nil ?_; intro _ hw'; obtain ⟨oq, nq, hw''⟩ := hw'; subst hw'')
            go_wp2
            go_roundw
            case rel =>
              first
              | exact ⟨k + 1, d', _, _, by omega, by go_num, HB.out.ext (by simp (maxDischargeDepth := 60)), by omega⟩
              | (repeat apply Exists.intro
                 refine ⟨?_, rfl⟩
                 exact ⟨k + 1, d', _, _, by omega, by go_num, HB.out.ext (by simp (maxDischargeDepth := 60)), by omega⟩)
            case measure => simp [intOf]; omega
          · have e3 : (x.kind.toList == [102, 108, 117, 115, 104]) = false := str_ne k3
            by_cases k4 : x.kind = kArm
            · have e4 : (x.kind.toList == [97, 114, 109]) = true := kind_is k4
              clear k1 k2 k3 k4
              go_upto_region 27 with fail
              generalize hW : World.alloc _ _ = w0
              have HT : Hid (Two w w0 F' G' db rb sec d d) := by unfold Hid; rw [← hW]; exact HP.out.ext (by simp (maxDischargeDepth := 60))
              have hA : w0.heap[wr.heap.size]? = some (.cells #[.string x.kind, vi x.a, vi x.b, vi x.car.id, vi x.car.size.long, vi x.car.size.high, vi x.car.size.heavy, .string x.s, .int .u64 x.k, vi x.last, .slice x.a1 x.n1 x.c1, .slice x.a2 x.n2 x.c2] 78 (0, 0)) := by rw [← hW]; exact heap_alloc_new _ _
              have hAF : ¬ F' wr.heap.size := fun c => by have := disk_lt HP.out.pa _ c; omega
              have hAG : ¬ G' wr.heap.size := fun c => by have := disk_lt HP.out.ra _ c; omega
              have a1 := blk_cell (i := 1) hA rfl
              have a7 := blk_cell (i := 7) hA rfl
              have a8 := blk_cell (i := 8) hA rfl
              have zA := blk_lt hA
              generalize wr.heap.size = A at *
              have NF := Lib.hid hAF
              have NG := Lib.hid hAG
              clear hW hA hAF hAG HP dx
              have hxa : x.a ≤ 9223372036854775807 := GX.out.a.2
              have hlen : (d.arm x.a).wait.length ≤ k + 1 := by show d.wait.length ≤ k + 1; omega
              go_upto_region 28 with (first
                | (go_at_call 59; obtain ⟨ja, jca, ma, mca, va, hpa⟩ := HT.out.pa; (with_reducible refine (arm_any (hpa.ext (by simp (maxDischargeDepth := 60))) _ hxa).mono ?_); rintro e w5 ⟨rfl, ⟨F2, hd2, hf2⟩, hk2⟩; have HP1 := Lib.hid ((HT.out.ext (by simp (maxDischargeDepth := 60))).left hd2 hf2 hk2); have r1 := cell_kept hk2 (xcell (w := w0) (by simp (maxDischargeDepth := 60)) a1) NF.out; have rz := cell_lt r1; clear hd2 hf2 hk2 hpa))
              obtain ⟨jb, jcb, mb, mcb, vb', hra⟩ := HP1.out.ra
              obtain ⟨b0, b1, b2, b3, b4⟩ := hra.cells
              have fz := blk_free hra.blk
              have hbd := cell_lt b1
              have HRA := Lib.hid hra
              have hwf := Lib.hid (hra.wf.arm x.a hxa)
              clear hra
              go_upto_region 29 with fail
              all_goals
                generalize hW : World.setCell _ _ _ = w6
                have HB : Hid (Two w w6 F2 G' db rb sec (d.arm x.a) (d.arm x.a)) := by
                  unfold Hid
                  rw [← hW]
                  refine HP1.out.right ⟨_, _, _, _, _, HRA.out.put (e := d.arm x.a) 3 _ (by simp [Ch.Disk.arm]; omega) rfl rfl rfl hwf.out⟩ (fun _ h => Or.inl h) ((Kept.refl _ _).setCell (Or.inl HRA.out.f1) _)
                clear hW b0 b1 b2 b3 b4 fz hbd HRA hwf
                generalize d.arm x.a = d' at HB hlen
                obtain ⟨ka, kca, na, nca, wa, hpp⟩ := HB.out.pa
                obtain ⟨kb2, kc2, nb2, nc2, wv2, hqq⟩ := HB.out.ra
                have m4 := hqq.cells.2.2.2.2
                have mz := cell_lt m4
                have HPP := Lib.hid hpp
                clear hpp hqq
                (refine wp_region_ext (by kernel_rfl) (by kernel_rfl) ?_; (repeat (first | go_big_quiet_step ((intro _; go_at_call 62; exact ext_callG (down_any (HPP.out.ext (by simp (maxDischargeDepth := 60)))) (by rintro w' ⟨o', n', rfl⟩; exact ⟨_, n', by first | (simp only [plus_plus]; rfl) | (simp only [plus_plus, Array.append_assoc]; rfl) | rfl⟩))) | quiet_step ((intro _; go_at_call 62; exact ext_callG (down_any (HPP.out.ext (by simp (maxDischargeDepth := 60)))) (by rintro w' ⟨o', n', rfl⟩; exact ⟨_, n', by first | (simp only [plus_plus]; rfl) | (simp only [plus_plus, Array.append_assoc]; rfl) | rfl⟩))))); refine wpQuiet_nil ?_; intro _ hw'; obtain ⟨oq, nq, hw''⟩ := hw'; subst hw'')
                go_wp2
                go_roundw
                case rel =>
                  first
                  | exact ⟨k + 1, d', _, _, by omega, by go_num, HB.out.ext (by simp (maxDischargeDepth := 60)), by omega⟩
                  | (repeat apply Exists.intro
                     refine ⟨?_, rfl⟩
                     exact ⟨k + 1, d', _, _, by omega, by go_num, HB.out.ext (by simp (maxDischargeDepth := 60)), by omega⟩)
                case measure => simp [intOf]; omega
            · have e4 : (x.kind.toList == [97, 114, 109]) = false := str_ne k4
              clear k1 k2 k3 k4
              go_upto_region 16 with fail
              generalize hW : World.alloc _ _ = w0
              have HT : Hid (Two w w0 F' G' db rb sec d d) := by unfold Hid; rw [← hW]; exact HP.out.ext (by simp (maxDischargeDepth := 60))
              have hA : w0.heap[wr.heap.size]? = some (.cells #[.string x.kind, vi x.a, vi x.b, vi x.car.id, vi x.car.size.long, vi x.car.size.high, vi x.car.size.heavy, .string x.s, .int .u64 x.k, vi x.last, .slice x.a1 x.n1 x.c1, .slice x.a2 x.n2 x.c2] 78 (0, 0)) := by rw [← hW]; exact heap_alloc_new _ _
              have hAF : ¬ F' wr.heap.size := fun c => by have := disk_lt HP.out.pa _ c; omega
              have hAG : ¬ G' wr.heap.size := fun c => by have := disk_lt HP.out.ra _ c; omega
              have a1 := blk_cell (i := 1) hA rfl
              have a7 := blk_cell (i := 7) hA rfl
              have a8 := blk_cell (i := 8) hA rfl
              have zA := blk_lt hA
              generalize wr.heap.size = A at *
              have NF := Lib.hid hAF
              have NG := Lib.hid hAG
              clear hW hA hAF hAG HP dx
              obtain ⟨kp, hkp⟩ : ∃ kp : Nat, x.k = (kp : Int) := ⟨x.k.toNat, by have := GX.out.k0; omega⟩
              have hkp2 : kp < 18446744073709551616 := by have := GX.out.k1; omega
              have HKP := Lib.hid hkp
              rw [hkp] at a8
              clear hkp
              have hlen : (d.restart kp).wait.length ≤ k + 1 := by show ([] : List (Nat × ByteArray)).length ≤ k + 1; simp
              go_upto_region 29 with (first
                | (go_at_call 60; (with_reducible refine (restart_any (HT.out.pa.ext (by simp (maxDischargeDepth := 60))) kp hkp2 (by omega)).mono ?_); rintro e w5 ⟨rfl, ⟨F2, hd2, hf2⟩, hk2⟩; have HP1 := Lib.hid ((HT.out.ext (by simp (maxDischargeDepth := 60))).left hd2 hf2 hk2); have r8 := cell_kept hk2 (xcell (w := w0) (by simp (maxDischargeDepth := 60)) a8) NF.out; have rz := cell_lt r8; clear hd2 hf2 hk2)
                | (go_at_call 61; (with_reducible refine (rrestart_any (HP1.out.ra.ext (by simp (maxDischargeDepth := 60))) kp hkp2 (by omega) s1 (by omega)).mono ?_); rintro e w6 ⟨rfl, ⟨G2, hd2, hf2⟩, hk2⟩; have HB := Lib.hid ((HP1.out.ext (by simp (maxDischargeDepth := 60))).right hd2 hf2 hk2); clear hd2 hf2 hk2))
              generalize d.restart kp = d' at HB hlen
              obtain ⟨ka, kca, na, nca, wa, hpp⟩ := HB.out.pa
              obtain ⟨kb2, kc2, nb2, nc2, wv2, hqq⟩ := HB.out.ra
              have m4 := hqq.cells.2.2.2.2
              have mz := cell_lt m4
              have HPP := Lib.hid hpp
              clear hpp hqq
              (refine wp_region_ext (by kernel_rfl) (by kernel_rfl) ?_; (repeat (first | go_big_quiet_step ((intro _; go_at_call 62; exact ext_callG (down_any (HPP.out.ext (by simp (maxDischargeDepth := 60)))) (by rintro w' ⟨o', n', rfl⟩; exact ⟨_, n', by first | (simp only [plus_plus]; rfl) | (simp only [plus_plus, Array.append_assoc]; rfl) | rfl⟩))) | quiet_step ((intro _; go_at_call 62; exact ext_callG (down_any (HPP.out.ext (by simp (maxDischargeDepth := 60)))) (by rintro w' ⟨o', n', rfl⟩; exact ⟨_, n', by first | (simp only [plus_plus]; rfl) | (simp only [plus_plus, Array.append_assoc]; rfl) | rfl⟩))))); refine wpQuiet_nil ?_; intro _ hw'; obtain ⟨oq, nq, hw''⟩ := hw'; subst hw'')
              go_wp2
              go_roundw
              case rel =>
                first
                | exact ⟨k + 1, d', _, _, by omega, by go_num, HB.out.ext (by simp (maxDischargeDepth := 60)), by omega⟩
                | (repeat apply Exists.intro
                   refine ⟨?_, rfl⟩
                   exact ⟨k + 1, d', _, _, by omega, by go_num, HB.out.ext (by simp (maxDischargeDepth := 60)), by omega⟩)
              case measure => simp [intOf]; omega
    · go_wp2
      go_loopw [17] (fun i wr' => ∃ j : Nat, j ≤ sec + 2 ∧ i = .int .i64 ((j : Int) - 1) ∧ Two w wr' F' G' db rb sec d d) (fun i _ => (sec + 1 - intOf i).toNat)
      case atStart => exact ⟨0, by omega, by simp, HP.out⟩
      case round =>
        obtain ⟨j, hj, rfl, hp⟩ := hrel
        have HP2 := Lib.hid hp
        clear hp
        by_cases hlj : j ≤ sec + 1
        · obtain ⟨ja, jca, ma, mca, va, hpa⟩ := HP2.out.pa
          obtain ⟨jb, jcb, mb, mcb, vb', hra⟩ := HP2.out.ra
          have HPA := Lib.hid hpa
          have HRA := Lib.hid hra
          clear hpa hra
          go_wp2_with (first
            | (go_at_call 55; (with_reducible refine (read_any (HPA.out.ext (by simp (maxDischargeDepth := 60))) _).mono ?_); rintro e w5 ⟨rfl, o5, n5, rfl⟩)
            | (go_at_call 56; (with_reducible refine (rread_any (HRA.out.ext (by simp (maxDischargeDepth := 60))) _).mono ?_); rintro e w6 ⟨rfl, o6, n6, rfl⟩)
            | (go_at_call 30; refine (same_yes _ _ (read_nn _ _)).mono ?_; rintro e w7 ⟨rfl, o7, n7, rfl⟩))
          go_roundw
          case rel => exact ⟨j + 1, by omega, by go_num, HP2.out.ext (by simp (maxDischargeDepth := 60))⟩
          case measure => simp [intOf]; omega
        · go_wp2
          go_ret
          exact ⟨rfl, Ext.of_below HP2.out.below⟩

theorem diskSays_walk (sec : Int) {a : Option Addr} {n cap : Nat} {l : List RAct} {w : World} (h : Sl w 12 ractCells l a n cap) (hg : ∀ x ∈ l, x.Good) :
    Calls Try.prog 7 #[vi sec, .slice a n cap] w fun e w' => e = .returned (.bool true) ∧ Ext w w' := by
  by_cases hs : sec < 1 ∨ 40 < sec
  · exact diskSays_bad sec hs h hg
  · obtain ⟨k, rfl⟩ := Int.eq_ofNat_of_zero_le (a := sec) (by omega)
    exact diskSays_ok k (by omega) (by omega) h hg

end Go.Proofs.Ytplomeacjbkgnaa
