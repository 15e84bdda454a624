/-
  The walk of the reference's words: each blank parts.
-/
import Derived.Test.YtplomeacjbkgnaaDoorParse
namespace Go.Proofs.YtplomeacjbkgnaaDoor
open Go.RowKit

theorem infoStrW : (Tryd.prog.info? 9).map (fun i => (i.zero, i.size, i.bytes)) = some (some (.string ⟨#[]⟩), 1, 16) := by kernel_rfl

/-- words that have been gathered -/
structure Wds (w : World) (l : List ByteArray) (v : Value) (wr : World) : Prop where
  own : wr.ownsRow w.heap.size 9 1 v l.length (l.flatMap strCells)
  ext : Ext w wr

theorem wd_last {l : List ByteArray} {x : ByteArray} {v : Value} {wr : World} {base : Nat} (h : wr.ownsRow base 9 1 v (l.length + 1) (l.flatMap strCells ++ [.string x])) : wr.ownsRow base 9 1 v (l ++ [x]).length ((l ++ [x]).flatMap strCells) := by
  rw [List.length_append, List.flatMap_append]; exact h

theorem byte_atW {s : ByteArray} {k : Nat} (h : k < s.size) : s.data.toList[k]? = some s[k] := by
  rw [List.getElem?_eq_getElem (by simpa using h)]; simp; rfl

theorem extract_one {s : ByteArray} {k : Nat} (h : k < s.size) : (s.extract k (k + 1)).data.toList = [s[k]] := by
  rw [ByteArray.data_extract, Array.toList_extract]
  have := byte_atW h
  obtain ⟨hk', e⟩ := List.getElem?_eq_some_iff.1 this
  rw [show s.data.toList.extract k (k + 1) = (s.data.toList.drop k).take 1 by rw [List.extract_eq_take_drop]; simp, List.drop_eq_getElem_cons hk', e]
  rfl

set_option maxRecDepth 100000 in
set_option maxHeartbeats 4000000 in
theorem words_any (s : ByteArray) (w : World) (hs : s.size ≤ 10000) :
    Calls Tryd.prog 28 #[.string s] w fun e w' => ∃ v, e = .returned v ∧ Wds w (Ch.wordsB s) v w' := by
  obtain ⟨i0, hi, hz0, hz1, hz2⟩ := info_parts infoStrW
  go_enter Tryd.func28, Tryd.ntmps28
  go_wp2
  go_loopw [3, 4, 5] (fun v c i wr => ∃ (k : Nat) (D : List ByteArray) (g : Option Addr) (d : Nat) (t : ByteArray), k ≤ s.size ∧ i = .int .i64 k ∧ c = .string t ∧ v = .slice g D.length d ∧ D.length ≤ k ∧ t.size ≤ k ∧
      Hid (D.map (·.data.toList) ++ Ch.wordsFrom t.data.toList (s.data.toList.drop k) = Ch.wordsOf s.data.toList) ∧ Wds w D (.slice g D.length d) wr) (fun _ _ i _ => s.size - (intOf i).toNat)
  case atStart => exact ⟨0, [], none, 0, ⟨#[]⟩, by omega, rfl, by rfl, rfl, by simp, by show 0 ≤ 0; omega, by simp [Hid, Ch.wordsOf], ⟨World.ownsRow_nil _ _ _ _, Ext.refl _⟩⟩
  case round =>
    obtain ⟨k, D, g, d, t, hk, rfl, rfl, rfl, hD, ht, HM, hgat⟩ := hrel
    have HG := Lib.hid hgat
    have hsz := hgat.ext.below.size
    clear hgat
    by_cases hlt : k < s.size
    · have hki : (k : Int) < (s.size : Int) := by omega
      obtain ⟨c, hc⟩ : ∃ c, (s[k]'hlt).toNat = c := ⟨_, rfl⟩
      have HB := Lib.hid (byte_atW hlt)
      have hdr : Hid (s.data.toList.drop k = s[k] :: s.data.toList.drop (k + 1)) := by
        unfold Hid
        have := HB.out
        obtain ⟨hk', e⟩ := List.getElem?_eq_some_iff.1 this
        rw [← e]
        exact List.drop_eq_getElem_cons hk'
      by_cases h32 : c = 32
      · subst h32
        have HM2 : Hid ((D ++ [t]).map (·.data.toList) ++ Ch.wordsFrom [] (s.data.toList.drop (k + 1)) = Ch.wordsOf s.data.toList) := by
          unfold Hid
          rw [← HM.out, hdr.out, Ch.wordsFrom, if_pos (by rw [← UInt8.toNat_inj]; exact hc)]
          simp
        go_wp2_with (at_builtin; refine wpList_append_lies _ rfl _ _ _ rfl w.heap.size 9 i0 _ 1 16 Tryd.underlying63 hi hz0 hz1 hz2 rfl (by decide) (.slice g D.length d) D.length _ rfl (owns_alloc HG.out.own _) _ 1 1 [.string t] rfl rfl (World.news_of_block (alloc_at _ _ _ (by simp))) (by simp [Value.oneCell']) (by decide) (by unfold maxLen; omega) (by omega) (by first | omega | (simp; omega)) _ rfl ?_; intro gg cap w3 hown3 hgrow hat hlt3; have HG3 : Hid (Wds w (D ++ [t]) (.slice (some ⟨gg, 0, none⟩) (D.length + 1) cap) w3) := ⟨wd_last hown3, ext_grown (w := w) (HG.out.ext.trans (by simp (maxDischargeDepth := 60))) hgrow (owns_block HG.out.own)⟩; clear hown3 hgrow hat hlt3)
        go_roundw
        case rel => exact ⟨k + 1, D ++ [t], some ⟨gg, 0, none⟩, cap, ⟨#[]⟩, by omega, by go_num, rfl, by rw [List.length_append]; rfl, by rw [List.length_append]; show D.length + 1 ≤ k + 1; omega, Nat.zero_le _, HM2.out, by rw [show (D ++ [t]).length = D.length + 1 by rw [List.length_append]; rfl]; exact HG3.out⟩
        case measure => simp [intOf]; omega
      · have hz : (s.extract k (k + 1)).size = 1 := by rw [ByteArray.size_extract]; omega
        obtain ⟨t2, et2⟩ : ∃ c, c = t ++ s.extract k (k + 1) := ⟨_, rfl⟩
        have zt2 : t2.size = t.size + 1 := by rw [et2, ByteArray.size_append, hz]
        have rt2 := cat_run t (s.extract k (k + 1)) t2 et2 (by omega)
        have HM2 : Hid (D.map (·.data.toList) ++ Ch.wordsFrom t2.data.toList (s.data.toList.drop (k + 1)) = Ch.wordsOf s.data.toList) := by
          unfold Hid
          rw [← HM.out, hdr.out, Ch.wordsFrom, if_neg (by rw [← UInt8.toNat_inj]; intro h; exact h32 (by rw [← hc]; exact h)), et2, ba_append, extract_one hlt]
        replace et2 := Lib.hid et2
        go_wp2
        go_roundw
        case rel => exact ⟨k + 1, D, g, d, t2, by omega, by go_num, rfl, rfl, by omega, by omega, HM2.out, by first | exact HG.out | exact ⟨owns_x HG.out.own (by simp (maxDischargeDepth := 60)), HG.out.ext.trans (by simp (maxDischargeDepth := 60))⟩⟩
        case measure => simp [intOf]; omega
    · have hks : k = s.size := by omega
      have HM2 : Hid (D ++ [t] = Ch.wordsB s) := by
        have h1 := HM.out
        rw [List.drop_eq_nil_of_le (by simp; omega), Ch.wordsFrom, ← Ch.wordsB_data] at h1
        have h2 : (D ++ [t]).map (·.data.toList) = (Ch.wordsB s).map (·.data.toList) := by rw [← h1]; simp
        exact (List.map_inj_right (fun a b h => ba_ext h)).1 h2
      go_wp2_with (at_builtin; refine wpList_append_lies _ rfl _ _ _ rfl w.heap.size 9 i0 _ 1 16 Tryd.underlying63 hi hz0 hz1 hz2 rfl (by decide) (.slice g D.length d) D.length _ rfl (owns_alloc HG.out.own _) _ 1 1 [.string t] rfl rfl (World.news_of_block (alloc_at _ _ _ (by simp))) (by simp [Value.oneCell']) (by decide) (by unfold maxLen; omega) (by omega) (by first | omega | (simp; omega)) _ rfl ?_; intro gg cap w3 hown3 hgrow hat hlt3; have HG3 : Hid (Wds w (D ++ [t]) (.slice (some ⟨gg, 0, none⟩) (D.length + 1) cap) w3) := ⟨wd_last hown3, ext_grown (w := w) (HG.out.ext.trans (by simp (maxDischargeDepth := 60))) hgrow (owns_block HG.out.own)⟩; clear hown3 hgrow hat hlt3)
      go_ret
      exact ⟨_, rfl, by rw [← HM2.out]; exact HG3.out⟩
end Go.Proofs.YtplomeacjbkgnaaDoor
