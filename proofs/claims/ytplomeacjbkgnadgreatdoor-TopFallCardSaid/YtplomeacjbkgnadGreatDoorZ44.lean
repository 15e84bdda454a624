import Derived.Test.YtplomeacjbkgnadGreatDoorZ43
set_option linter.all false
set_option maxRecDepth 100000
set_option maxHeartbeats 16000000
namespace Go.Proofs.YtplomeacjbkgnadGreatDoor
open Go.RowKit
abbrev NoN:Nat→Prop:=fun _=>False
theorem arr_val {w0:World} {N:Nat→Prop} {pb mb db lb hb:Nat} {h:Ch.House} {k:Nat} {w:World} (s:St w0 N pb mb db lb hb h k w) (n:Int):
  Calls Tryz.prog 26 #[.pointer (some ⟨pb,0,none⟩),vi n] w fun e w'=>e = .returned (errV (h.p.arrive n).2)∧St w0 N pb mb db lb hb { h with p:=(h.p.arrive n).1 } k w'∧Kept (Own0 w0 N) w w':=by
 refine (arrive_any s.plantAt s.wf n).mono ?_;rintro e w' ⟨rfl,hp,hk⟩;obtain ⟨q1,q2⟩:=s.plant hk hp (Ch.Live.inv2_arrive s.inv n);exact ⟨rfl,q1,q2⟩
theorem works_any (w:World) (L:Libs w):Calls Tryz.prog 7 #[] w fun e w'=>e = .returned (.bool true)∧Ext w w':=by
 have HL:=Lib.hid L;have e1:errV (Ch.House.new [⟨99,99,99⟩] |>.p.arrive 7).2 = .nilIface:=rfl;have E1:=Lib.hid e1
 have P1:Hid ((Ch.Live.w1.park ⟨7,⟨1,1,1⟩⟩).2.1=1):=by unfold Hid;rw [Ch.Live.w2_ok]
 have P2:Hid (errV (Ch.Live.w1.park ⟨7,⟨1,1,1⟩⟩).2.2 = .nilIface):=by unfold Hid;rw [Ch.Live.w2_ok];rfl
 have HA:Hid ((Ch.House.ticks 40 Ch.Live.w2).p.slots ⟨1,0,1⟩=7):=Ch.Live.w3_ok;clear L e1;go_enter Tryz.func7,Tryz.ntmps7
 go_upto_region 6 with (first
  | (go_at_call 25;refine (one_any _).mono ?_;rintro e w1 ⟨b,rfl,hs,hx⟩;have HX1:Hid (Ext w w1):=Ext.trans (by simp (maxDischargeDepth:=60)) hx;have HO:=Lib.hid hs;clear hs hx)
  | (go_at_call 24;refine (housed_now HO.out Ch.Live.w0_ok (HL.out.ext HX1.out)).mono ?_;rintro e w2 ⟨pb,mb,db,lb,hb,rfl,hs⟩;have HS2:=Lib.hid hs;clear hs)
  | (go_at_call 26;refine (arr_val HS2.out 7).mono ?_;rintro e w3 ⟨rfl,hs,-⟩;have HS3:Hid (St w1 NoN pb mb db lb hb Ch.Live.w1 2 w3):=hs;rw [E1.out];clear hs)
  | (go_at_call 27;refine (st_park (HS3.out.ext (by simp (maxDischargeDepth:=60))) (by decide) (HL.out.tab.ext HX1.out) _ _ _ _).mono ?_;rintro e w4 ⟨rfl,-,hs⟩;have HS4:Hid (St w1 NoN pb mb db lb hb Ch.Live.w2 3 w4):=hs;rw [P1.out,P2.out];clear hs))
 go_loopw [7] (fun i2 wr=>∃ j:Nat,i2 = .int .i64 (j:Int)∧Hid (j≤40)∧Hid (St w1 NoN pb mb db lb hb (Ch.House.ticks j Ch.Live.w2) (3+j) wr)) (fun i2 _=>40 - (intOf i2).toNat)
 case atStart=>exact ⟨0,rfl,by unfold Hid;decide,HS4.out.ext (by simp (maxDischargeDepth:=60))⟩
 case round=>
  obtain ⟨j,rfl,HJ,HSR⟩:=hrel;have hj:=HJ.out
  by_cases hlt:j<40
  ·have h2:(j:Int)<40:=by omega
   have hk2:3+j+2<4294967296:=by omega
   go_wp2_with (go_at_call 14;refine (st_tick (HSR.out.ext (by simp (maxDischargeDepth:=60))) hk2 (HL.out.tab.ext HX1.out)).mono ?_;rintro r w5 ⟨rfl,-,hs⟩;have HS5:=Lib.hid hs;clear hs);go_roundw
   case rel=>exact ⟨j+1,by go_num,by unfold Hid;omega,by unfold Hid;rw [Ch.Live.ticks_add j 1];exact HS5.out.ext (by simp (maxDischargeDepth:=60))⟩
   case measure=>simp [intOf];omega
  ·obtain rfl:j=40:=by omega
   have hlt0:=HSR.out.plantAt;go_wp2_with (go_at_call 17;(with_reducible refine (at_val (HSR.out.plantAt.ext (by simp (maxDischargeDepth:=60))) _ _ _ 7 HA).mono ?_);rintro e w1 ⟨rfl,o1,n1,rfl⟩);go_ret;exact ⟨rfl,HX1.out.trans (HSR.out.x.trans (by simp (maxDischargeDepth:=60)))⟩
def Ready (w:World) (sizes:List Ch.Size) (n:Nat) (e:Ending) (w':World):Prop:=
 (e = .returned (.tuple #[.pointer none,.pointer none,.pointer none,.bool false])∧Ext w w') ∨
 (∃ pb mb db lb hb,e = .returned (.tuple #[.pointer (some ⟨pb,0,none⟩),.pointer (some ⟨db,0,none⟩),.pointer (some ⟨hb,0,none⟩),.bool true])∧Ch.levelsFault sizes=0∧n≤60∧∃ w1,Ext w w1∧St w1 NoN pb mb db lb hb (Ch.House.new sizes) 2 w')
theorem check_no (a:Option Addr) (n cap:Nat) (l:List Ch.Size) (w:World) (h:Sl w 3 sizeCells l a n cap) (hf:¬ Ch.levelsFault l=0):Calls Tryz.prog 28 #[.slice a n cap] w fun e w'=>e = .returned (.iface 114 (vi (Ch.levelsFault l)))∧Ext w w':=by
 have:=check_any a n cap l w h;unfold errV at this;rw [if_neg hf] at this;exact this
theorem light_many (m:Int) (a:Option Addr) (n cap:Nat) (l:List RAct) (w:World) (h:Sl w 12 ractCells l a n cap) (hn:m<(n:Int)):
  Calls Tryz.prog 29 #[.slice a n cap,vi m] w fun e w'=>e = .returned (.bool false)∧Ext w w':=by
 have hb:=h.bound;clear h;go_enter Tryz.func29,Tryz.ntmps29;go_wp2;go_ret;exact ⟨rfl,(by simp (maxDischargeDepth:=60))⟩
theorem ready_now {la:Option Addr} {ln lc:Nat} {sizes:List Ch.Size} {a:Option Addr} {n cap:Nat} {l:List RAct} {w:World} (hl:Sl w 3 sizeCells sizes la ln lc) (h:Sl w 12 ractCells l a n cap) (hg:∀ x∈l,x.Good) (L:Libs w):
  Calls Tryz.prog 8 #[.slice la ln lc,.slice a n cap] w (Ready w sizes n):=by
 have lbd:=hl.bound;have abd:=h.bound;have HF:=Lib.hid hl;have HA:=Lib.hid h;have HG:=Lib.hid hg;have HL:=Lib.hid L;have hlen:=hl.len;clear hl h hg L
 have RET:∀ (v0 v1 v2:Value) (b:Bool),True:=fun _ _ _ _=>trivial
 by_cases h6:6<(ln:Int)
 ·go_enter Tryz.func8,Tryz.ntmps8
  go_wp2_with fail;refine bodyPost_ret (v:=.tuple #[.pointer none,.pointer none,.pointer none,.bool false]) (by simp [results,Tryz.results8,go_sem]) rfl ?_;exact Or.inl ⟨rfl,(by simp (maxDischargeDepth:=60))⟩
 by_cases hf:Ch.levelsFault sizes=0
 ·have HLF:=Lib.hid hf
  by_cases h60:60<(n:Int)
  ·go_enter Tryz.func8,Tryz.ntmps8
   go_wp2_with (first
    | (go_at_call 28;(with_reducible refine (check_ok _ _ _ _ _ (Sl.below HF.out (Ext.below (by simp (maxDischargeDepth:=60)))) HLF.out).mono ?_);rintro e w1 ⟨rfl,o1,n1,rfl⟩)
    | (go_at_call 29;(with_reducible refine (light_many _ _ _ _ l _ (Sl.below HA.out (Ext.below (by simp (maxDischargeDepth:=60)))) h60).mono ?_);rintro e w1 ⟨rfl,o1,n1,rfl⟩))
   refine bodyPost_ret (v:=.tuple #[.pointer none,.pointer none,.pointer none,.bool false]) (by simp [results,Tryz.results8,go_sem]) rfl ?_;exact Or.inl ⟨rfl,(by simp (maxDischargeDepth:=60))⟩
  ·have hn60:n≤60:=by omega
   clear hf;go_enter Tryz.func8,Tryz.ntmps8
   go_wp2_with (first
    | (go_at_call 28;(with_reducible refine (check_ok _ _ _ _ _ (Sl.below HF.out (Ext.below (by simp (maxDischargeDepth:=60)))) HLF.out).mono ?_);rintro e w1 ⟨rfl,o1,n1,rfl⟩))
   go_at_call 29
   refine (lightActs_any _ _ _ _ l _ (Sl.below HA.out (Ext.below (by simp (maxDischargeDepth:=60)))) HG.out).mono ?_;rintro e w1 ⟨b,rfl,o1,n1,rfl⟩;cases b
   ·go_wp2_with fail
    refine bodyPost_ret (v:=.tuple #[.pointer none,.pointer none,.pointer none,.bool false]) (by simp [results,Tryz.results8,go_sem]) rfl ?_;exact Or.inl ⟨rfl,(by simp (maxDischargeDepth:=60))⟩
   ·go_wp2_with (go_at_call 24;refine (housed_now (Sl.below HF.out (Ext.below (by simp (maxDischargeDepth:=60)))) HLF.out (HL.out.ext (by simp (maxDischargeDepth:=60)))).mono ?_;rintro e w2 ⟨pb,mb,db,lb,hb,rfl,hs⟩;have HS2:=Lib.hid hs;clear hs)
    refine bodyPost_ret (v:=.tuple #[.pointer (some ⟨pb,0,none⟩),.pointer (some ⟨db,0,none⟩),.pointer (some ⟨hb,0,none⟩),.bool true]) (by simp [results,Tryz.results8,go_sem]) rfl ?_;exact Or.inr ⟨pb,mb,db,lb,hb,rfl,HLF.out,hn60,_,(by simp (maxDischargeDepth:=60)),HS2.out⟩
 ·go_enter Tryz.func8,Tryz.ntmps8
  go_wp2_with (go_at_call 28;(with_reducible refine (check_no _ _ _ _ _ (Sl.below HF.out (Ext.below (by simp (maxDischargeDepth:=60)))) hf).mono ?_);rintro e w1 ⟨rfl,o1,n1,rfl⟩);refine bodyPost_ret (v:=.tuple #[.pointer none,.pointer none,.pointer none,.bool false]) (by simp [results,Tryz.results8,go_sem]) rfl ?_;exact Or.inl ⟨rfl,(by simp (maxDischargeDepth:=60))⟩
end Go.Proofs.YtplomeacjbkgnadGreatDoor
