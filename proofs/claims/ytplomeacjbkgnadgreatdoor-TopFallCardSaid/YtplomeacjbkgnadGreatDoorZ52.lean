import Derived.Test.YtplomeacjbkgnadGreatDoorZ43
import Derived.Test.YtplomeacjbkgnadGreatDoorZ51
set_option linter.all false
set_option maxRecDepth 100000
set_option maxHeartbeats 16000000
namespace Go.Proofs.YtplomeacjbkgnadGreatDoor
open Go.RowKit
section
variable {w0:World} {N:Nat→Prop} {pb mb db lb hb:Nat} {y:Ch.Live.HD} {w:World}
structure Fit (y:Ch.Live.HD):Prop where
 inv:y.h.Inv'
 e:y.e+1<4294967296
 wait:y.d.wait.length≤1000
theorem sd_tick (s:SD w0 N pb mb db lb hb y w) (f:Fit y) (hT:Tab w0):
  Calls Tryz.prog 14 #[.pointer (some ⟨hb,0,none⟩)] w fun r w'=>r = .returned (errV y.tick.2)∧Kept (Own0 w0 N) w w'∧SD w0 N pb mb db lb hb y.tick.1 w':=by
 refine (tick_now s.hZ s.hn f.inv f.e f.wait (hT.ext s.ex)).mono ?_;rintro r w' ⟨rfl,hk,hn⟩;exact ⟨rfl,hk,s.next hk hn⟩
theorem sd_park (s:SD w0 N pb mb db lb hb y w) (f:Fit y) (hT:Tab w0) (id lo hi he:Int):
  Calls Tryz.prog 27 #[.pointer (some ⟨hb,0,none⟩),.agg #[vi id,vi lo,vi hi,vi he]] w fun r w'=>r = .returned (.tuple #[vi (y.park ⟨id,⟨lo,hi,he⟩⟩).2.1,errV (y.park ⟨id,⟨lo,hi,he⟩⟩).2.2])∧Kept (Own0 w0 N) w w'∧SD w0 N pb mb db lb hb (y.park ⟨id,⟨lo,hi,he⟩⟩).1 w':=by
 refine (park_now s.hZ s.hn f.inv f.e f.wait (hT.ext s.ex) id lo hi he).mono ?_;rintro r w' ⟨rfl,hk,hn⟩;exact ⟨rfl,hk,s.next hk hn⟩
theorem sd_want (s:SD w0 N pb mb db lb hb y w) (f:Fit y) (hT:Tab w0) (t:Int):
  Calls Tryz.prog 13 #[.pointer (some ⟨hb,0,none⟩),vi t] w fun r w'=>r = .returned (errV (y.want t).2)∧Kept (Own0 w0 N) w w'∧SD w0 N pb mb db lb hb (y.want t).1 w':=by
 refine (want_now s.hZ s.hn f.inv f.e f.wait (hT.ext s.ex) t).mono ?_;rintro r w' ⟨rfl,hk,hn⟩;exact ⟨rfl,hk,s.next hk hn⟩
end
theorem fit_up {y:Ch.Live.HD} {n:Nat} (hy:y.Up n) (he:y.e+2<4294967296):Fit y:=⟨hy.inv.inv,by omega,hy.wait⟩
theorem fit_ticks {y:Ch.Live.HD} (hy:y.Up 22) {k:Nat} (he:y.e+k+2<4294967296):Fit (Ch.Live.HD.ticks k y):=by
 obtain ⟨a,b,c⟩:=Ch.Live.HD.ticks_fit (Nat.le_refl _) hy he;exact ⟨a,b,c⟩
theorem play_parkD {w0:World} {N:Nat→Prop} {pb mb db lb hb:Nat} {y:Ch.Live.HD} {w:World} (s:SD w0 N pb mb db lb hb y w) (f:Fit y) (hT:Tab w0) (a b i l g e kk t:Int) (ss:ByteArray) (a1 a2:Option Addr) (n1' c1' n2' c2':Nat) (la:Option Addr) (ln lc:Nat):
  Calls Tryz.prog 9 #[.slice la ln lc,.pointer (some ⟨pb,0,none⟩),.pointer (some ⟨db,0,none⟩),.pointer (some ⟨hb,0,none⟩),.agg #[.string Ch.kPark,vi a,vi b,vi i,vi l,vi g,vi e,.string ss,.int .u64 kk,vi t,.slice a1 n1' c1',.slice a2 n2' c2']] w fun r w'=>r = .returned (.pointer (some ⟨hb,0,none⟩))∧Kept (Own0 w0 N) w w'∧SD w0 N pb mb db lb hb ((y.park ⟨i,⟨l,g,e⟩⟩).1) w':=by
 have HS:=Lib.hid s;have HFI:=Lib.hid f;have HT:=Lib.hid hT;unfold Ch.kPark;clear s hT f;go_enter Tryz.func9,Tryz.ntmps9;go_wp2_with (go_at_call 27;refine (sd_park (HS.out.ext (by simp (maxDischargeDepth:=60))) HFI.out HT.out _ _ _ _).mono ?_;rintro r w1 ⟨rfl,hk1,hs1⟩;have HK1:Hid (Kept (Own0 w0 N) w w1):=(Kept.of_ext (by simp (maxDischargeDepth:=60)):Kept (Own0 w0 N) w _).trans hk1;have HS1:=Lib.hid hs1;clear hk1 hs1);go_ret;exact ⟨rfl,HK1.out.trans (Kept.of_ext (by simp (maxDischargeDepth:=60))),HS1.out.ext (by simp (maxDischargeDepth:=60))⟩
theorem play_wantD {w0:World} {N:Nat→Prop} {pb mb db lb hb:Nat} {y:Ch.Live.HD} {w:World} (s:SD w0 N pb mb db lb hb y w) (f:Fit y) (hT:Tab w0) (a b i l g e kk t:Int) (ss:ByteArray) (a1 a2:Option Addr) (n1' c1' n2' c2':Nat) (la:Option Addr) (ln lc:Nat):
  Calls Tryz.prog 9 #[.slice la ln lc,.pointer (some ⟨pb,0,none⟩),.pointer (some ⟨db,0,none⟩),.pointer (some ⟨hb,0,none⟩),.agg #[.string Ch.kWant,vi a,vi b,vi i,vi l,vi g,vi e,.string ss,.int .u64 kk,vi t,.slice a1 n1' c1',.slice a2 n2' c2']] w fun r w'=>r = .returned (.pointer (some ⟨hb,0,none⟩))∧Kept (Own0 w0 N) w w'∧SD w0 N pb mb db lb hb ((y.want a).1) w':=by
 have HS:=Lib.hid s;have HFI:=Lib.hid f;have HT:=Lib.hid hT;unfold Ch.kWant;clear s hT f;go_enter Tryz.func9,Tryz.ntmps9;go_wp2_with (go_at_call 13;refine (sd_want (HS.out.ext (by simp (maxDischargeDepth:=60))) HFI.out HT.out _).mono ?_;rintro r w1 ⟨rfl,hk1,hs1⟩;have HK1:Hid (Kept (Own0 w0 N) w w1):=(Kept.of_ext (by simp (maxDischargeDepth:=60)):Kept (Own0 w0 N) w _).trans hk1;have HS1:=Lib.hid hs1;clear hk1 hs1);go_ret;exact ⟨rfl,HK1.out.trans (Kept.of_ext (by simp (maxDischargeDepth:=60))),HS1.out.ext (by simp (maxDischargeDepth:=60))⟩
theorem play_walkD {w0:World} {N:Nat→Prop} {pb mb db lb hb:Nat} {y:Ch.Live.HD} {w:World} (s:SD w0 N pb mb db lb hb y w) (hwf:y.h.p.WF) (x:RAct) (hg:x.Good) (hx:x.kind=Ch.kWalk) (la:Option Addr) (ln lc:Nat):
  Calls Tryz.prog 9 #[.slice la ln lc,.pointer (some ⟨pb,0,none⟩),.pointer (some ⟨db,0,none⟩),.pointer (some ⟨hb,0,none⟩),ractA x] w fun r w'=>r = .returned (.pointer (some ⟨hb,0,none⟩))∧Kept (Own0 w0 N) w w'∧SD w0 N pb mb db lb hb ({ y with h:={ y.h with p:=y.h.p.outside x.act } }) w':=by
 have HS:=Lib.hid s;have HG:=Lib.hid hg;have HWF:=Lib.hid hwf;obtain ⟨kd,a,b,⟨i,⟨l,g,e⟩⟩,ss,kk,t,a1,m1,d1,a2,m2,d2⟩:=x;dsimp only at hx;subst hx;unfold ractA;dsimp only
 have HO:=fun w' (x':Ext w w')=>outside_any (HS.out.plantAt.ext x') HWF.out _ HG.out
 have HOH:=Lib.hid HO;unfold ractA at HOH;dsimp only at HOH
 unfold Ch.kWalk at HOH ⊢
 clear s hg hwf HO;go_enter Tryz.func9,Tryz.ntmps9;go_wp2_with (go_at_call 30;refine (HOH.out _ (by simp (maxDischargeDepth:=60))).mono ?_;rintro r w1 ⟨rfl,hp1,hk1⟩;have HK1:Hid (Kept (Own pb mb) w w1):=(Kept.of_ext (by simp (maxDischargeDepth:=60)):Kept (Own pb mb) w _).trans hk1;have HP1:=Lib.hid hp1;clear hk1 hp1);go_ret;obtain ⟨q1,q2⟩:=HS.out.plant HK1.out HP1.out;exact ⟨rfl,q2.trans (Kept.of_ext (by simp (maxDischargeDepth:=60))),q1.ext (by simp (maxDischargeDepth:=60))⟩
theorem play_arriveD {w0:World} {N:Nat→Prop} {pb mb db lb hb:Nat} {y:Ch.Live.HD} {w:World} (s:SD w0 N pb mb db lb hb y w) (hwf:y.h.p.WF) (x:RAct) (hg:x.Good) (hx:x.kind=Ch.kArrive) (la:Option Addr) (ln lc:Nat):
  Calls Tryz.prog 9 #[.slice la ln lc,.pointer (some ⟨pb,0,none⟩),.pointer (some ⟨db,0,none⟩),.pointer (some ⟨hb,0,none⟩),ractA x] w fun r w'=>r = .returned (.pointer (some ⟨hb,0,none⟩))∧Kept (Own0 w0 N) w w'∧SD w0 N pb mb db lb hb ({ y with h:={ y.h with p:=y.h.p.outside x.act } }) w':=by
 have HS:=Lib.hid s;have HG:=Lib.hid hg;have HWF:=Lib.hid hwf;obtain ⟨kd,a,b,⟨i,⟨l,g,e⟩⟩,ss,kk,t,a1,m1,d1,a2,m2,d2⟩:=x;dsimp only at hx;subst hx;unfold ractA;dsimp only
 have HO:=fun w' (x':Ext w w')=>outside_any (HS.out.plantAt.ext x') HWF.out _ HG.out
 have HOH:=Lib.hid HO;unfold ractA at HOH;dsimp only at HOH
 unfold Ch.kArrive at HOH ⊢
 clear s hg hwf HO;go_enter Tryz.func9,Tryz.ntmps9;go_wp2_with (go_at_call 30;refine (HOH.out _ (by simp (maxDischargeDepth:=60))).mono ?_;rintro r w1 ⟨rfl,hp1,hk1⟩;have HK1:Hid (Kept (Own pb mb) w w1):=(Kept.of_ext (by simp (maxDischargeDepth:=60)):Kept (Own pb mb) w _).trans hk1;have HP1:=Lib.hid hp1;clear hk1 hp1);go_ret;obtain ⟨q1,q2⟩:=HS.out.plant HK1.out HP1.out;exact ⟨rfl,q2.trans (Kept.of_ext (by simp (maxDischargeDepth:=60))),q1.ext (by simp (maxDischargeDepth:=60))⟩
theorem play_leaveD {w0:World} {N:Nat→Prop} {pb mb db lb hb:Nat} {y:Ch.Live.HD} {w:World} (s:SD w0 N pb mb db lb hb y w) (hwf:y.h.p.WF) (x:RAct) (hg:x.Good) (hx:x.kind=Ch.kLeave) (la:Option Addr) (ln lc:Nat):
  Calls Tryz.prog 9 #[.slice la ln lc,.pointer (some ⟨pb,0,none⟩),.pointer (some ⟨db,0,none⟩),.pointer (some ⟨hb,0,none⟩),ractA x] w fun r w'=>r = .returned (.pointer (some ⟨hb,0,none⟩))∧Kept (Own0 w0 N) w w'∧SD w0 N pb mb db lb hb ({ y with h:={ y.h with p:=y.h.p.outside x.act } }) w':=by
 have HS:=Lib.hid s;have HG:=Lib.hid hg;have HWF:=Lib.hid hwf;obtain ⟨kd,a,b,⟨i,⟨l,g,e⟩⟩,ss,kk,t,a1,m1,d1,a2,m2,d2⟩:=x;dsimp only at hx;subst hx;unfold ractA;dsimp only
 have HO:=fun w' (x':Ext w w')=>outside_any (HS.out.plantAt.ext x') HWF.out _ HG.out
 have HOH:=Lib.hid HO;unfold ractA at HOH;dsimp only at HOH
 unfold Ch.kLeave at HOH ⊢
 clear s hg hwf HO;go_enter Tryz.func9,Tryz.ntmps9;go_wp2_with (go_at_call 30;refine (HOH.out _ (by simp (maxDischargeDepth:=60))).mono ?_;rintro r w1 ⟨rfl,hp1,hk1⟩;have HK1:Hid (Kept (Own pb mb) w w1):=(Kept.of_ext (by simp (maxDischargeDepth:=60)):Kept (Own pb mb) w _).trans hk1;have HP1:=Lib.hid hp1;clear hk1 hp1);go_ret;obtain ⟨q1,q2⟩:=HS.out.plant HK1.out HP1.out;exact ⟨rfl,q2.trans (Kept.of_ext (by simp (maxDischargeDepth:=60))),q1.ext (by simp (maxDischargeDepth:=60))⟩
theorem play_stallD {w0:World} {N:Nat→Prop} {pb mb db lb hb:Nat} {y:Ch.Live.HD} {w:World} (s:SD w0 N pb mb db lb hb y w) (hwf:y.h.p.WF) (x:RAct) (hg:x.Good) (hx:x.kind=Ch.kStall) (la:Option Addr) (ln lc:Nat):
  Calls Tryz.prog 9 #[.slice la ln lc,.pointer (some ⟨pb,0,none⟩),.pointer (some ⟨db,0,none⟩),.pointer (some ⟨hb,0,none⟩),ractA x] w fun r w'=>r = .returned (.pointer (some ⟨hb,0,none⟩))∧Kept (Own0 w0 N) w w'∧SD w0 N pb mb db lb hb ({ y with h:={ y.h with p:=y.h.p.outside x.act } }) w':=by
 have HS:=Lib.hid s;have HG:=Lib.hid hg;have HWF:=Lib.hid hwf;obtain ⟨kd,a,b,⟨i,⟨l,g,e⟩⟩,ss,kk,t,a1,m1,d1,a2,m2,d2⟩:=x;dsimp only at hx;subst hx;unfold ractA;dsimp only
 have HO:=fun w' (x':Ext w w')=>outside_any (HS.out.plantAt.ext x') HWF.out _ HG.out
 have HOH:=Lib.hid HO;unfold ractA at HOH;dsimp only at HOH
 unfold Ch.kStall at HOH ⊢
 clear s hg hwf HO;go_enter Tryz.func9,Tryz.ntmps9;go_wp2_with (go_at_call 30;refine (HOH.out _ (by simp (maxDischargeDepth:=60))).mono ?_;rintro r w1 ⟨rfl,hp1,hk1⟩;have HK1:Hid (Kept (Own pb mb) w w1):=(Kept.of_ext (by simp (maxDischargeDepth:=60)):Kept (Own pb mb) w _).trans hk1;have HP1:=Lib.hid hp1;clear hk1 hp1);go_ret;obtain ⟨q1,q2⟩:=HS.out.plant HK1.out HP1.out;exact ⟨rfl,q2.trans (Kept.of_ext (by simp (maxDischargeDepth:=60))),q1.ext (by simp (maxDischargeDepth:=60))⟩
theorem play_ticksD {w0:World} {N:Nat→Prop} {pb mb db lb hb:Nat} {y:Ch.Live.HD} {w:World} (s:SD w0 N pb mb db lb hb y w) (hy:y.Up 22) (he:y.e+64<4294967296) (hT:Tab w0) (kd:ByteArray) (a b i l g e kk t:Int) (ss:ByteArray) (a1 a2:Option Addr) (n1' c1' n2' c2':Nat) (la:Option Addr) (ln lc:Nat) (ha:I64 a) (k1:kd≠Ch.kPark) (k2:kd≠Ch.kWant) (k3:kd≠Ch.kOpen) (k4:kd≠Ch.kWalk) (k5:kd≠Ch.kArrive) (k6:kd≠Ch.kLeave) (k7:kd≠Ch.kStall):
  Calls Tryz.prog 9 #[.slice la ln lc,.pointer (some ⟨pb,0,none⟩),.pointer (some ⟨db,0,none⟩),.pointer (some ⟨hb,0,none⟩),.agg #[.string kd,vi a,vi b,vi i,vi l,vi g,vi e,.string ss,.int .u64 kk,vi t,.slice a1 n1' c1',.slice a2 n2' c2']] w fun r w'=>r = .returned (.pointer (some ⟨hb,0,none⟩))∧Kept (Own0 w0 N) w w'∧SD w0 N pb mb db lb hb (Ch.Live.HD.ticks (min a 60).toNat y) w':=by
 have HS:=Lib.hid s;have HY:=Lib.hid hy;have HT:=Lib.hid hT;have q1:(kd.toList==[112,97,114,107])=false:=str_ne k1;have q2:(kd.toList==[119,97,110,116])=false:=str_ne k2;have q3:(kd.toList==[111,112,101,110])=false:=str_ne k3;have q4:(kd.toList==[119,97,108,107])=false:=str_ne k4;have q5:(kd.toList==[97,114,114,105,118,101])=false:=str_ne k5;have q6:(kd.toList==[108,101,97,118,101])=false:=str_ne k6;have q7:(kd.toList==[115,116,97,108,108])=false:=str_ne k7;have ha1:=ha.1;have ha2:=ha.2;clear s hy hT k1 k2 k3 k4 k5 k6 k7 ha;go_enter Tryz.func9,Tryz.ntmps9
 go_upto_region 3 with fail
 generalize hW:World.alloc _ _=w1
 have hx1:Ext w w1:=by rw [←hW];exact (by simp (maxDischargeDepth:=60))
 have ca:w1.cell? ⟨w.heap.size,1,none⟩=some (vi a):=by rw [←hW];simp [go_sem]
 have HX1:=Lib.hid hx1;have HS1:=Lib.hid (HS.out.own hx1);have hbx:w.heap.size<w1.heap.size:=cell_lt ca
 have HNB:Hid (¬ Own0 w0 (fun i=>N i∨(w.heap.size≤i∧i<w1.heap.size)) w.heap.size):=fun h=>h.2 (Or.inr ⟨Nat.le_refl _,hbx⟩)
 have HWD:Hid (∀ i,Own0 w0 (fun i=>N i∨(w.heap.size≤i∧i<w1.heap.size)) i→Own0 w0 N i):=fun i h=>⟨h.1,fun hn=>h.2 (Or.inl hn)⟩
 clear hW hx1
 go_loopw [13] (fun i2 wr=>∃ j:Nat,i2 = .int .i64 (j:Int)∧Hid (j≤(min a 60).toNat)∧Hid (Kept (Own0 w0 (fun i=>N i∨(w.heap.size≤i∧i<w1.heap.size))) w1 wr)∧Hid (SD w0 (fun i=>N i∨(w.heap.size≤i∧i<w1.heap.size)) pb mb db lb hb (Ch.Live.HD.ticks j y) wr)) (fun i2 _=>60 - (intOf i2).toNat)
 case atStart=>exact ⟨0,rfl,Nat.zero_le _,Kept.refl _ _,HS1.out⟩
 case round=>
  obtain ⟨j,rfl,HJ,HKR,HSR⟩:=hrel
  have hj60:j≤60:=by have:=HJ.out;omega
  have cr:=cell_kept HKR.out ca HNB.out;have crl:=cell_lt cr
  have fin:∀ w',Ext wr w'→j=(min a 60).toNat→Kept (Own0 w0 N) w w'∧SD w0 N pb mb db lb hb (Ch.Live.HD.ticks (min a 60).toNat y) w':=fun w' x e=>by
   refine ⟨(Kept.of_ext HX1.out).trans ((HKR.out.wide HWD.out).trans (Kept.of_ext x)),?_⟩;rw [←e];exact (HSR.out.ext x).drop (fun i hi=>Or.inl hi)
  have FIN:=Lib.hid fin;clear fin
  by_cases hlt:(j:Int)<a∧j<60
  ·obtain ⟨h1,h2⟩:=hlt
   have h2':(j:Int)<60:=by omega
   have HFI:Hid (Fit (Ch.Live.HD.ticks j y)):=fit_ticks HY.out (by omega);go_wp2_with (go_at_call 14;refine (sd_tick (HSR.out.ext (by simp (maxDischargeDepth:=60))) HFI.out HT.out).mono ?_;rintro r w2 ⟨rfl,hk1,hs1⟩;have HK1:Hid (Kept (Own0 w0 (fun i=>N i∨(w.heap.size≤i∧i<w1.heap.size))) w1 w2):=HKR.out.trans ((Kept.of_ext (by simp (maxDischargeDepth:=60)):Kept (Own0 w0 (fun i=>N i∨(w.heap.size≤i∧i<w1.heap.size))) wr _).trans hk1);have HS2:=Lib.hid hs1;clear hk1 hs1);go_roundw
   case rel=>exact ⟨j+1,by go_num,by unfold Hid;omega,HK1.out.trans (Kept.of_ext (by simp (maxDischargeDepth:=60))),by unfold Hid;rw [←Ch.Live.HD.ticks_succ j];exact HS2.out.ext (by simp (maxDischargeDepth:=60))⟩
   case measure=>simp [intOf];omega
  ·have hje:j=(min a 60).toNat:=by have:=HJ.out;omega
   by_cases h1:(j:Int)<a
   ·have h2:¬ (j:Int)<60:=by omega
    go_wp2_with fail;go_ret;exact ⟨rfl,FIN.out _ (by simp (maxDischargeDepth:=60)) hje⟩
   ·go_wp2_with fail
    go_ret;exact ⟨rfl,FIN.out _ (by simp (maxDischargeDepth:=60)) hje⟩
theorem playD_now {w0:World} {N:Nat→Prop} {pb mb db lb hb:Nat} {y:Ch.Live.HD} {w:World} (s:SD w0 N pb mb db lb hb y w) (hy:y.Up 22) (he:y.e+64<4294967296) (hT:Tab w0) (x:RAct) (hg:x.Good) (k3:x.kind≠Ch.kOpen) (la:Option Addr) (ln lc:Nat):
  Calls Tryz.prog 9 #[.slice la ln lc,.pointer (some ⟨pb,0,none⟩),.pointer (some ⟨db,0,none⟩),.pointer (some ⟨hb,0,none⟩),ractA x] w fun r w'=>r = .returned (.pointer (some ⟨hb,0,none⟩))∧Kept (Own0 w0 N) w w'∧SD w0 N pb mb db lb hb (y.play x.act) w':=by
 have f:Fit y:=fit_up hy (by omega);have hwf:=hy.inv.inv.core.safe.wf;unfold Ch.Live.HD.play
 by_cases k1:x.kind=Ch.kPark
 ·rw [if_pos (show x.act.kind=_ from k1)]
  unfold ractA;rw [k1];exact play_parkD s f hT _ _ _ _ _ _ _ _ _ _ _ _ _ _ _ _ _ _
 rw [if_neg (show ¬ x.act.kind=_ from k1)]
 by_cases k2:x.kind=Ch.kWant
 ·rw [if_pos (show x.act.kind=_ from k2)]
  unfold ractA;rw [k2];exact play_wantD s f hT _ _ _ _ _ _ _ _ _ _ _ _ _ _ _ _ _ _
 rw [if_neg (show ¬ x.act.kind=_ from k2)]
 by_cases k4:x.kind=Ch.kWalk
 ·rw [if_pos (show x.act.kind=_∨_ from Or.inl k4)]
  exact play_walkD s hwf x hg k4 la ln lc
 by_cases k5:x.kind=Ch.kArrive
 ·rw [if_pos (show x.act.kind=_∨x.act.kind=_∨_ from Or.inr (Or.inl k5))]
  exact play_arriveD s hwf x hg k5 la ln lc
 by_cases k6:x.kind=Ch.kLeave
 ·rw [if_pos (show x.act.kind=_∨x.act.kind=_∨x.act.kind=_∨_ from Or.inr (Or.inr (Or.inl k6)))]
  exact play_leaveD s hwf x hg k6 la ln lc
 by_cases k7:x.kind=Ch.kStall
 ·rw [if_pos (show x.act.kind=_∨x.act.kind=_∨x.act.kind=_∨x.act.kind=_ from Or.inr (Or.inr (Or.inr k7)))]
  exact play_stallD s hwf x hg k7 la ln lc
 rw [if_neg (show ¬ (x.act.kind=_∨x.act.kind=_∨x.act.kind=_∨x.act.kind=_) by rintro (h|h|h|h);exact k4 h;exact k5 h;exact k6 h;exact k7 h)];exact play_ticksD s hy he hT x.kind _ _ _ _ _ _ _ _ _ _ _ _ _ _ _ _ _ _ hg.a k1 k2 k3 k4 k5 k6 k7
end Go.Proofs.YtplomeacjbkgnadGreatDoor
