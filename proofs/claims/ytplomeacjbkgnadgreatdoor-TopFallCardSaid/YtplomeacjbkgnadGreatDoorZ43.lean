import Derived.Test.YtplomeacjbkgnadGreatDoorZ41
import Derived.Test.YtplomeacjbkgnadGreatDoorZ42
set_option linter.all false
set_option maxRecDepth 100000
set_option maxHeartbeats 16000000
namespace Go.Proofs.YtplomeacjbkgnadGreatDoor
open Go.RowKit
def acted (h:Ch.House) (l:List RAct) (j:Nat):Ch.House:=(l.take j).foldl (fun h x=>h.play x.act) h
theorem acted_succ {h:Ch.House} {l:List RAct} {j:Nat} {x:RAct} (hx:l[j]? = some x):acted h l (j+1)=(acted h l j).play x.act:=by
 unfold acted;rw [List.take_add_one,hx,List.foldl_append];rfl
theorem tick_sizes (h:Ch.House):h.tick.sizes=h.sizes:=by
 unfold Ch.House.tick
 split
 ·split <;> rfl
 ·rfl
theorem ticks_sizes:∀ (n:Nat) (h:Ch.House),(Ch.House.ticks n h).sizes=h.sizes
 | 0,_=>rfl
 | n+1,h=>(ticks_sizes n h.tick).trans (tick_sizes h)
theorem play_sizes (h:Ch.House) (a:Ch.Act):(h.play a).sizes=h.sizes:=by
 unfold Ch.House.play
 split
 ·unfold Ch.House.park
  split
  ·rfl
  ·split <;> rfl
 ·split
  ·unfold Ch.House.want
   split <;> rfl
  ·split
   ·rfl
   ·split
    ·rfl
    ·exact ticks_sizes _ _
theorem acted_sizes (h:Ch.House) (l:List RAct):∀ j,(acted h l j).sizes=h.sizes:=by
 unfold acted;intro j;generalize l.take j=m
 induction m generalizing h with
 | nil=>rfl
 | cons x r ih=>rw [List.foldl_cons,ih,play_sizes]
theorem outs_inv {h:Ch.House} (hi:Ch.Live.House.Inv2 h) (x:RAct) (hk:x.kind=Ch.kWalk∨x.kind=Ch.kArrive∨x.kind=Ch.kLeave∨x.kind=Ch.kStall):Ch.Live.House.Inv2 { h with p:=h.p.outside x.act }:=by
 have h1:=hi.play x.act;unfold Ch.House.play at h1;rw [if_neg,if_neg,if_neg,if_pos (show x.act.kind=_∨x.act.kind=_∨x.act.kind=_∨x.act.kind=_ from hk)] at h1
 ·exact h1
 all_goals
  show ¬ x.kind=_
  rcases hk with e|e|e|e <;> (rw [e];decide)
theorem play_park {w0:World} {N:Nat→Prop} {pb mb db lb hb:Nat} {h:Ch.House} {k:Nat} {w:World} (s:St w0 N pb mb db lb hb h k w) (hk:k+2<4294967296) (hT:Tab w0) (a b i l g e kk t:Int) (ss:ByteArray) (a1 a2:Option Addr) (n1' c1' n2' c2':Nat) (la:Option Addr) (ln lc:Nat):
  Calls Tryz.prog 9 #[.slice la ln lc,.pointer (some ⟨pb,0,none⟩),.pointer (some ⟨db,0,none⟩),.pointer (some ⟨hb,0,none⟩),.agg #[.string Ch.kPark,vi a,vi b,vi i,vi l,vi g,vi e,.string ss,.int .u64 kk,vi t,.slice a1 n1' c1',.slice a2 n2' c2']] w fun r w'=>r = .returned (.pointer (some ⟨hb,0,none⟩))∧Kept (Own0 w0 N) w w'∧St w0 N pb mb db lb hb ((h.park ⟨i,⟨l,g,e⟩⟩).1) (k+1) w':=by
 have HS:=Lib.hid s;have HT:=Lib.hid hT;unfold Ch.kPark;clear s hT;go_enter Tryz.func9,Tryz.ntmps9;go_wp2_with (go_at_call 27;refine (st_park (HS.out.ext (by simp (maxDischargeDepth:=60))) hk HT.out _ _ _ _).mono ?_;rintro r w1 ⟨rfl,hk1,hs1⟩;have HK1:Hid (Kept (Own0 w0 N) w w1):=(Kept.of_ext (by simp (maxDischargeDepth:=60)):Kept (Own0 w0 N) w _).trans hk1;have HS1:=Lib.hid hs1;clear hk1 hs1);go_ret;exact ⟨rfl,HK1.out.trans (Kept.of_ext (by simp (maxDischargeDepth:=60))),HS1.out.ext (by simp (maxDischargeDepth:=60))⟩
theorem play_want {w0:World} {N:Nat→Prop} {pb mb db lb hb:Nat} {h:Ch.House} {k:Nat} {w:World} (s:St w0 N pb mb db lb hb h k w) (hk:k+2<4294967296) (hT:Tab w0) (a b i l g e kk t:Int) (ss:ByteArray) (a1 a2:Option Addr) (n1' c1' n2' c2':Nat) (la:Option Addr) (ln lc:Nat):
  Calls Tryz.prog 9 #[.slice la ln lc,.pointer (some ⟨pb,0,none⟩),.pointer (some ⟨db,0,none⟩),.pointer (some ⟨hb,0,none⟩),.agg #[.string Ch.kWant,vi a,vi b,vi i,vi l,vi g,vi e,.string ss,.int .u64 kk,vi t,.slice a1 n1' c1',.slice a2 n2' c2']] w fun r w'=>r = .returned (.pointer (some ⟨hb,0,none⟩))∧Kept (Own0 w0 N) w w'∧St w0 N pb mb db lb hb ((h.want a).1) (k+1) w':=by
 have HS:=Lib.hid s;have HT:=Lib.hid hT;unfold Ch.kWant;clear s hT;go_enter Tryz.func9,Tryz.ntmps9;go_wp2_with (go_at_call 13;refine (st_want (HS.out.ext (by simp (maxDischargeDepth:=60))) hk HT.out _).mono ?_;rintro r w1 ⟨rfl,hk1,hs1⟩;have HK1:Hid (Kept (Own0 w0 N) w w1):=(Kept.of_ext (by simp (maxDischargeDepth:=60)):Kept (Own0 w0 N) w _).trans hk1;have HS1:=Lib.hid hs1;clear hk1 hs1);go_ret;exact ⟨rfl,HK1.out.trans (Kept.of_ext (by simp (maxDischargeDepth:=60))),HS1.out.ext (by simp (maxDischargeDepth:=60))⟩
theorem play_open {w0:World} {N:Nat→Prop} {pb mb db lb hb:Nat} {h:Ch.House} {k:Nat} {w:World} (s:St w0 N pb mb db lb hb h k w) (a b i l g e kk t:Int) (ss:ByteArray) (a1 a2:Option Addr) (n1' c1' n2' c2':Nat) (la:Option Addr) (ln lc:Nat) (hl:Sl w0 3 sizeCells h.sizes la ln lc) (L:Libs w0):
  Calls Tryz.prog 9 #[.slice la ln lc,.pointer (some ⟨pb,0,none⟩),.pointer (some ⟨db,0,none⟩),.pointer (some ⟨hb,0,none⟩),.agg #[.string Ch.kOpen,vi a,vi b,vi i,vi l,vi g,vi e,.string ss,.int .u64 kk,vi t,.slice a1 n1' c1',.slice a2 n2' c2']] w fun r w'=>∃ lb' hb',r = .returned (.pointer (some ⟨hb',0,none⟩))∧Kept (Own0 w0 N) w w'∧St w0 N pb mb db lb' hb' { h with goals:=[] } k w':=by
 have HS:=Lib.hid s;have HL:=Lib.hid L;have HF:=Lib.hid hl;unfold Ch.kOpen;clear s L hl;go_enter Tryz.func9,Tryz.ntmps9;go_wp2_with (go_at_call 18;refine (st_new (HS.out.ext (by simp (maxDischargeDepth:=60))) HF.out HL.out).mono ?_;rintro r w1 ⟨hb',lb',rfl,hx1,hs1⟩;have HX1:Hid (Ext w w1):=Ext.trans (by simp (maxDischargeDepth:=60)) hx1;have HS1:=Lib.hid hs1;clear hx1 hs1);go_ret;exact ⟨lb',hb',rfl,Kept.of_ext (HX1.out.trans (by simp (maxDischargeDepth:=60))),HS1.out.ext (by simp (maxDischargeDepth:=60))⟩
theorem play_walk {w0:World} {N:Nat→Prop} {pb mb db lb hb:Nat} {h:Ch.House} {k:Nat} {w:World} (s:St w0 N pb mb db lb hb h k w) (x:RAct) (hg:x.Good) (hx:x.kind=Ch.kWalk) (la:Option Addr) (ln lc:Nat):
  Calls Tryz.prog 9 #[.slice la ln lc,.pointer (some ⟨pb,0,none⟩),.pointer (some ⟨db,0,none⟩),.pointer (some ⟨hb,0,none⟩),ractA x] w fun r w'=>r = .returned (.pointer (some ⟨hb,0,none⟩))∧Kept (Own0 w0 N) w w'∧St w0 N pb mb db lb hb ({ h with p:=h.p.outside x.act }) (k) w':=by
 have HS:=Lib.hid s;have HG:=Lib.hid hg;have HI:Hid (Ch.Live.House.Inv2 { h with p:=h.p.outside x.act }):=outs_inv s.inv x (by rw [hx];simp);obtain ⟨kd,a,b,⟨i,⟨l,g,e⟩⟩,ss,kk,t,a1,m1,d1,a2,m2,d2⟩:=x;dsimp only at hx;subst hx;unfold ractA;dsimp only
 have HO:=fun w' (x':Ext w w')=>outside_any (HS.out.plantAt.ext x') HS.out.wf _ HG.out
 have HOH:=Lib.hid HO;unfold ractA at HOH;dsimp only at HOH
 unfold Ch.kWalk at HOH ⊢
 clear s hg HO;go_enter Tryz.func9,Tryz.ntmps9;go_wp2_with (go_at_call 30;refine (HOH.out _ (by simp (maxDischargeDepth:=60))).mono ?_;rintro r w1 ⟨rfl,hp1,hk1⟩;have HK1:Hid (Kept (Own pb mb) w w1):=(Kept.of_ext (by simp (maxDischargeDepth:=60)):Kept (Own pb mb) w _).trans hk1;have HP1:=Lib.hid hp1;clear hk1 hp1);go_ret;obtain ⟨q1,q2⟩:=HS.out.plant HK1.out HP1.out HI.out;exact ⟨rfl,q2.trans (Kept.of_ext (by simp (maxDischargeDepth:=60))),q1.ext (by simp (maxDischargeDepth:=60))⟩
theorem play_arrive {w0:World} {N:Nat→Prop} {pb mb db lb hb:Nat} {h:Ch.House} {k:Nat} {w:World} (s:St w0 N pb mb db lb hb h k w) (x:RAct) (hg:x.Good) (hx:x.kind=Ch.kArrive) (la:Option Addr) (ln lc:Nat):
  Calls Tryz.prog 9 #[.slice la ln lc,.pointer (some ⟨pb,0,none⟩),.pointer (some ⟨db,0,none⟩),.pointer (some ⟨hb,0,none⟩),ractA x] w fun r w'=>r = .returned (.pointer (some ⟨hb,0,none⟩))∧Kept (Own0 w0 N) w w'∧St w0 N pb mb db lb hb ({ h with p:=h.p.outside x.act }) (k) w':=by
 have HS:=Lib.hid s;have HG:=Lib.hid hg;have HI:Hid (Ch.Live.House.Inv2 { h with p:=h.p.outside x.act }):=outs_inv s.inv x (by rw [hx];simp);obtain ⟨kd,a,b,⟨i,⟨l,g,e⟩⟩,ss,kk,t,a1,m1,d1,a2,m2,d2⟩:=x;dsimp only at hx;subst hx;unfold ractA;dsimp only
 have HO:=fun w' (x':Ext w w')=>outside_any (HS.out.plantAt.ext x') HS.out.wf _ HG.out
 have HOH:=Lib.hid HO;unfold ractA at HOH;dsimp only at HOH
 unfold Ch.kArrive at HOH ⊢
 clear s hg HO;go_enter Tryz.func9,Tryz.ntmps9;go_wp2_with (go_at_call 30;refine (HOH.out _ (by simp (maxDischargeDepth:=60))).mono ?_;rintro r w1 ⟨rfl,hp1,hk1⟩;have HK1:Hid (Kept (Own pb mb) w w1):=(Kept.of_ext (by simp (maxDischargeDepth:=60)):Kept (Own pb mb) w _).trans hk1;have HP1:=Lib.hid hp1;clear hk1 hp1);go_ret;obtain ⟨q1,q2⟩:=HS.out.plant HK1.out HP1.out HI.out;exact ⟨rfl,q2.trans (Kept.of_ext (by simp (maxDischargeDepth:=60))),q1.ext (by simp (maxDischargeDepth:=60))⟩
theorem play_leave {w0:World} {N:Nat→Prop} {pb mb db lb hb:Nat} {h:Ch.House} {k:Nat} {w:World} (s:St w0 N pb mb db lb hb h k w) (x:RAct) (hg:x.Good) (hx:x.kind=Ch.kLeave) (la:Option Addr) (ln lc:Nat):
  Calls Tryz.prog 9 #[.slice la ln lc,.pointer (some ⟨pb,0,none⟩),.pointer (some ⟨db,0,none⟩),.pointer (some ⟨hb,0,none⟩),ractA x] w fun r w'=>r = .returned (.pointer (some ⟨hb,0,none⟩))∧Kept (Own0 w0 N) w w'∧St w0 N pb mb db lb hb ({ h with p:=h.p.outside x.act }) (k) w':=by
 have HS:=Lib.hid s;have HG:=Lib.hid hg;have HI:Hid (Ch.Live.House.Inv2 { h with p:=h.p.outside x.act }):=outs_inv s.inv x (by rw [hx];simp);obtain ⟨kd,a,b,⟨i,⟨l,g,e⟩⟩,ss,kk,t,a1,m1,d1,a2,m2,d2⟩:=x;dsimp only at hx;subst hx;unfold ractA;dsimp only
 have HO:=fun w' (x':Ext w w')=>outside_any (HS.out.plantAt.ext x') HS.out.wf _ HG.out
 have HOH:=Lib.hid HO;unfold ractA at HOH;dsimp only at HOH
 unfold Ch.kLeave at HOH ⊢
 clear s hg HO;go_enter Tryz.func9,Tryz.ntmps9;go_wp2_with (go_at_call 30;refine (HOH.out _ (by simp (maxDischargeDepth:=60))).mono ?_;rintro r w1 ⟨rfl,hp1,hk1⟩;have HK1:Hid (Kept (Own pb mb) w w1):=(Kept.of_ext (by simp (maxDischargeDepth:=60)):Kept (Own pb mb) w _).trans hk1;have HP1:=Lib.hid hp1;clear hk1 hp1);go_ret;obtain ⟨q1,q2⟩:=HS.out.plant HK1.out HP1.out HI.out;exact ⟨rfl,q2.trans (Kept.of_ext (by simp (maxDischargeDepth:=60))),q1.ext (by simp (maxDischargeDepth:=60))⟩
theorem play_stall {w0:World} {N:Nat→Prop} {pb mb db lb hb:Nat} {h:Ch.House} {k:Nat} {w:World} (s:St w0 N pb mb db lb hb h k w) (x:RAct) (hg:x.Good) (hx:x.kind=Ch.kStall) (la:Option Addr) (ln lc:Nat):
  Calls Tryz.prog 9 #[.slice la ln lc,.pointer (some ⟨pb,0,none⟩),.pointer (some ⟨db,0,none⟩),.pointer (some ⟨hb,0,none⟩),ractA x] w fun r w'=>r = .returned (.pointer (some ⟨hb,0,none⟩))∧Kept (Own0 w0 N) w w'∧St w0 N pb mb db lb hb ({ h with p:=h.p.outside x.act }) (k) w':=by
 have HS:=Lib.hid s;have HG:=Lib.hid hg;have HI:Hid (Ch.Live.House.Inv2 { h with p:=h.p.outside x.act }):=outs_inv s.inv x (by rw [hx];simp);obtain ⟨kd,a,b,⟨i,⟨l,g,e⟩⟩,ss,kk,t,a1,m1,d1,a2,m2,d2⟩:=x;dsimp only at hx;subst hx;unfold ractA;dsimp only
 have HO:=fun w' (x':Ext w w')=>outside_any (HS.out.plantAt.ext x') HS.out.wf _ HG.out
 have HOH:=Lib.hid HO;unfold ractA at HOH;dsimp only at HOH
 unfold Ch.kStall at HOH ⊢
 clear s hg HO;go_enter Tryz.func9,Tryz.ntmps9;go_wp2_with (go_at_call 30;refine (HOH.out _ (by simp (maxDischargeDepth:=60))).mono ?_;rintro r w1 ⟨rfl,hp1,hk1⟩;have HK1:Hid (Kept (Own pb mb) w w1):=(Kept.of_ext (by simp (maxDischargeDepth:=60)):Kept (Own pb mb) w _).trans hk1;have HP1:=Lib.hid hp1;clear hk1 hp1);go_ret;obtain ⟨q1,q2⟩:=HS.out.plant HK1.out HP1.out HI.out;exact ⟨rfl,q2.trans (Kept.of_ext (by simp (maxDischargeDepth:=60))),q1.ext (by simp (maxDischargeDepth:=60))⟩
theorem play_ticks {w0:World} {N:Nat→Prop} {pb mb db lb hb:Nat} {h:Ch.House} {k:Nat} {w:World} (s:St w0 N pb mb db lb hb h k w) (hk:k+62<4294967296) (hT:Tab w0) (kd:ByteArray) (a b i l g e kk t:Int) (ss:ByteArray) (a1 a2:Option Addr) (n1' c1' n2' c2':Nat) (la:Option Addr) (ln lc:Nat) (ha:I64 a) (k1:kd≠Ch.kPark) (k2:kd≠Ch.kWant) (k3:kd≠Ch.kOpen) (k4:kd≠Ch.kWalk) (k5:kd≠Ch.kArrive) (k6:kd≠Ch.kLeave) (k7:kd≠Ch.kStall):
  Calls Tryz.prog 9 #[.slice la ln lc,.pointer (some ⟨pb,0,none⟩),.pointer (some ⟨db,0,none⟩),.pointer (some ⟨hb,0,none⟩),.agg #[.string kd,vi a,vi b,vi i,vi l,vi g,vi e,.string ss,.int .u64 kk,vi t,.slice a1 n1' c1',.slice a2 n2' c2']] w fun r w'=>r = .returned (.pointer (some ⟨hb,0,none⟩))∧Kept (Own0 w0 N) w w'∧St w0 N pb mb db lb hb (Ch.House.ticks (min a 60).toNat h) (k+60) w':=by
 have HS:=Lib.hid s;have HT:=Lib.hid hT;have q1:(kd.toList==[112,97,114,107])=false:=str_ne k1;have q2:(kd.toList==[119,97,110,116])=false:=str_ne k2;have q3:(kd.toList==[111,112,101,110])=false:=str_ne k3;have q4:(kd.toList==[119,97,108,107])=false:=str_ne k4;have q5:(kd.toList==[97,114,114,105,118,101])=false:=str_ne k5;have q6:(kd.toList==[108,101,97,118,101])=false:=str_ne k6;have q7:(kd.toList==[115,116,97,108,108])=false:=str_ne k7;have ha1:=ha.1;have ha2:=ha.2;clear s hT k1 k2 k3 k4 k5 k6 k7 ha;go_enter Tryz.func9,Tryz.ntmps9
 go_upto_region 3 with fail
 generalize hW:World.alloc _ _=w1
 have hx1:Ext w w1:=by rw [←hW];exact (by simp (maxDischargeDepth:=60))
 have ca:w1.cell? ⟨w.heap.size,1,none⟩=some (vi a):=by rw [←hW];simp [go_sem]
 have HX1:=Lib.hid hx1;have HS1:=Lib.hid (HS.out.own hx1);have hbx:w.heap.size<w1.heap.size:=cell_lt ca
 have HNB:Hid (¬ Own0 w0 (fun i=>N i∨(w.heap.size≤i∧i<w1.heap.size)) w.heap.size):=fun h=>h.2 (Or.inr ⟨Nat.le_refl _,hbx⟩)
 have HWD:Hid (∀ i,Own0 w0 (fun i=>N i∨(w.heap.size≤i∧i<w1.heap.size)) i→Own0 w0 N i):=fun i h=>⟨h.1,fun hn=>h.2 (Or.inl hn)⟩
 clear hW hx1
 go_loopw [13] (fun i2 wr=>∃ j:Nat,i2 = .int .i64 (j:Int)∧Hid (j≤(min a 60).toNat)∧Hid (Kept (Own0 w0 (fun i=>N i∨(w.heap.size≤i∧i<w1.heap.size))) w1 wr)∧Hid (St w0 (fun i=>N i∨(w.heap.size≤i∧i<w1.heap.size)) pb mb db lb hb (Ch.House.ticks j h) (k+j) wr)) (fun i2 _=>60 - (intOf i2).toNat)
 case atStart=>exact ⟨0,rfl,Nat.zero_le _,Kept.refl _ _,HS1.out⟩
 case round=>
  obtain ⟨j,rfl,HJ,HKR,HSR⟩:=hrel
  have hj60:j≤60:=by have:=HJ.out;omega
  have cr:=cell_kept HKR.out ca HNB.out;have crl:=cell_lt cr
  have fin:∀ w',Ext wr w'→j=(min a 60).toNat→Kept (Own0 w0 N) w w'∧St w0 N pb mb db lb hb (Ch.House.ticks (min a 60).toNat h) (k+60) w':=fun w' x e=>by
   refine ⟨(Kept.of_ext HX1.out).trans ((HKR.out.wide HWD.out).trans (Kept.of_ext x)),?_⟩;rw [←e];exact ((HSR.out.ext x).drop (fun i hi=>Or.inl hi)).more (by omega)
  have FIN:=Lib.hid fin;clear fin
  by_cases hlt:(j:Int)<a∧j<60
  ·obtain ⟨h1,h2⟩:=hlt
   have h2':(j:Int)<60:=by omega
   have hk2:k+j+2<4294967296:=by omega
   go_wp2_with (go_at_call 14;refine (st_tick (HSR.out.ext (by simp (maxDischargeDepth:=60))) hk2 HT.out).mono ?_;rintro r w2 ⟨rfl,hk1,hs1⟩;have HK1:Hid (Kept (Own0 w0 (fun i=>N i∨(w.heap.size≤i∧i<w1.heap.size))) w1 w2):=HKR.out.trans ((Kept.of_ext (by simp (maxDischargeDepth:=60)):Kept (Own0 w0 (fun i=>N i∨(w.heap.size≤i∧i<w1.heap.size))) wr _).trans hk1);have HS2:=Lib.hid hs1;clear hk1 hs1);go_roundw
   case rel=>exact ⟨j+1,by go_num,by unfold Hid;omega,HK1.out.trans (Kept.of_ext (by simp (maxDischargeDepth:=60))),by unfold Hid;rw [Ch.Live.ticks_add j 1];exact HS2.out.ext (by simp (maxDischargeDepth:=60))⟩
   case measure=>simp [intOf];omega
  ·have hje:j=(min a 60).toNat:=by have:=HJ.out;omega
   by_cases h1:(j:Int)<a
   ·have h2:¬ (j:Int)<60:=by omega
    go_wp2_with fail;go_ret;exact ⟨rfl,FIN.out _ (by simp (maxDischargeDepth:=60)) hje⟩
   ·go_wp2_with fail
    go_ret;exact ⟨rfl,FIN.out _ (by simp (maxDischargeDepth:=60)) hje⟩
theorem play_now {w0:World} {N:Nat→Prop} {pb mb db lb hb:Nat} {h:Ch.House} {k:Nat} {w:World} (s:St w0 N pb mb db lb hb h k w) (hk:k+62<4294967296) (L:Libs w0) (x:RAct) (hg:x.Good) {la:Option Addr} {ln lc:Nat} (hl:Sl w0 3 sizeCells h.sizes la ln lc):
  Calls Tryz.prog 9 #[.slice la ln lc,.pointer (some ⟨pb,0,none⟩),.pointer (some ⟨db,0,none⟩),.pointer (some ⟨hb,0,none⟩),ractA x] w fun r w'=>∃ lb' hb',r = .returned (.pointer (some ⟨hb',0,none⟩))∧Kept (Own0 w0 N) w w'∧St w0 N pb mb db lb' hb' (h.play x.act) (k+60) w':=by
 unfold Ch.House.play
 by_cases k1:x.kind=Ch.kPark
 ·rw [if_pos (show x.act.kind=_ from k1)]
  unfold ractA;rw [k1];refine (play_park s (by omega) L.tab _ _ _ _ _ _ _ _ _ _ _ _ _ _ _ _ _ _).mono ?_;rintro r w' ⟨rfl,q1,q2⟩;exact ⟨lb,hb,rfl,q1,q2.more (by omega)⟩
 rw [if_neg (show ¬ x.act.kind=_ from k1)]
 by_cases k2:x.kind=Ch.kWant
 ·rw [if_pos (show x.act.kind=_ from k2)]
  unfold ractA;rw [k2];refine (play_want s (by omega) L.tab _ _ _ _ _ _ _ _ _ _ _ _ _ _ _ _ _ _).mono ?_;rintro r w' ⟨rfl,q1,q2⟩;exact ⟨lb,hb,rfl,q1,q2.more (by omega)⟩
 rw [if_neg (show ¬ x.act.kind=_ from k2)]
 by_cases k3:x.kind=Ch.kOpen
 ·rw [if_pos (show x.act.kind=_ from k3)]
  unfold ractA;rw [k3];refine (play_open s _ _ _ _ _ _ _ _ _ _ _ _ _ _ _ _ _ _ hl L).mono ?_;rintro r w' ⟨lb',hb',rfl,q1,q2⟩;exact ⟨lb',hb',rfl,q1,q2.more (by omega)⟩
 rw [if_neg (show ¬ x.act.kind=_ from k3)]
 by_cases k4:x.kind=Ch.kWalk
 ·rw [if_pos (show x.act.kind=_∨_ from Or.inl k4)]
  refine (play_walk s x hg k4 la ln lc).mono ?_;rintro r w' ⟨rfl,q1,q2⟩;exact ⟨lb,hb,rfl,q1,q2.more (by omega)⟩
 by_cases k5:x.kind=Ch.kArrive
 ·rw [if_pos (show x.act.kind=_∨x.act.kind=_∨_ from Or.inr (Or.inl k5))]
  refine (play_arrive s x hg k5 la ln lc).mono ?_;rintro r w' ⟨rfl,q1,q2⟩;exact ⟨lb,hb,rfl,q1,q2.more (by omega)⟩
 by_cases k6:x.kind=Ch.kLeave
 ·rw [if_pos (show x.act.kind=_∨x.act.kind=_∨x.act.kind=_∨_ from Or.inr (Or.inr (Or.inl k6)))]
  refine (play_leave s x hg k6 la ln lc).mono ?_;rintro r w' ⟨rfl,q1,q2⟩;exact ⟨lb,hb,rfl,q1,q2.more (by omega)⟩
 by_cases k7:x.kind=Ch.kStall
 ·rw [if_pos (show x.act.kind=_∨x.act.kind=_∨x.act.kind=_∨x.act.kind=_ from Or.inr (Or.inr (Or.inr k7)))]
  refine (play_stall s x hg k7 la ln lc).mono ?_;rintro r w' ⟨rfl,q1,q2⟩;exact ⟨lb,hb,rfl,q1,q2.more (by omega)⟩
 rw [if_neg (show ¬ (x.act.kind=_∨x.act.kind=_∨x.act.kind=_∨x.act.kind=_) by rintro (h|h|h|h);exact k4 h;exact k5 h;exact k6 h;exact k7 h)];refine (play_ticks s hk L.tab x.kind _ _ _ _ _ _ _ _ _ _ _ _ _ _ _ _ _ _ hg.a k1 k2 k3 k4 k5 k6 k7).mono ?_;rintro r w' ⟨rfl,q1,q2⟩;exact ⟨lb,hb,rfl,q1,q2⟩
theorem housed_now {la:Option Addr} {ln lc:Nat} {sizes:List Ch.Size} {w:World} (hl:Sl w 3 sizeCells sizes la ln lc) (hf:Ch.levelsFault sizes=0) (L:Libs w):
  Calls Tryz.prog 24 #[.slice la ln lc] w fun e w'=>∃ pb mb db lb hb,e = .returned (.tuple #[.pointer (some ⟨pb,0,none⟩),.pointer (some ⟨db,0,none⟩),.pointer (some ⟨hb,0,none⟩),.bool true])∧St w (fun _=>False) pb mb db lb hb (Ch.House.new sizes) 2 w':=by
 have hlen:=hl.len;subst hlen;have hlv:=Ch.levels_len hf
 have l1:(1:Int)≤(sizes.length:Int):=by omega
 have l4:(sizes.length:Int)≤4:=by omega
 have HF:=Lib.hid hl;have HLF:=Lib.hid hf;have HL:=Lib.hid L;clear hl hf L hlv;go_enter Tryz.func24,Tryz.ntmps24
 go_wp2_with (first
  | (go_at_call 47;refine (new_any (sizes.length:Int) _ l1 l4).mono ?_;rintro e w1 ⟨pb,mb,rfl,hp,hx,b1,b2⟩;have HX1:Hid (Ext w w1):=hx;have HP1:=Lib.hid hp;clear hp hx)
  | (go_at_call 48;refine (new_dz 22 _ (by decide) (by decide)).mono ?_;rintro e w2 ⟨db,rfl,hd,hx⟩;have HX2:Hid (Ext w1 w2):=hx;have HD2:=Lib.hid hd;clear hd hx)
  | (go_at_call 49;refine (format_now (fun k hk=>Nat.le_trans HX2.out.below.size hk) HD2.out (Ch.calm_new 22) rfl (Nat.le_refl _) (sizes.length:Int) (HL.out.tab.ext (HX1.out.trans HX2.out))).mono ?_;rintro e w3 ⟨rfl,hk,d,hp,hd3⟩;have HX3:Hid (Ext w1 w3):=Ext.of_below (below_kept HX2.out.below (Nat.le_refl _) hk (fun _ h=>h));have HPP:=Lib.hid hp;have HD3:=Lib.hid hd3.narrow;clear hk hp hd3)
  | (go_at_call 18;refine (new_now (Sl.below HF.out (HX1.out.trans HX3.out).below) HLF.out (HP1.out.ext HX3.out) HD3.out (fun k hk=>hk.2) (fun hh=>by have:=HP1.out.lt.1;omega) (fun hh=>by have:=HP1.out.lt.2;omega) HPP.out (Nat.le_refl _) (HL.out.ext (HX1.out.trans HX3.out))).mono ?_;rintro e w4 ⟨hb,lb,rfl,hx,hh⟩;have HX4:Hid (Ext w3 w4):=hx;have HH:=Lib.hid hh;clear hx hh))
 refine bodyPost_ret (v:=.tuple #[.pointer (some ⟨pb,0,none⟩),.pointer (some ⟨db,0,none⟩),.pointer (some ⟨hb,0,none⟩),.bool true]) (by simp [results,Tryz.results24,go_sem]) rfl ?_;obtain ⟨Y,a1,a2,a3,b1',b2',b3',hs,hz⟩:=HH.out;have z1:=HX1.out.below.size;have z3:=HX3.out.below.size;refine ⟨pb,mb,db,lb,hb,rfl,⟨⟨sizes,Ch.Plant.new (sizes.length:Int),⟨0,[],[]⟩,[]⟩,2,d⟩,rfl,⟨Ch.Live.House.Inv2.new HLF.out,HPP.out.calm,HPP.out.holds⟩,HPP.out.fuse,Nat.le_refl _,HX1.out.trans (HX3.out.trans HX4.out),⟨Y,a1,a2,a3,b1',b2',b3',hs.zed (fun k _ hk=>⟨by omega,fun h=>h⟩),fun k hk=>⟨?_,fun h=>h⟩⟩,fun i h=>h.elim⟩
 rcases hz k hk with hk|rfl|rfl|hk
 ·omega
 ·exact b1
 ·exact b2
 ·omega
end Go.Proofs.YtplomeacjbkgnadGreatDoor
namespace Ch.Live
def w0:House:=House.new [⟨99,99,99⟩]
def w1:House:={ w0 with p:=(w0.p.arrive 7).1 }
def w2:House:=(w1.park ⟨7,⟨1,1,1⟩⟩).1
theorem w0_ok:levelsFault [⟨99,99,99⟩]=0:=by decide
theorem w2_ok:(w1.park ⟨7,⟨1,1,1⟩⟩).2=(1,0):=by decide
theorem w3_ok:(House.ticks 40 w2).p.slots ⟨1,0,1⟩=7:=by decide +kernel
theorem inv2_walk {h:House} (hi:House.Inv2 h) (n:Int):House.Inv2 { h with p:=(h.p.walk n).1 }:=by
 have h1:=hi.play ⟨kWalk,n,0,⟨0,⟨0,0,0⟩⟩,⟨#[]⟩,0,⟨0,[],[]⟩⟩
 have e:h.play ⟨kWalk,n,0,⟨0,⟨0,0,0⟩⟩,⟨#[]⟩,0,⟨0,[],[]⟩⟩={ h with p:=(h.p.walk n).1 }:=by rfl
 rw [e] at h1;exact h1
theorem inv2_arrive {h:House} (hi:House.Inv2 h) (n:Int):House.Inv2 { h with p:=(h.p.arrive n).1 }:=by
 have h1:=hi.play ⟨kArrive,n,0,⟨0,⟨0,0,0⟩⟩,⟨#[]⟩,0,⟨0,[],[]⟩⟩
 have e:h.play ⟨kArrive,n,0,⟨0,⟨0,0,0⟩⟩,⟨#[]⟩,0,⟨0,[],[]⟩⟩={ h with p:=(h.p.arrive n).1 }:=by rfl
 rw [e] at h1;exact h1
theorem inv2_leave {h:House} (hi:House.Inv2 h):House.Inv2 { h with p:=h.p.leave.1 }:=by
 have h1:=hi.play ⟨kLeave,0,0,⟨0,⟨0,0,0⟩⟩,⟨#[]⟩,0,⟨0,[],[]⟩⟩
 have e:h.play ⟨kLeave,0,0,⟨0,⟨0,0,0⟩⟩,⟨#[]⟩,0,⟨0,[],[]⟩⟩={ h with p:=h.p.leave.1 }:=by rfl
 rw [e] at h1;exact h1
theorem goals_len:∀ l:List Goal,l.length≤total l
 | []=>Nat.le_refl _
 | g :: l=>by
  have h:=goals_len l
  have h1:1≤gcost g:=by unfold gcost;split;decide;split <;> decide
  unfold total at h ⊢
  simp only [List.length_cons,List.map_cons,List.sum_cons];omega
theorem goals_few {h:House} (hi:House.Inv2 h):h.goals.length≤1000:=by
 have h1:=total_le hi.inv.goals;have h2:=goals_len h.goals;omega
end Ch.Live
