/-
  'TopGone' holds, and its card: the law's Go text answers true, whatever the input; what it lists is tied to the program's text. No conditions.
-/
import Derived.Test.YtplomeacjbkgnacGreatDoorZ48
import Derived.Test.YtplomeacjbkgnacGreatDoorZ49
import Derived.Test.YtplomeacjbkgnacGreatDoorRows
import Derived.Test.YtplomeacjbkgnacGreatDoorTie
import Derived.Test.YtplomeacjbkgnacGreatDoorCards
import Derived.SevenTiedAt
import Derived.Shelf.Lay
import Derived.Lay
import Derived.LaidOnce
import Derived.Stop.Joined
set_option linter.unusedSimpArgs false
set_option linter.unusedVariables false
set_option maxRecDepth 100000
set_option maxHeartbeats 16000000

namespace Go.Proofs.YtplomeacjbkgnacGreatDoor
open Go.RowKit
theorem topGone_walk {la:Option Addr} {ln lc:Nat} {sizes:List Ch.Size} {a:Option Addr} {n cap:Nat} {l:List RAct} {w:World} (hl:Sl w 3 sizeCells sizes la ln lc) (h:Sl w 12 ractCells l a n cap) (hg:∀ x∈l,x.Good) (L:Libs w):
  Calls Tryz.prog 3 #[.slice la ln lc,.slice a n cap] w fun e w'=>e = .returned (.bool true)∧Ext w w':=by
 have lbd:=hl.bound;have abd:=h.bound;have HF:=Lib.hid hl;have HA:=Lib.hid h;have HG:=Lib.hid hg;have HL:=Lib.hid L;clear hl h hg L;go_enter Tryz.func3,Tryz.ntmps3;go_wp2_with (go_at_call 10;(with_reducible refine (works_any _ (HL.out.ext (by simp (maxDischargeDepth:=60)))).mono ?_);rintro e w1 ⟨rfl,o1,n1,rfl⟩)
 go_at_call 11
 refine (ready_now (Sl.below HF.out (Ext.below (by simp (maxDischargeDepth:=60)))) (Sl.below HA.out (Ext.below (by simp (maxDischargeDepth:=60)))) HG.out (HL.out.ext (by simp (maxDischargeDepth:=60)))).mono ?_;rintro e wB (⟨rfl,hx⟩|⟨pb,mb,db,lb0,hb0,rfl,hlf,h60,wA,hxA,hs⟩)
 ·go_wp2_with fail
  go_ret;exact ⟨rfl,Ext.trans (by simp (maxDischargeDepth:=60)) (hx.trans (by simp (maxDischargeDepth:=60)))⟩
 have HXA:Hid (Ext w wA):=Ext.trans (by simp (maxDischargeDepth:=60)) hxA;have HXB:Hid (Ext wA wB):=hs.x;have HS0:=Lib.hid hs;have HLA:=Lib.hid (HL.out.ext HXA.out);have HFA:=Lib.hid (Sl.below HF.out HXA.out.below);have HAA:=Lib.hid (Sl.below HA.out HXA.out.below);have hlen:=hl_len HF.out;clear hxA hs HF HA HL;obtain ⟨i0,hi,hz0,hz1,hz2⟩:=info_parts infoInt
 go_upto_region 9 with fail
 go_loopw [8,9,10] (fun s1 s9 s2 wr=>∃ (j lb hb:Nat) (h':Ch.House) (al:List Int) (v:Value) (N:Nat→Prop),j≤n∧s1 = .pointer (some ⟨hb,0,none⟩)∧s9=v∧s2 = .int .i64 (j:Int)∧Hid (h'.sizes=sizes)∧Hid (h'.p.cars.Perm al)∧Hid (Mine wA N al v wr)∧Hid (St wA N pb mb db lb hb h' (2+60 * j) wr)) (fun _ _ i2 _=>n - (intOf i2).toNat)
 case atStart=>exact ⟨0,lb0,hb0,Ch.House.new sizes,[],.slice none 0 0,NoN,Nat.zero_le _,rfl,rfl,rfl,rfl,(by unfold Hid;show (Ch.Plant.new _).cars.Perm _;rw [Ch.new_cars]),⟨World.ownsRow_nil _ _ _ _,fun b e=>by cases e⟩,HS0.out.ext (by simp (maxDischargeDepth:=60))⟩
 case round=>
  obtain ⟨j,lb,hb,h',al,v,N,hj,rfl,rfl,rfl,HSZ,HPM,HMR,HSR⟩:=hrel;have hwf:=HSR.out.wf
  have HAL:Hid (al.length≤18):=by unfold Hid;rw [←HPM.out.length_eq];exact cars_len _
  have hal:=HAL.out
  by_cases hlt:j<n
  ·obtain ⟨bA,qA,x,rfl,hx,dx⟩:=HAA.out.get hlt
   have dx:=at12 dx;have gx:=HG.out x (List.mem_of_getElem? hx)
   have hj0:(0:Int)≤(j:Int):=by omega
   have hj1:(j:Int)<(n:Int):=by omega
   have hj2:(j:Int)≤(cap:Int):=by omega
   clear hx;obtain ⟨da0,da1,da2,da3,da4,da5,da6,da7,da8,da9,da10,da11⟩:=dx;have dx0:=xcell HSR.out.x da0;have dx1:=xcell HSR.out.x da1;have dx2:=xcell HSR.out.x da2;have dx3:=xcell HSR.out.x da3;have dx4:=xcell HSR.out.x da4;have dx5:=xcell HSR.out.x da5;have dx6:=xcell HSR.out.x da6;have dx7:=xcell HSR.out.x da7;have dx8:=xcell HSR.out.x da8;have dx9:=xcell HSR.out.x da9;have dx10:=xcell HSR.out.x da10;have dx11:=xcell HSR.out.x da11;have hqA:=cell_lt dx0;have hqa:=cell_lt da0;clear da0 da2 da3 da4 da5 da6 da7 da8 da9 da10 da11
   by_cases hk1:x.kind=Ch.kArrive
   ·have e1:(x.kind.toList==[97,114,114,105,118,101])=true:=kind_is hk1
    clear dx2 dx3 dx4 dx5 dx6 dx7 dx8 dx9 dx10 dx11
    have HQP:Hid (h'.p.outside x.act=(h'.p.arrive x.a).1):=by unfold Hid Ch.Plant.outside;rw [show x.act.kind=Ch.kArrive from hk1];rfl
    have HI2:Hid (Ch.Live.House.Inv2 { h' with p:=(h'.p.arrive x.a).1 }):=by unfold Hid;rw [←HQP.out];exact outs_inv HSR.out.inv x (Or.inr (Or.inl hk1))
    by_cases h7:(h'.p.arrive x.a).2=0
    ·have HZ:Hid (errV (h'.p.arrive x.a).2 = .nilIface):=by unfold Hid;rw [h7];rfl
     have HPN:Hid ((h'.p.arrive x.a).1.cars.Perm (al++[x.a])):=(Ch.arrive_cars hwf x.a h7).1.trans (HPM.out.append_right _);clear h7 hk1
     go_upto_region 15 with (go_at_call 12;refine (arrive_any (HSR.out.plantAt.ext (by simp (maxDischargeDepth:=60))) hwf x.a).mono ?_;rintro e w4 ⟨he,hq4,hk4'⟩;rw [HZ.out] at he;subst he;have HK4:Hid (Kept (Own pb mb) wr w4):=(Kept.of_ext (by simp (maxDischargeDepth:=60)):Kept (Own pb mb) wr _).trans hk4';have HQ4:=Lib.hid hq4;clear hq4 hk4')
     obtain ⟨q1,q2⟩:=HSR.out.plant HK4.out HQ4.out HI2.out;have HS4:=Lib.hid q1;have HM4:=Lib.hid (HMR.out.kept q2);have HX4:Hid (Ext wA w4):=q1.x;replace dx1:=xcell HX4.out da1;have hqA4:=cell_lt dx1;clear q1 q2 HK4 HQ4 HI2 HQP HSR HMR dx0;have hw4:=HX4.out.below.size;obtain ⟨sa0,sc0,eV,hs0⟩:=HM4.out.sl;have hb0:=hs0.bound;clear hs0;subst eV
     go_upto_region 26 with (at_builtin;refine wpList_append_lies _ rfl _ _ _ rfl wA.heap.size 3 i0 _ 1 8 Tryz.underlying30 hi hz0 hz1 hz2 rfl (by decide) (.slice sa0 al.length sc0) al.length (al.flatMap intCells) rfl (owns_later HM4.out.own (by simp (maxDischargeDepth:=60))) _ 1 1 [vi x.a] rfl rfl (World.news_of_block (alloc_at _ _ _ (by simp))) (by simp [Value.oneCell']) (by decide) (by unfold maxLen;omega) (by omega) (by first|omega|(simp;omega)) _ rfl ?_;intro gg capB w5 hown5 hgrow hat hlt5;obtain ⟨N5,hm5,hs5⟩:=Mine.push (HM4.out.ext (by simp (maxDischargeDepth:=60))) (HS4.out.ext (by simp (maxDischargeDepth:=60))) hown5 hgrow hat hlt5;have HMX:=Lib.hid hm5;have HSX:=Lib.hid hs5;rw [List.length_append,List.length_singleton] at HMX;clear hown5 hgrow hat hlt5 hm5 hs5)
     have HZX:=HSZ;have HPX:=HPN;obtain ⟨sa,sc,eV,hsl⟩:=HMX.out.sl
     try rw [List.length_append,List.length_singleton] at hsl
     have HSL:=Lib.hid hsl;clear hsl
     first|subst eV|(simp only [Value.slice.injEq] at eV;obtain ⟨rfl,-,rfl⟩:=eV)
     have HWX:=HSX.out.wf
     go_wp2_with (first
      | (go_at_call 16;refine (cars_any (HSX.out.plantAt.ext (by simp (maxDischargeDepth:=60))) HWX).mono ?_;rintro e wc hc;obtain ⟨na,nn,nc,rfl,hnl,hnw,hnb,hxn⟩:=NewInts.both hc;clear hc hnw hnb;have HNL:=Lib.hid hnl;have HXC:Hid (Ext w5 wc):=Ext.trans (by simp (maxDischargeDepth:=60)) hxn;clear hnl hxn)
      | (go_at_call 15;refine (alike_yes _ _ _ _ _ _ _ (al++[x.a]) _ (Sl.below HNL.out (Ext.below (by simp (maxDischargeDepth:=60)))) (Sl.below HSL.out (HXC.out.trans (by simp (maxDischargeDepth:=60))).below) HPX.out).mono ?_;rintro e wk ⟨rfl,oK,nK,rfl⟩))
     go_roundw
     case rel=>exact ⟨j+1,lb,hb,{ h' with p:=(h'.p.arrive x.a).1 },(al++[x.a]),_,N5,by omega,rfl,rfl,by go_num,HZX.out,HPX.out,HMX.out.ext (HXC.out.trans (by simp (maxDischargeDepth:=60))),(HSX.out.ext (HXC.out.trans (by simp (maxDischargeDepth:=60)))).more (by omega)⟩
     case measure=>simp [intOf];omega
    ·obtain ⟨E,HZ⟩:∃ E,Hid (errV (h'.p.arrive x.a).2 = .iface 80 (vi E)):=⟨_,by unfold Hid errV;rw [if_neg h7]⟩
     have HPX:Hid ((h'.p.arrive x.a).1.cars.Perm al):=by unfold Hid;rw [Ch.arrive_not x.a h7];exact HPM.out
     clear h7 hk1
     go_upto_region 26 with (go_at_call 12;refine (arrive_any (HSR.out.plantAt.ext (by simp (maxDischargeDepth:=60))) hwf x.a).mono ?_;rintro e w4 ⟨he,hq4,hk4'⟩;rw [HZ.out] at he;subst he;have HK4:Hid (Kept (Own pb mb) wr w4):=(Kept.of_ext (by simp (maxDischargeDepth:=60)):Kept (Own pb mb) wr _).trans hk4';have HQ4:=Lib.hid hq4;clear hq4 hk4')
     obtain ⟨q1,q2⟩:=HSR.out.plant HK4.out HQ4.out HI2.out;have HSX:=Lib.hid q1;have HMX:=Lib.hid (HMR.out.kept q2);have HX4:Hid (Ext wA w4):=q1.x;replace dx1:=xcell HX4.out da1;have hqA4:=cell_lt dx1;clear q1 q2 HK4 HQ4 HI2 HQP HSR HMR dx0;have HZX:=HSZ;obtain ⟨sa,sc,eV,hsl⟩:=HMX.out.sl
     try rw [List.length_append,List.length_singleton] at hsl
     have HSL:=Lib.hid hsl;clear hsl
     first|subst eV|(simp only [Value.slice.injEq] at eV;obtain ⟨rfl,-,rfl⟩:=eV)
     have HWX:=HSX.out.wf
     go_wp2_with (first
      | (go_at_call 16;refine (cars_any (HSX.out.plantAt.ext (by simp (maxDischargeDepth:=60))) HWX).mono ?_;rintro e wc hc;obtain ⟨na,nn,nc,rfl,hnl,hnw,hnb,hxn⟩:=NewInts.both hc;clear hc hnw hnb;have HNL:=Lib.hid hnl;have HXC:Hid (Ext w4 wc):=Ext.trans (by simp (maxDischargeDepth:=60)) hxn;clear hnl hxn)
      | (go_at_call 15;refine (alike_yes _ _ _ _ _ _ _ al _ (Sl.below HNL.out (Ext.below (by simp (maxDischargeDepth:=60)))) (Sl.below HSL.out (HXC.out.trans (by simp (maxDischargeDepth:=60))).below) HPX.out).mono ?_;rintro e wk ⟨rfl,oK,nK,rfl⟩))
     go_roundw
     case rel=>exact ⟨j+1,lb,hb,{ h' with p:=(h'.p.arrive x.a).1 },al,_,N,by omega,rfl,rfl,by go_num,HZX.out,HPX.out,HMX.out.ext (HXC.out.trans (by simp (maxDischargeDepth:=60))),(HSX.out.ext (HXC.out.trans (by simp (maxDischargeDepth:=60)))).more (by omega)⟩
     case measure=>simp [intOf];omega
   ·have e1:(x.kind.toList==[97,114,114,105,118,101])=false:=str_ne hk1
    by_cases hk2:x.kind=Ch.kLeave
    ·have e2:(x.kind.toList==[108,101,97,118,101])=true:=kind_is hk2
     clear dx2 dx3 dx4 dx5 dx6 dx7 dx8 dx9 dx10 dx11
     have HQP:Hid (h'.p.outside x.act=h'.p.leave.1):=by unfold Hid Ch.Plant.outside;rw [show x.act.kind=Ch.kLeave from hk2];rfl
     have HI2:Hid (Ch.Live.House.Inv2 { h' with p:=h'.p.leave.1 }):=by unfold Hid;rw [←HQP.out];exact outs_inv HSR.out.inv x (Or.inr (Or.inr (Or.inl hk2)))
     by_cases h7:h'.p.leave.2.2=0
     ·have HZ:Hid (errV h'.p.leave.2.2 = .nilIface):=by unfold Hid;rw [h7];rfl
      obtain ⟨id,HID⟩:∃ id,Hid (h'.p.leave.2.1=id):=⟨_,rfl⟩
      have HPN:Hid (h'.p.leave.1.cars.Perm (al.filter fun x=>x != id)):=by unfold Hid;rw [←HID.out];exact (Ch.leave_cars HSR.out.inv.inv.core.nodup h7).1.trans (HPM.out.filter _)
      clear h7 hk1 hk2
      go_upto_region 21 with (go_at_call 13;refine (leave_any (HSR.out.plantAt.ext (by simp (maxDischargeDepth:=60)))).mono ?_;rintro e w4 ⟨he,hq4,hk4'⟩;rw [HZ.out,HID.out] at he;subst he;have HK4:Hid (Kept (Own pb mb) wr w4):=(Kept.of_ext (by simp (maxDischargeDepth:=60)):Kept (Own pb mb) wr _).trans hk4';have HQ4:=Lib.hid hq4;clear hq4 hk4')
      obtain ⟨q1,q2⟩:=HSR.out.plant HK4.out HQ4.out HI2.out;have HS4:=Lib.hid q1;have HM4:=Lib.hid (HMR.out.kept q2);have HX4:Hid (Ext wA w4):=q1.x;replace dx1:=xcell HX4.out da1;have hqA4:=cell_lt dx1;clear q1 q2 HK4 HQ4 HI2 HQP HSR HMR dx0;obtain ⟨sa0,sc0,eV,hs0⟩:=HM4.out.sl;have HC4:=Lib.hid hs0;have hb0:=hs0.bound;clear hs0;subst eV
      go_loopw [13,14] (fun v j wl=>∃ m:Nat,m≤al.length∧j = .int .i64 m∧Gathered w4 ((al.take m).filter fun x=>x != id) v wl) (fun _ j _=>al.length - (intOf j).toNat)
      case atStart=>exact ⟨0,by omega,rfl,World.ownsRow_nil _ _ _ _,(by simp (maxDischargeDepth:=60))⟩
      case round=>
       obtain ⟨m,hm,rfl,hgat⟩:=hrel;have HGA:=Lib.hid hgat;clear hgat
       by_cases hlm:m<al.length
       ·obtain ⟨nb,no,y,rfl,hy,dy0⟩:=HC4.out.get hlm
        obtain ⟨og,ng,rfl⟩:=HGA.out.ext;have dy:=at1' dy0;rw [Nat.mul_one] at dy;have hny:=cell_lt dy;clear dy0
        cases hne:(y != id)
        ·have HF:=Lib.hid (filter_no hy hne)
         clear hy;go_wp2;go_roundw
         case rel=>first|exact ⟨m+1,by omega,by go_num,by rw [HF.out];exact ⟨owns_later HGA.out.1 (by simp (maxDischargeDepth:=60)),(by simp (maxDischargeDepth:=60))⟩⟩|(repeat apply Exists.intro;refine ⟨?_,rfl⟩;exact ⟨m+1,by omega,by go_num,by rw [HF.out];exact ⟨owns_later HGA.out.1 (by simp (maxDischargeDepth:=60)),(by simp (maxDischargeDepth:=60))⟩⟩)
         case measure=>simp [intOf];omega
        ·have HF:=Lib.hid (filter_yes hy hne)
         have hfl:=filter_len (id:=id) (j:=m) HAL.out;clear hy;go_wp2_with (at_builtin;refine wpList_append_lies _ rfl _ _ _ rfl w4.heap.size 3 i0 _ 1 8 Tryz.underlying30 hi hz0 hz1 hz2 rfl (by decide) u13 ((al.take m).filter fun x=>x != id).length _ rfl (owns_later HGA.out.1 (by simp (maxDischargeDepth:=60))) _ 1 1 [vi y] rfl rfl (World.news_of_block (alloc_at _ _ _ (by simp))) (by simp [Value.oneCell']) (by decide) (by unfold maxLen;omega) (by omega) (by first|omega|(simp;omega)) _ rfl ?_;intro gg capB w5 hown5 hgrow hat hlt5;have HG3:Hid (Gathered w4 ((al.take m).filter (fun x=>x != id)++[y]) (.slice (some ⟨gg,0,none⟩) (((al.take m).filter fun x=>x != id).length+1) capB) w5):=⟨gather hown5,ext_grown (w:=w4) (by simp (maxDischargeDepth:=60)) hgrow (owns_block HGA.out.1)⟩;clear hown5 hgrow hat hlt5);go_roundw
         case rel=>first|exact ⟨m+1,by omega,by go_num,by rw [HF.out];exact HG3.out⟩|(repeat apply Exists.intro;refine ⟨?_,rfl⟩;exact ⟨m+1,by omega,by go_num,by rw [HF.out];exact HG3.out⟩)
         case measure=>simp [intOf];omega
       ·have hmn:m=al.length:=by omega
        have hall:al.take m=al:=List.take_of_length_le (by omega)
        have HGB:Hid (Gathered w4 (al.filter fun x=>x != id) u13 wr):=by unfold Hid;rw [←hall];exact HGA.out
        clear hall HGA;obtain ⟨N5,hm5,hs5⟩:=Mine.of_gathered HS4.out HGB.out;have HMX:=Lib.hid hm5;have HSX:=Lib.hid hs5;have hxw:=HGB.out.ext;replace dx1:=xcell hxw dx1;have hqA5:=cell_lt dx1;clear hm5 hs5 hxw HGB HS4 HM4 HC4;have HZX:=HSZ;have HPX:=HPN;obtain ⟨sa,sc,eV,hsl⟩:=HMX.out.sl
        try rw [List.length_append,List.length_singleton] at hsl
        have HSL:=Lib.hid hsl;clear hsl
        first|subst eV|(simp only [Value.slice.injEq] at eV;obtain ⟨rfl,-,rfl⟩:=eV)
        have HWX:=HSX.out.wf
        go_wp2_with (first
         | (go_at_call 16;refine (cars_any (HSX.out.plantAt.ext (by simp (maxDischargeDepth:=60))) HWX).mono ?_;rintro e wc hc;obtain ⟨na,nn,nc,rfl,hnl,hnw,hnb,hxn⟩:=NewInts.both hc;clear hc hnw hnb;have HNL:=Lib.hid hnl;have HXC:Hid (Ext wr wc):=Ext.trans (by simp (maxDischargeDepth:=60)) hxn;clear hnl hxn)
         | (go_at_call 15;refine (alike_yes _ _ _ _ _ _ _ (al.filter fun x=>x != id) _ (Sl.below HNL.out (Ext.below (by simp (maxDischargeDepth:=60)))) (Sl.below HSL.out (HXC.out.trans (by simp (maxDischargeDepth:=60))).below) HPX.out).mono ?_;rintro e wk ⟨rfl,oK,nK,rfl⟩))
        go_roundw
        case rel=>exact ⟨j+1,lb,hb,{ h' with p:=h'.p.leave.1 },(al.filter fun x=>x != id),_,N5,by omega,rfl,rfl,by go_num,HZX.out,HPX.out,HMX.out.ext (HXC.out.trans (by simp (maxDischargeDepth:=60))),(HSX.out.ext (HXC.out.trans (by simp (maxDischargeDepth:=60)))).more (by omega)⟩
        case measure=>simp [intOf];omega
     ·obtain ⟨E,HZ⟩:∃ E,Hid (errV h'.p.leave.2.2 = .iface 80 (vi E)):=⟨_,by unfold Hid errV;rw [if_neg h7]⟩
      have HPX:Hid (h'.p.leave.1.cars.Perm al):=by unfold Hid;rw [(Ch.leave_not h7).1];exact HPM.out
      obtain ⟨id,HID⟩:∃ id,Hid (h'.p.leave.2.1=id):=⟨_,rfl⟩
      clear h7 hk1 hk2
      go_upto_region 26 with (go_at_call 13;refine (leave_any (HSR.out.plantAt.ext (by simp (maxDischargeDepth:=60)))).mono ?_;rintro e w4 ⟨he,hq4,hk4'⟩;rw [HZ.out,HID.out] at he;subst he;have HK4:Hid (Kept (Own pb mb) wr w4):=(Kept.of_ext (by simp (maxDischargeDepth:=60)):Kept (Own pb mb) wr _).trans hk4';have HQ4:=Lib.hid hq4;clear hq4 hk4')
      obtain ⟨q1,q2⟩:=HSR.out.plant HK4.out HQ4.out HI2.out;have HSX:=Lib.hid q1;have HMX:=Lib.hid (HMR.out.kept q2);have HX4:Hid (Ext wA w4):=q1.x;replace dx1:=xcell HX4.out da1;have hqA4:=cell_lt dx1;clear q1 q2 HK4 HQ4 HI2 HQP HSR HMR dx0;have HZX:=HSZ;obtain ⟨sa,sc,eV,hsl⟩:=HMX.out.sl
      try rw [List.length_append,List.length_singleton] at hsl
      have HSL:=Lib.hid hsl;clear hsl
      first|subst eV|(simp only [Value.slice.injEq] at eV;obtain ⟨rfl,-,rfl⟩:=eV)
      have HWX:=HSX.out.wf
      go_wp2_with (first
       | (go_at_call 16;refine (cars_any (HSX.out.plantAt.ext (by simp (maxDischargeDepth:=60))) HWX).mono ?_;rintro e wc hc;obtain ⟨na,nn,nc,rfl,hnl,hnw,hnb,hxn⟩:=NewInts.both hc;clear hc hnw hnb;have HNL:=Lib.hid hnl;have HXC:Hid (Ext w4 wc):=Ext.trans (by simp (maxDischargeDepth:=60)) hxn;clear hnl hxn)
       | (go_at_call 15;refine (alike_yes _ _ _ _ _ _ _ al _ (Sl.below HNL.out (Ext.below (by simp (maxDischargeDepth:=60)))) (Sl.below HSL.out (HXC.out.trans (by simp (maxDischargeDepth:=60))).below) HPX.out).mono ?_;rintro e wk ⟨rfl,oK,nK,rfl⟩))
      go_roundw
      case rel=>exact ⟨j+1,lb,hb,{ h' with p:=h'.p.leave.1 },al,_,N,by omega,rfl,rfl,by go_num,HZX.out,HPX.out,HMX.out.ext (HXC.out.trans (by simp (maxDischargeDepth:=60))),(HSX.out.ext (HXC.out.trans (by simp (maxDischargeDepth:=60)))).more (by omega)⟩
      case measure=>simp [intOf];omega
    ·have e2:(x.kind.toList==[108,101,97,118,101])=false:=str_ne hk2
     have HPX:Hid ((h'.play x.act).p.cars.Perm al):=(Ch.Live.play_cars HSR.out.inv.inv x.act hk1 hk2).trans HPM.out;clear hk1 hk2
     go_upto_region 26 with (go_at_call 14;refine (play_now (HSR.out.ext (by simp (maxDischargeDepth:=60))) (by omega) HLA.out x gx (by rw [HSZ.out];exact HFA.out)).mono ?_;rintro r w2 ⟨lb2,hb2,rfl,hk2,hs2⟩;have HSX:=Lib.hid hs2;have HMX:=Lib.hid ((HMR.out.ext (by simp (maxDischargeDepth:=60))).kept hk2);clear hk2 hs2)
     have HZX:Hid ((h'.play x.act).sizes=sizes):=by unfold Hid;rw [play_sizes];exact HSZ.out
     obtain ⟨sa,sc,eV,hsl⟩:=HMX.out.sl
     try rw [List.length_append,List.length_singleton] at hsl
     have HSL:=Lib.hid hsl;clear hsl
     first|subst eV|(simp only [Value.slice.injEq] at eV;obtain ⟨rfl,-,rfl⟩:=eV)
     have HWX:=HSX.out.wf
     go_wp2_with (first
      | (go_at_call 16;refine (cars_any (HSX.out.plantAt.ext (by simp (maxDischargeDepth:=60))) HWX).mono ?_;rintro e wc hc;obtain ⟨na,nn,nc,rfl,hnl,hnw,hnb,hxn⟩:=NewInts.both hc;clear hc hnw hnb;have HNL:=Lib.hid hnl;have HXC:Hid (Ext w2 wc):=Ext.trans (by simp (maxDischargeDepth:=60)) hxn;clear hnl hxn)
      | (go_at_call 15;refine (alike_yes _ _ _ _ _ _ _ al _ (Sl.below HNL.out (Ext.below (by simp (maxDischargeDepth:=60)))) (Sl.below HSL.out (HXC.out.trans (by simp (maxDischargeDepth:=60))).below) HPX.out).mono ?_;rintro e wk ⟨rfl,oK,nK,rfl⟩))
     go_roundw
     case rel=>exact ⟨j+1,lb2,hb2,(h'.play x.act),al,_,N,by omega,rfl,rfl,by go_num,HZX.out,HPX.out,HMX.out.ext (HXC.out.trans (by simp (maxDischargeDepth:=60))),(HSX.out.ext (HXC.out.trans (by simp (maxDischargeDepth:=60)))).more (by omega)⟩
     case measure=>simp [intOf];omega
  ·have hnlt:¬ (j:Int)<(n:Int):=by omega
   go_wp2;go_ret;exact ⟨rfl,HXA.out.trans (HSR.out.x.trans (by simp (maxDischargeDepth:=60)))⟩
end Go.Proofs.YtplomeacjbkgnacGreatDoor
namespace Go.Proofs.YtplomeacjbkgnacGreatDoor
open Go.ChangeShapes Go.WideShapes Go.ChangeAt Go.RowKit
theorem topGone_libs {W:World} (hL:laidMetH Tryz.prog Rows.topGoneRow.laid W) (hs:W.ShapedOpen Tryz.prog):Libs W:=by
 rw [Go.MakeChecks.laidMetH_plain _ _ _ (by kernel_rfl)] at hL;exact libs_of hL hs rfl rfl (by decide) rfl (by decide) (by kernel_rfl) (by kernel_rfl) (by kernel_rfl)
theorem topGone_lifted (os:Os) (started:os.Started) (H:Type) (enc:TypeId×Value→H):
  ReturnsInHanded {} Tryz.checked os 3 .any (fun w args=>(Rows.topGoneSpec.pre enc Tryz.prog Tryz.f3 [] false w args∧laidMetH Tryz.prog Rows.topGoneRow.laid w)∧sizedMet enc Tryz.prog Tryz.f3 (OpenSpec.ofChange Rows.topGoneSpec) false w args)
   (Rows.topGoneSpec.post enc Tryz.prog Tryz.f3 false true false false):=by
 refine handed_laid_shaped (C:=Tryz.checked) (X:=fun w _=>laidMetH Tryz.prog Rows.topGoneRow.laid w) (fun _ _ _ hh h=>h.of_heap hh) own started (by kernel_rfl) Tryz.func3
  (ChangeSpec.witness_shaped (enc:=enc) (C:=Tryz.checked) (os:=os) (X:=fun w _=>laidMetH Tryz.prog Rows.topGoneRow.laid w) false (World.laidAll Tryz.prog os Rows.topGoneRow.laid) #[.slice none 0 0,.slice none 0 0] 8 (World.laidAll_os _ _ _)
   (World.shaped_of_ZipB (by kernel_rfl) (by kernel_rfl)) (by kernel_rfl) (by kernel_rfl) (by kernel_rfl)
   (by rw [Go.MakeChecks.laidMetH_plain _ _ _ (by kernel_rfl)];exact laidMet_laidAll _ (by kernel_rfl) (by kernel_rfl))) ?_
 intro W base args ds gs before hval0 hW _ hL hsh
 have hval:∀ (j:Nat) t v,Tryz.f3.params[j]? = some t→args[j]? = some v→Value.okWide Tryz.prog W .any base t v:=hval0
 refine law_contract (tb:=4) laidOut Tryz.underlying4 (by kernel_rfl) rfl (fun ds hd=>?_) (by kernel_rfl) hW ?_
 ·match ds,hd with
  | [_,_],_=>rfl
 obtain ⟨p,q,hA0,hV,rfl,hfz,hnd⟩:=hW;have hA:DataW.TrodAll enc Tryz.prog W 0 (fun _=>true) true Tryz.f3.params.toList args.toList ds p:=hA0;rw [Tryz.params3] at hA hval;obtain ⟨v0,vs0,d0,ds0,p0,q0,hargs,rfl,rfl,h0,r0⟩:=trodAll_cons hA;obtain ⟨v1,vs1,d1,ds1,p1,q1,rfl,rfl,rfl,h1,r1⟩:=trodAll_cons r0;obtain ⟨rfl,rfl,rfl⟩:=trodAll_nil r1
 obtain rfl:args=#[v0,v1]:=by cases args;simp_all
 obtain ⟨a0,n0,c0,rfl⟩:=okWide_slice Tryz.underlying22 (hval 0 _ v0 rfl rfl);obtain ⟨x0,_,_,_,e0,s0,g0⟩:=rd_list (c:=3) sizeCells I64S (by decide) (fun _=>rfl) Tryz.underlying22 (by kernel_rfl) (fun ecs h=>rd_size h) (rd_of_trod h0);simp only [Value.cells,List.cons.injEq,Value.slice.injEq,and_true] at e0;obtain ⟨rfl,rfl,rfl⟩:=e0;obtain ⟨a1,n1,c1,rfl⟩:=okWide_slice Tryz.underlying23 (hval 1 _ v1 rfl rfl);obtain ⟨x1,_,_,_,e1,s1,g1⟩:=rd_list (c:=12) ractCells (RAct.Whole W) (by decide) (fun _=>rfl) Tryz.underlying23 (by kernel_rfl) (fun ecs h=>rd_actB h) (rd_of_trod h1);simp only [Value.cells,List.cons.injEq,Value.slice.injEq,and_true] at e1;obtain ⟨rfl,rfl,rfl⟩:=e1;exact topGone_walk s0 s1 (wholes_good g1) (topGone_libs hL hsh)
theorem topGone_holds:Rows.TopGoneSaid:=
 OpenClaim.holds_of_wide 3 Tryz.f3 rfl rfl rfl rfl rfl rfl rfl ⟨rfl,rfl,rfl,rfl,rfl⟩ rfl rfl rfl rfl rfl (by kernel_rfl) Tryz.func3 (by kernel_rfl)
  (of_decide_eq_true (by kernel_rfl)) (by unfold Func.isWrapper;first|(rw [if_pos (by decide +kernel)];kernel_rfl)|(rw [if_neg (by decide +kernel)];exact ⟨rfl,rfl⟩))
  (fun os started H enc _=>topGone_lifted os started H enc)
theorem topGone_proved:Rows.TopGoneCardSaid:=
 Claim7.holds_tied_plain_at .later [] [.data,.data,.data,.data,.sentinel,.sentinel,.pinned] true Rows.topGoneCard.stood.harness true
  topGone_holds (fun _ h=>by cases h) (by kernel_rfl) (fun _ h=>by cases h) topGone_row_tie rfl ⟨rfl,rfl⟩ (by kernel_rfl) rfl
  (fun f fn hf hfn=>by
   obtain rfl:f=3:=Option.some.inj ((show Tryz.prog.funcNamed Tryz.f3.name=some 3 by kernel_rfl).symm.trans hf) |>.symm
   obtain rfl:fn=Tryz.f3:=(Option.some.inj (Tryz.func3.symm.trans hfn)).symm
   have hall:(Tryz.f3.params.toList.all fun u=>!Tryz.prog.wantsStandIn u)=true:=by kernel_rfl
   exact ⟨by kernel_rfl,fun j t ht=>by
    have hm:t∈Tryz.f3.params.toList:=Array.mem_toList_iff.2 (Array.mem_of_getElem? ht)
    exact (show Tryz.prog.wantsStandIn t=false by simpa using List.all_eq_true.1 hall t hm)⟩)
  (by kernel_rfl)
#print axioms topGone_proved
end Go.Proofs.YtplomeacjbkgnacGreatDoor
