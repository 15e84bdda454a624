/-
  'TopFetched' holds, and its card: the law's Go text answers true, whatever the input; what it lists is tied to the program's text. No conditions.
-/
import Derived.Test.YtplomeacjbkgnadGreatDoorZ49
import Derived.Test.YtplomeacjbkgnadGreatDoorZ50
import Derived.Test.YtplomeacjbkgnadGreatDoorRows
import Derived.Test.YtplomeacjbkgnadGreatDoorTie
import Derived.Test.YtplomeacjbkgnadGreatDoorCards
import Derived.Test.YtplomeacjbkgnadGreatDoorZ48
import Derived.SevenTiedAt
import Derived.Shelf.Lay
import Derived.Lay
import Derived.LaidOnce
import Derived.Stop.Joined
set_option linter.unusedSimpArgs false
set_option linter.unusedVariables false
set_option maxRecDepth 100000
set_option maxHeartbeats 16000000

namespace Go.Proofs.YtplomeacjbkgnadGreatDoor
open Go.RowKit
theorem filter_one:∀ {l:List Ch.Stay},l.Pairwise (fun a b=>a.ticket≠b.ticket)→∀ {x:Ch.Stay},x∈l→(l.filter (fun s=>!(s.ticket==x.ticket))).length+1=l.length
 | [],_,_,h=>by cases h
 | y :: l,hp,x,hx=>by
  obtain ⟨h1,h2⟩:=List.pairwise_cons.1 hp
  by_cases hxy:y.ticket=x.ticket
  ·have hx2:x=y:=by
    rcases List.mem_cons.1 hx with h|h
    ·exact h
    ·exact absurd hxy (h1 x h)
   subst hx2
   have:l.filter (fun s=>!(s.ticket==x.ticket))=l:=by
    rw [List.filter_eq_self];intro a ha;have:=h1 a ha;simp [Ne.symm this]
   rw [List.filter_cons];simp [this]
  ·have hx2:x∈l:=by
    rcases List.mem_cons.1 hx with h|h
    ·subst h;exact absurd rfl hxy
    ·exact h
   have ih:=filter_one h2 hx2;rw [List.filter_cons];simp only [hxy,beq_iff_eq,Bool.not_eq_true',beq_eq_false_iff_ne,ne_eq,not_false_eq_true,if_true,List.length_cons];omega
theorem topFetched_walk (which:Int) {la:Option Addr} {ln lc:Nat} {sizes:List Ch.Size} {a:Option Addr} {n cap:Nat} {l:List RAct} {w:World} (hl:Sl w 3 sizeCells sizes la ln lc) (h:Sl w 12 ractCells l a n cap) (hg:∀ x∈l,x.Good) (L:Libs w):
  Calls Tryz.prog 4 #[.slice la ln lc,.slice a n cap,vi which] w fun e w'=>e = .returned (.bool true)∧Ext w w':=by
 have lbd:=hl.bound;have abd:=h.bound;have HF:=Lib.hid hl;have HA:=Lib.hid h;have HG:=Lib.hid hg;have HL:=Lib.hid L;clear hl h hg L;go_enter Tryz.func4,Tryz.ntmps4;go_wp2_with (go_at_call 7;(with_reducible refine (works_any _ (HL.out.ext (by simp (maxDischargeDepth:=60)))).mono ?_);rintro e w1 ⟨rfl,o1,n1,rfl⟩)
 go_at_call 8
 refine (ready_now (Sl.below HF.out (Ext.below (by simp (maxDischargeDepth:=60)))) (Sl.below HA.out (Ext.below (by simp (maxDischargeDepth:=60)))) HG.out (HL.out.ext (by simp (maxDischargeDepth:=60)))).mono ?_;rintro e wB (⟨rfl,hx⟩|⟨pb,mb,db,lb0,hb0,rfl,hlf,h60,wA,hxA,hs⟩)
 ·go_wp2_with fail
  go_ret;exact ⟨rfl,Ext.trans (by simp (maxDischargeDepth:=60)) (hx.trans (by simp (maxDischargeDepth:=60)))⟩
 have HXA:Hid (Ext w wA):=Ext.trans (by simp (maxDischargeDepth:=60)) hxA;have HXB:Hid (Ext wA wB):=hs.x;have HS0:=Lib.hid hs;have HLA:=Lib.hid (HL.out.ext HXA.out);have HFA:=Lib.hid (Sl.below HF.out HXA.out.below);have HAA:=Lib.hid (Sl.below HA.out HXA.out.below);have hlen:=hl_len HF.out;clear hxA hs HF HA HL
 go_upto_region 8 with fail
 go_loopw [10,11] (fun s1 s2 wr=>∃ (j lb hb:Nat),j≤n∧s1 = .pointer (some ⟨hb,0,none⟩)∧s2 = .int .i64 (j:Int)∧Hid (St wA NoN pb mb db lb hb (acted (Ch.House.new sizes) l j) (2+60 * j) wr)) (fun _ i2 _=>n - (intOf i2).toNat)
 case atStart=>exact ⟨0,lb0,hb0,Nat.zero_le _,rfl,rfl,HS0.out.ext (by simp (maxDischargeDepth:=60))⟩
 case round=>
  obtain ⟨j,lb,hb,hj,rfl,rfl,HSR⟩:=hrel
  by_cases hlt:j<n
  ·obtain ⟨bA,qA,x,rfl,hx,dx⟩:=(Sl.below HAA.out HSR.out.x.below).get hlt
   have dx:=at12 dx;have gx:=HG.out x (List.mem_of_getElem? hx);have HXJ:=Lib.hid hx;have hqA:=cell_lt dx.1;obtain ⟨dx0,dx1,dx2,dx3,dx4,dx5,dx6,dx7,dx8,dx9,dx10,dx11⟩:=dx
   have hj0:(0:Int)≤(j:Int):=by omega
   have hj1:(j:Int)<(n:Int):=by omega
   have hj2:(j:Int)≤(cap:Int):=by omega
   clear hx;go_wp2_with (go_at_call 9;refine (play_now (HSR.out.ext (by simp (maxDischargeDepth:=60))) (by omega) HLA.out x gx (by rw [acted_sizes];exact HFA.out)).mono ?_;rintro r w2 ⟨lb2,hb2,rfl,-,hs2⟩;have HS2:=Lib.hid hs2;clear hs2);go_roundw
   case rel=>exact ⟨j+1,lb2,hb2,by omega,rfl,by go_num,by unfold Hid;rw [acted_succ HXJ.out];exact (HS2.out.ext (by simp (maxDischargeDepth:=60))).more (by omega)⟩
   case measure=>simp [intOf];omega
  ·have hjn:j=n:=by omega
   have hnlt:¬ (j:Int)<(n:Int):=by omega
   go_upto_region 12 with (go_at_call 10;refine (settle_now (HSR.out.ext (by simp (maxDischargeDepth:=60))) (by omega) HLA.out.tab).mono ?_;rintro r wS ⟨rfl,-,hs3⟩;have HSS:=Lib.hid hs3;clear hs3)
   have hRest:Ch.Live.House.Rest (Ch.Live.House.settle (acted (Ch.House.new sizes) l j)):=HSR.out.inv.rests;generalize hH:Ch.Live.House.settle (acted (Ch.House.new sizes) l j)=H at HSS hRest;clear hH;have HRE:=Lib.hid hRest;clear hRest
   obtain ⟨last,bs,js,HBK⟩:∃ (a:Int) (b:List Ch.Stay) (c:List Ch.Job),Hid (H.b=⟨a,b,c⟩):=⟨_,_,_,rfl⟩
   go_upto_region 13 with (go_at_call 12;refine (st_book (HSS.out.ext (by simp (maxDischargeDepth:=60)))).mono ?_;rw [HBK.out];rintro r w3 ⟨y1,d1,y2,d2,rfl,t1,t2,hx3,-,-⟩;dsimp only at t1 t2 ⊢;have HX3:Hid (Ext wS w3):=Ext.trans (by simp (maxDischargeDepth:=60)) hx3;have T1:=Lib.hid t1;have T2:=Lib.hid t2;clear t1 t2 hx3)
   generalize hW:World.alloc _ _=w4;generalize hB:w3.heap.size=B
   have hx34:Ext w3 w4:=by rw [←hW];exact (by simp (maxDischargeDepth:=60))
   have b0:w4.cell? ⟨B,0,none⟩=some (vi last):=by rw [←hW,←hB];simp [go_sem]
   have b1:w4.cell? ⟨B,1,none⟩=some (.slice y1 bs.length d1):=by rw [←hW,←hB];simp [go_sem]
   have b2:w4.cell? ⟨B,2,none⟩=some (.slice y2 js.length d2):=by rw [←hW,←hB];simp [go_sem]
   have U1:=Lib.hid (Sl.below T1.out hx34.below);have U2:=Lib.hid (Sl.below T2.out hx34.below);have ub1:=U1.out.bound;have ub2:=U2.out.bound;have HX4:=Lib.hid (HX3.out.trans hx34);have hBl:=cell_lt b0
   have hBge:wS.heap.size≤B:=by rw [←hB];exact HX3.out.below.size
   clear hW hB hx34 T1 T2 HX3
   obtain ⟨N,hNB,hs4⟩:∃ N:Nat→Prop,(∀ i,wS.heap.size≤i→i<w4.heap.size→N i)∧St wA N pb mb db lb hb H (2+60 * j+2500) w4:=⟨_,fun i h1 h2=>Or.inr ⟨h1,h2⟩,HSS.out.own HX4.out⟩
   have HS4:=Lib.hid hs4;clear hs4
   by_cases hb0:bs.length=0
   ·go_wp2_with fail
    go_ret;exact ⟨rfl,HXA.out.trans (HS4.out.x.trans (by simp (maxDischargeDepth:=60)))⟩
   ·obtain ⟨O,HO⟩:∃ O,bits BinOp.and IntKind.i64 which 1023=O:=⟨_,rfl⟩
    have hO:0≤bits BinOp.and IntKind.i64 which 1023:=(and_small which 1023 (by decide)).1;rw [HO] at hO
    have hbp:0<bs.length:=by omega
    obtain ⟨idx,hix⟩:∃ idx:Nat,O % (bs.length:Int)=(idx:Int):=⟨(O % (bs.length:Int)).toNat,(Int.toNat_of_nonneg (Int.emod_nonneg _ (by omega))).symm⟩
    have hil:idx<bs.length:=by have:=Int.emod_lt_of_pos O (show (0:Int)<(bs.length:Int) by omega);omega
    have hit:O.tmod (bs.length:Int)=(idx:Int):=by rw [Int.tmod_eq_emod_of_nonneg hO];exact hix
    obtain ⟨bb,q,s,rfl,hs',ds⟩:=U1.out.get hil;have hmem:=List.mem_of_getElem? hs';obtain ⟨st,⟨sid,⟨sl1,sl2,sl3⟩⟩,⟨sp1,sp2,sp3⟩⟩:=s;have ds:=at8 ds;dsimp only at ds;have hq2:=cell_lt ds.1;have e0:=ds.1;have e1:=ds.2.1;have e2:=ds.2.2.1;have e3:=ds.2.2.2.1;have e4:=ds.2.2.2.2.1;have e5:=ds.2.2.2.2.2.1;have e6:=ds.2.2.2.2.2.2.1;have e7:=ds.2.2.2.2.2.2.2
    have hm0:(0:Int)≤(idx:Int):=by omega
    have hm1:(idx:Int)<(bs.length:Int):=by omega
    have hm2:(idx:Int)≤(d1:Int):=by omega
    have hm3:(bs.length:Int)≤(d1:Int):=by omega
    have hn0:¬ (bs.length:Int)=0:=by omega
    clear ds hs' hix;have hk0:=HS4.out.inv.inv.core.book
    have hfl:(bs.filter (fun s=>!(s.ticket==st))).length+1=bs.length:=by
     have h1:=hk0.stays.2;rw [HBK.out] at h1;exact filter_one (h1.imp (fun h=>by have:=h.1;omega)) hmem
    obtain ⟨bq1,bq2,q4,f1,f2,f3,f4,f5,f6,f7,f8,f9⟩:=Ch.Live.House.Rest.fetched HRE.out (x:=⟨st,⟨sid,⟨sl1,sl2,sl3⟩⟩,⟨sp1,sp2,sp3⟩⟩) (by rw [HBK.out];exact hmem) 400 (by decide);dsimp only at f1 f2 f3 f4 f6 f7 f8 f9;rw [HBK.out] at f4;dsimp only at f4;obtain ⟨last2,bs2,js2⟩:=bq2;dsimp only at f3 f4 f9;subst f3
    have hl2:bs2.length+1=bs.length:=by rw [f4];exact hfl
    have F1:=Lib.hid f1;have F9:=Lib.hid f9
    obtain ⟨H1,hH1⟩:∃ H1:Ch.House,Hid (({ H with b:=bq1 }:Ch.House)=H1):=⟨_,rfl⟩
    rw [hH1.out] at F1 f2;have F2:=Lib.hid f2;have G6:=Lib.hid f6;have G7:=Lib.hid f7;have G8:=Lib.hid f8;clear hk0 hfl f1 f2 f4 f5 f6 f7 f8 f9 hmem
    go_upto_region 15 with fail
    go_region
    go_upto_region 16 with fail
    generalize hW:World.alloc _ _=w5;generalize hX:w4.heap.size=X
    have hx5:Ext w4 w5:=by rw [←hW];exact (by simp (maxDischargeDepth:=60))
    have x0:w5.cell? ⟨X,0,none⟩=some (vi st):=by rw [←hW,←hX];simp [go_sem]
    have x1:w5.cell? ⟨X,1,none⟩=some (vi sid):=by rw [←hW,←hX];simp [go_sem]
    replace b1:=xcell hx5 b1;have lx:=cell_lt x0
    have hXge:w4.heap.size≤X:=by omega
    obtain ⟨N2,hNX,hsub,hs5⟩:∃ N2:Nat→Prop,N2 X∧(∀ i,N i→N2 i)∧St wA N2 pb mb db lb hb H (2+60 * j+2500) w5:=⟨_,Or.inr ⟨hXge,lx⟩,fun i h=>Or.inl h,HS4.out.own hx5⟩
    have HS5:=Lib.hid hs5
    have HNX:Hid (¬ Own0 wA N2 X):=fun hh=>hh.2 hNX
    have HNBB:Hid (¬ Own0 wA N2 B):=fun hh=>hh.2 (hsub B (hNB B hBge hBl))
    clear hW hX hx5 hs5 e0 e1 e2 e3 e4 e5 e6 e7 hq2 hit hO hm0 hm1 hm2 hn0 hil U1 U2 b0 b2 HO
    go_upto_region 19 with (go_at_call 13;refine (st_want (HS5.out.ext (by simp (maxDischargeDepth:=60))) (by omega) HLA.out.tab _).mono ?_;rw [F1.out];rintro r w6 ⟨rfl,hk6,hs6⟩;have HS6:=Lib.hid hs6;have HK6:Hid (Kept (Own0 wA N2) w5 w6):=(Kept.of_ext (by simp (maxDischargeDepth:=60)):Kept (Own0 wA N2) w5 _).trans hk6;clear hs6 hk6;dsimp only;rw [show errV 0 = .nilIface from rfl])
    replace x1:=cell_kept HK6.out x1 HNX.out;replace b1:=cell_kept HK6.out b1 HNBB.out;clear x0 lx
    go_loopw [14] (fun s14 wq=>∃ i:Nat,s14 = .int .i64 (i:Int)∧Hid (i≤400)∧Hid (Kept (Own0 wA N2) w6 wq)∧Hid (St wA N2 pb mb db lb hb (Ch.House.ticks i H1) (2+60 * j+2500+1+i) wq)) (fun s14 _=>400 - (intOf s14).toNat)
    case atStart=>exact ⟨0,rfl,by unfold Hid;decide,Kept.of_ext (by simp (maxDischargeDepth:=60)),HS6.out.ext (by simp (maxDischargeDepth:=60))⟩
    case round=>
     obtain ⟨i,rfl,HI,HK,HSI⟩:=hrel;have hi:=HI.out
     by_cases hlt2:i<400
     ·have hi4:(i:Int)<400:=by omega
      have hk2:2+60 * j+2500+1+i+2<4294967296:=by omega
      go_wp2_with (go_at_call 14;refine (st_tick (HSI.out.ext (by simp (maxDischargeDepth:=60))) hk2 HLA.out.tab).mono ?_;rintro r w7 ⟨rfl,hk7,hs7⟩;have HK7:Hid (Kept (Own0 wA N2) w6 w7):=HK.out.trans ((Kept.of_ext (by simp (maxDischargeDepth:=60)):Kept (Own0 wA N2) wr _).trans hk7);have HS7:=Lib.hid hs7;clear hk7 hs7);go_roundw
      case rel=>exact ⟨i+1,by go_num,by unfold Hid;omega,HK7.out.trans (Kept.of_ext (by simp (maxDischargeDepth:=60))),by unfold Hid;rw [Ch.Live.ticks_add i 1];exact HS7.out.ext (by simp (maxDischargeDepth:=60))⟩
      case measure=>simp [intOf];omega
     ·have hi4:¬ (i:Int)<400:=by omega
      have hi5:i=400:=by omega
      rw [hi5,F2.out] at HSI
      obtain ⟨H4,hH4⟩:∃ H4:Ch.House,Hid (({ H with b:=⟨last2,bs2,[]⟩,p:=q4,goals:=[] }:Ch.House)=H4):=⟨_,rfl⟩
      have k1:H4.p=q4:=by rw [←hH4.out]
      have k2:H4.b=⟨last2,bs2,[]⟩:=by rw [←hH4.out]
      rw [hH4.out] at HSI;have HB4:=Lib.hid k2
      obtain ⟨ya,yb,yp,yl,yf,yg,yh,HSN⟩:∃ (a b d e:Int) (g h i:Bool),Hid (senseA H4.p = .agg #[vi a,vi b,.bool true,vi d,vi e,vi sid,.bool g,.bool h,.bool i]):=⟨H4.p.height,H4.p.ext,H4.p.people,H4.p.lift,H4.p.full H4.p.ext,H4.p.full (H4.p.ext - 1),H4.p.full (H4.p.ext+1),by
       unfold Hid senseA
       rw [k1,G6.out,G7.out]⟩
      have hwf4:=HSI.out.wf
      have HHM:Hid (∀ s∈bs2,H4.p.slots s.home=s.car.id):=fun s hs=>by rw [k1];exact F9.out s hs
      have hhu:H4.p.hurt=false:=by rw [k1];exact G8.out
      have HHU:Hid (∀ w',Ext wr w'→Calls Tryz.prog 16 #[.pointer (some ⟨pb,0,none⟩)] w' fun r w''=>r = .returned (.bool false)∧Ext w' w''):=fun w' x'=>by
       have:=hurt_any (HSI.out.plantAt.ext x');rw [hhu] at this;exact this
      replace x1:=cell_kept HK.out x1 HNX.out;replace b1:=cell_kept HK.out b1 HNBB.out;have lx:=cell_lt x1;have lb1:=cell_lt b1;clear k1 k2 hhu hi5
      go_upto_region 24 with (go_at_call 15;(with_reducible refine (sense_val _ (HSI.out.plantAt.ext (by simp (maxDischargeDepth:=60))) hwf4 HSN).mono ?_);rintro e w1 ⟨rfl,o1,n1,rfl⟩)
      generalize hW:World.alloc _ _=w8;generalize hS:wr.heap.size+_=S
      have hx8:Ext wr w8:=by rw [←hW];exact (by simp (maxDischargeDepth:=60))
      have s2:w8.cell? ⟨S,2,none⟩=some (.bool true):=by rw [←hW,←hS];simp [go_sem]
      have s5:w8.cell? ⟨S,5,none⟩=some (vi sid):=by rw [←hW,←hS];simp [go_sem]
      replace x1:=xcell hx8 x1;replace b1:=xcell hx8 b1;have HX8:=Lib.hid hx8;clear hW hS hx8
      go_upto_region 25 with (go_at_call 12;refine (st_book ((HSI.out.ext HX8.out).ext (by simp (maxDischargeDepth:=60)))).mono ?_;rw [HB4.out];rintro r w9 ⟨y3,d3,y4,d4,rfl,t1,t2,hx9,-,-⟩;dsimp only at t1 ⊢;have HX9:Hid (Ext w8 w9):=Ext.trans (by simp (maxDischargeDepth:=60)) hx9;have T1:=Lib.hid t1;clear t1 t2 hx9)
      generalize hW:World.alloc _ _=wx;generalize hC:w9.heap.size=C
      have hx10:Ext w9 wx:=by rw [←hW];exact (by simp (maxDischargeDepth:=60))
      have c1:wx.cell? ⟨C,1,none⟩=some (.slice y3 bs2.length d3):=by rw [←hW,←hC];simp [go_sem]
      have c2:wx.cell? ⟨C,2,none⟩=some (.slice y4 0 d4):=by rw [←hW,←hC];simp [go_sem]
      have hx11:=HX9.out.trans hx10;replace s2:=xcell hx11 s2;replace s5:=xcell hx11 s5;replace x1:=xcell hx11 x1;replace b1:=xcell hx11 b1;have V1:=Lib.hid (Sl.below T1.out hx10.below);have HXX:=Lib.hid (HX8.out.trans hx11);have ls:=cell_lt s2;have lc':=cell_lt c1;have lx':=cell_lt x1;have lb':=cell_lt b1
      have hli:(bs2.length:Int)=(bs.length:Int) - 1:=by omega
      clear hW hC hx10 hx11 T1 HX8 HX9 lx lb1
      go_upto_region 28 with (go_at_call 16;(with_reducible refine (HHU.out _ (HXX.out.trans (by simp (maxDischargeDepth:=60)))).mono ?_);rintro e w1 ⟨rfl,o1,n1,rfl⟩)
      clear hli
      go_loopw [17] (fun s17 wl=>∃ m:Nat,m≤bs2.length∧s17 = .int .i64 (m:Int)∧Ext wx wl) (fun s17 _=>bs2.length - (intOf s17).toNat)
      case atStart=>exact ⟨0,Nat.zero_le _,rfl,(by simp (maxDischargeDepth:=60))⟩
      case round=>
       obtain ⟨m,hm,rfl,o,no,rfl⟩:=hrel
       by_cases hml:m<bs2.length
       ·obtain ⟨bb3,q3,s3,rfl,hs3,ds3⟩:=V1.out.get hml
        have hmem3:=HHM.out s3 (List.mem_of_getElem? hs3);obtain ⟨rt,⟨rid,⟨rl1,rl2,rl3⟩⟩,⟨rp1,rp2,rp3⟩⟩:=s3;have ds3:=at8 ds3;dsimp only at hmem3 ds3;have hq3:=cell_lt ds3.1;have e1:=ds3.2.1;have e5:=ds3.2.2.2.2.2.1;have e6:=ds3.2.2.2.2.2.2.1;have e7:=ds3.2.2.2.2.2.2.2
        have hm0:(0:Int)≤(m:Int):=by omega
        have hm1:(m:Int)<(bs2.length:Int):=by omega
        have vb:=V1.out.bound
        have hm2:(m:Int)≤(d3:Int):=by omega
        have HSV:=Lib.hid hmem3;clear hs3 hmem3 ds3
        go_upto_region 30 with fail
        (refine wp_region_ext (by kernel_rfl) (by kernel_rfl) ?_;(repeat (first|go_big_quiet_step ((intro _;go_at_call 17;exact ext_callG (at_val ((HSI.out.ext HXX.out).plantAt.ext (by simp (maxDischargeDepth:=60))) _ _ _ rid HSV) (by rintro w' ⟨o',n',rfl⟩;exact ⟨_,n',by first|(simp only [plus_plus];rfl)|(simp only [plus_plus,Array.append_assoc];rfl)|rfl⟩)))|quiet_step ((intro _;go_at_call 17;exact ext_callG (at_val ((HSI.out.ext HXX.out).plantAt.ext (by simp (maxDischargeDepth:=60))) _ _ _ rid HSV) (by rintro w' ⟨o',n',rfl⟩;exact ⟨_,n',by first|(simp only [plus_plus];rfl)|(simp only [plus_plus,Array.append_assoc];rfl)|rfl⟩)))));refine wpQuiet_nil ?_;intro _ hw';obtain ⟨oq,nq,hw''⟩:=hw';subst hw'')
        go_wp2;go_roundw
        case rel=>exact ⟨m+1,by omega,by go_num,(by simp (maxDischargeDepth:=60))⟩
        case measure=>simp [intOf];omega
       ·have hmn:¬ (m:Int)<(bs2.length:Int):=by omega
        go_wp2;go_ret;exact ⟨rfl,HXA.out.trans (HSI.out.x.trans (HXX.out.trans (by simp (maxDischargeDepth:=60))))⟩
end Go.Proofs.YtplomeacjbkgnadGreatDoor
namespace Go.Proofs.YtplomeacjbkgnadGreatDoor
open Go.ChangeShapes Go.WideShapes Go.ChangeAt Go.RowKit
theorem topFetched_libs {W:World} (hL:laidMetH Tryz.prog Rows.topFetchedRow.laid W) (hs:W.ShapedOpen Tryz.prog):Libs W:=by
 rw [Go.MakeChecks.laidMetH_plain _ _ _ (by kernel_rfl)] at hL;exact libs_of hL hs rfl rfl (by decide) rfl (by decide) (by kernel_rfl) (by kernel_rfl) (by kernel_rfl)
theorem topFetched_lifted (os:Os) (started:os.Started) (H:Type) (enc:TypeId×Value→H):
  ReturnsInHanded {} Tryz.checked os 4 .any (fun w args=>(Rows.topFetchedSpec.pre enc Tryz.prog Tryz.f4 [] false w args∧laidMetH Tryz.prog Rows.topFetchedRow.laid w)∧sizedMet enc Tryz.prog Tryz.f4 (OpenSpec.ofChange Rows.topFetchedSpec) false w args)
   (Rows.topFetchedSpec.post enc Tryz.prog Tryz.f4 false true false false):=by
 refine handed_laid_shaped (C:=Tryz.checked) (X:=fun w _=>laidMetH Tryz.prog Rows.topFetchedRow.laid w) (fun _ _ _ hh h=>h.of_heap hh) own started (by kernel_rfl) Tryz.func4
  (ChangeSpec.witness_shaped (enc:=enc) (C:=Tryz.checked) (os:=os) (X:=fun w _=>laidMetH Tryz.prog Rows.topFetchedRow.laid w) false (World.laidAll Tryz.prog os Rows.topFetchedRow.laid) #[.slice none 0 0,.slice none 0 0,.int .i64 0] 8 (World.laidAll_os _ _ _)
   (World.shaped_of_ZipB (by kernel_rfl) (by kernel_rfl)) (by kernel_rfl) (by kernel_rfl) (by kernel_rfl)
   (by rw [Go.MakeChecks.laidMetH_plain _ _ _ (by kernel_rfl)];exact laidMet_laidAll _ (by kernel_rfl) (by kernel_rfl))) ?_
 intro W base args ds gs before hval0 hW _ hL hsh
 have hval:∀ (j:Nat) t v,Tryz.f4.params[j]? = some t→args[j]? = some v→Value.okWide Tryz.prog W .any base t v:=hval0
 refine law_contract (tb:=4) laidOut Tryz.underlying4 (by kernel_rfl) rfl (fun ds hd=>?_) (by kernel_rfl) hW ?_
 ·match ds,hd with
  | [_,_,_],_=>rfl
 obtain ⟨p,q,hA0,hV,rfl,hfz,hnd⟩:=hW;have hA:DataW.TrodAll enc Tryz.prog W 0 (fun _=>true) true Tryz.f4.params.toList args.toList ds p:=hA0;rw [Tryz.params4] at hA hval;obtain ⟨v0,vs0,d0,ds0,p0,q0,hargs,rfl,rfl,h0,r0⟩:=trodAll_cons hA;obtain ⟨v1,vs1,d1,ds1,p1,q1,rfl,rfl,rfl,h1,r1⟩:=trodAll_cons r0;obtain ⟨v2,vs2,d2,ds2,p2,q2,rfl,rfl,rfl,h2,r2⟩:=trodAll_cons r1;obtain ⟨rfl,rfl,rfl⟩:=trodAll_nil r2
 obtain rfl:args=#[v0,v1,v2]:=by cases args;simp_all
 obtain ⟨a0,n0,c0,rfl⟩:=okWide_slice Tryz.underlying22 (hval 0 _ v0 rfl rfl);obtain ⟨x0,_,_,_,e0,s0,g0⟩:=rd_list (c:=3) sizeCells I64S (by decide) (fun _=>rfl) Tryz.underlying22 (by kernel_rfl) (fun ecs h=>rd_size h) (rd_of_trod h0);simp only [Value.cells,List.cons.injEq,Value.slice.injEq,and_true] at e0;obtain ⟨rfl,rfl,rfl⟩:=e0;obtain ⟨a1,n1,c1,rfl⟩:=okWide_slice Tryz.underlying23 (hval 1 _ v1 rfl rfl);obtain ⟨x1,_,_,_,e1,s1,g1⟩:=rd_list (c:=12) ractCells (RAct.Whole W) (by decide) (fun _=>rfl) Tryz.underlying23 (by kernel_rfl) (fun ecs h=>rd_actB h) (rd_of_trod h1);simp only [Value.cells,List.cons.injEq,Value.slice.injEq,and_true] at e1;obtain ⟨rfl,rfl,rfl⟩:=e1;obtain ⟨x2,rfl⟩:=okWide_int Tryz.underlying3 (hval 2 _ v2 rfl rfl);obtain ⟨_,e2,g2⟩:=rd_int Tryz.underlying3 (rd_of_trod h2)
 obtain rfl:x2=_:=by simpa [Value.cells] using e2
 exact topFetched_walk x2 s0 s1 (wholes_good g1) (topFetched_libs hL hsh)
theorem topFetched_holds:Rows.TopFetchedSaid:=
 OpenClaim.holds_of_wide 4 Tryz.f4 rfl rfl rfl rfl rfl rfl rfl ⟨rfl,rfl,rfl,rfl,rfl⟩ rfl rfl rfl rfl rfl (by kernel_rfl) Tryz.func4 (by kernel_rfl)
  (of_decide_eq_true (by kernel_rfl)) (by unfold Func.isWrapper;first|(rw [if_pos (by decide +kernel)];kernel_rfl)|(rw [if_neg (by decide +kernel)];exact ⟨rfl,rfl⟩))
  (fun os started H enc _=>topFetched_lifted os started H enc)
theorem topFetched_proved:Rows.TopFetchedCardSaid:=
 Claim7.holds_tied_plain_at .later [] [.data,.data,.data,.data,.sentinel,.sentinel,.pinned] true Rows.topFetchedCard.stood.harness true
  topFetched_holds (fun _ h=>by cases h) (by kernel_rfl) (fun _ h=>by cases h) topFetched_row_tie rfl ⟨rfl,rfl⟩ (by kernel_rfl) rfl
  (fun f fn hf hfn=>by
   obtain rfl:f=4:=Option.some.inj ((show Tryz.prog.funcNamed Tryz.f4.name=some 4 by kernel_rfl).symm.trans hf) |>.symm
   obtain rfl:fn=Tryz.f4:=(Option.some.inj (Tryz.func4.symm.trans hfn)).symm
   have hall:(Tryz.f4.params.toList.all fun u=>!Tryz.prog.wantsStandIn u)=true:=by kernel_rfl
   exact ⟨by kernel_rfl,fun j t ht=>by
    have hm:t∈Tryz.f4.params.toList:=Array.mem_toList_iff.2 (Array.mem_of_getElem? ht)
    exact (show Tryz.prog.wantsStandIn t=false by simpa using List.all_eq_true.1 hall t hm)⟩)
  (by kernel_rfl)
#print axioms topFetched_proved
end Go.Proofs.YtplomeacjbkgnadGreatDoor
