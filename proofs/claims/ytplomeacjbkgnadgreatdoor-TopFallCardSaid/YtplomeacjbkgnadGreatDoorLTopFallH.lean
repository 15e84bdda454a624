/-
  'TopFall' holds, and its card: the law's Go text answers true, whatever the input; what it lists is tied to the program's text. No conditions.
-/
import Derived.Test.YtplomeacjbkgnadGreatDoorZ53
import Derived.Test.YtplomeacjbkgnadGreatDoorRows
import Derived.Test.YtplomeacjbkgnadGreatDoorTie
import Derived.Test.YtplomeacjbkgnadGreatDoorCards
import Derived.Test.YtplomeacjbkgnadGreatDoorZ48
import Derived.SevenTiedAt
import Derived.Shelf.Lay
import Derived.Lay
import Derived.LaidOnce
import Derived.Stop.Joined
set_option linter.unusedSimpArgs false
set_option linter.unusedVariables false
set_option maxRecDepth 100000
set_option maxHeartbeats 16000000

namespace Go.Proofs.YtplomeacjbkgnadGreatDoor
open Go.RowKit
theorem topFall_walk (fuse:Int) (keep:Nat) (hfu:-9223372036854775808≤fuse∧fuse≤9223372036854775807) (hkp:keep<18446744073709551616) {la:Option Addr} {ln lc:Nat} {sizes:List Ch.Size} {a:Option Addr} {n cap:Nat} {l:List RAct} {w:World} (hl:Sl w 3 sizeCells sizes la ln lc) (h:Sl w 12 ractCells l a n cap) (hg:∀ x∈l,x.Good) (L:Libs w):
  Calls Tryz.prog 6 #[.slice la ln lc,.slice a n cap,vi fuse,.int .u64 (keep:Int)] w fun e w'=>e = .returned (.bool true)∧Ext w w':=by
 have lbd:=hl.bound;have abd:=h.bound;have HF:=Lib.hid hl;have HA:=Lib.hid h;have HG:=Lib.hid hg;have HL:=Lib.hid L;clear hl h hg L;go_enter Tryz.func6,Tryz.ntmps6;go_wp2_with (go_at_call 7;(with_reducible refine (works_any _ (HL.out.ext (by simp (maxDischargeDepth:=60)))).mono ?_);rintro e w1 ⟨rfl,o1,n1,rfl⟩)
 go_at_call 8
 refine (ready_now (Sl.below HF.out (Ext.below (by simp (maxDischargeDepth:=60)))) (Sl.below HA.out (Ext.below (by simp (maxDischargeDepth:=60)))) HG.out (HL.out.ext (by simp (maxDischargeDepth:=60)))).mono ?_;rintro e wB (⟨rfl,hx⟩|⟨pb,mb,db,lb0,hb0,rfl,hlf,h60,wA,hxA,hs⟩)
 ·go_wp2_with fail
  go_ret;exact ⟨rfl,Ext.trans (by simp (maxDischargeDepth:=60)) (hx.trans (by simp (maxDischargeDepth:=60)))⟩
 have HXA:Hid (Ext w wA):=Ext.trans (by simp (maxDischargeDepth:=60)) hxA;have HXB:Hid (Ext wA wB):=hs.x;have HS0:=Lib.hid hs;have HLA:=Lib.hid (HL.out.ext HXA.out);have HFA:=Lib.hid (Sl.below HF.out HXA.out.below);have HAA:=Lib.hid (Sl.below HA.out HXA.out.below);have hlen:=hl_len HF.out;clear hxA hs HF HA HL
 obtain ⟨fz,hfz⟩:∃ fz,Hid (min (max fuse (-1)) 500=fz):=⟨_,rfl⟩
 have fz1:-1≤fz∧fz≤500:=by rw [←hfz.out];omega
 obtain ⟨fz2,fz3⟩:=fz1;obtain ⟨y0,hy0,u0,f0,e0,sd0⟩:=HS0.out;have SD0:=Lib.hid sd0
 have M1:Hid (Mid sizes 2 { y0 with d:=y0.d.arm fz }):=⟨Or.inl (up_arm u0 fz (by omega)),e0,(by show y0.d.wait.length≤1000;rw [u0.calm.none];exact Nat.zero_le _),(by show y0.h.sizes=sizes;rw [hy0];rfl)⟩
 clear hy0 u0 f0 e0 sd0 HS0
 go_upto_region 8 with (go_at_call 21;refine (sd_arm (SD0.out.ext (by simp (maxDischargeDepth:=60))) _ (by omega)).mono ?_;rw [hfz.out];rintro r w1 ⟨rfl,-,hs1⟩;have SD1:=Lib.hid hs1;clear hs1)
 generalize hY:(Ch.Live.HD.mk y0.h y0.e (y0.d.arm fz))=y1 at SD1 M1;clear hY SD0
 go_upto_region 9 with fail
 go_loopw [12,13] (fun s1 s2 wr=>∃ (j:Nat) (y:Ch.Live.HD),j≤n∧s1 = .pointer (some ⟨hb0,0,none⟩)∧s2 = .int .i64 (j:Int)∧Hid (Mid sizes (2+60 * j) y)∧Hid (SD wA NoN pb mb db lb0 hb0 y wr)) (fun _ i2 _=>n - (intOf i2).toNat)
 case atStart=>exact ⟨0,y1,Nat.zero_le _,rfl,rfl,M1.out,SD1.out.ext (by simp (maxDischargeDepth:=60))⟩
 case round=>
  obtain ⟨j,y,hj,rfl,rfl,HM,HSD⟩:=hrel;have hme:=HM.out.e
  by_cases hgo:j<n∧y.d.down=false
  ·obtain ⟨hlt,hdn⟩:=hgo
   have HUP:Hid (y.Up 22):=by
    rcases HM.out.way with h|h
    ·exact h
    ·rw [h.down] at hdn;cases hdn
   have HDN:=Lib.hid hdn;clear hdn;obtain ⟨bA,qA,x,rfl,hx,dx⟩:=HAA.out.get hlt;have dx:=at12 dx;have gx:=HG.out x (List.mem_of_getElem? hx);have HXJ:=Lib.hid hx;obtain ⟨dx0,dx1,dx2,dx3,dx4,dx5,dx6,dx7,dx8,dx9,dx10,dx11⟩:=dx;have hqA:=cell_lt dx0
   have hj0:(0:Int)≤(j:Int):=by omega
   have hj1:(j:Int)<(n:Int):=by omega
   have hj2:(j:Int)≤(cap:Int):=by omega
   clear hx;have ex0:=xcell HSD.out.ex dx0;have ex1:=xcell HSD.out.ex dx1;have ex2:=xcell HSD.out.ex dx2;have ex3:=xcell HSD.out.ex dx3;have ex4:=xcell HSD.out.ex dx4;have ex5:=xcell HSD.out.ex dx5;have ex6:=xcell HSD.out.ex dx6;have ex7:=xcell HSD.out.ex dx7;have ex8:=xcell HSD.out.ex dx8;have ex9:=xcell HSD.out.ex dx9;have ex10:=xcell HSD.out.ex dx10;have ex11:=xcell HSD.out.ex dx11;have exl:=cell_lt ex0
   by_cases hk:x.kind=Ch.kOpen
   ·rw [hk] at ex0
    unfold Ch.kOpen at ex0;go_wp2_with (go_at_call 22;refine (sd_down (HSD.out.ext (by simp (maxDischargeDepth:=60))) false HDN.out).mono ?_;rintro e wd ⟨rfl,od,nd,rfl⟩);go_roundw
    case rel=>exact ⟨j+1,y,by omega,rfl,by go_num,⟨HM.out.way,by omega,HM.out.wait,HM.out.sizes⟩,HSD.out.ext (by simp (maxDischargeDepth:=60))⟩
    case measure=>simp [intOf];omega
   ·have hks:(x.kind.toList==[111,112,101,110])=false:=str_ne hk
    have HK:=Lib.hid hk;clear hk
    go_wp2_with (first
     | (go_at_call 22;refine (sd_down (HSD.out.ext (by simp (maxDischargeDepth:=60))) false HDN.out).mono ?_;rintro e wd ⟨rfl,od,nd,rfl⟩)
     | (go_at_call 9;refine (playD_now (HSD.out.ext (by simp (maxDischargeDepth:=60))) HUP.out (by omega) HLA.out.tab x gx HK.out _ _ _).mono ?_;rintro r w2 ⟨rfl,-,hs2⟩;have HS2:=Lib.hid hs2;clear hs2))
    go_roundw
    case rel=>exact ⟨j+1,y.play x.act,by omega,rfl,by go_num,(by have h:=HM.out.play HUP.out (by omega) x.act HK.out;exact ⟨h.way,by have:=h.e;omega,h.wait,h.sizes⟩),HS2.out.ext (by simp (maxDischargeDepth:=60))⟩
    case measure=>simp [intOf];omega
  ·obtain ⟨e2,b2,he2,hcal,hfu2,hhol,hinv⟩:=Ch.Live.HD.again HM.out.way keep
   have hq:∃ y5,({ y with d:=y.d.restart keep }:Ch.Live.HD)=y5∧y5.d.Calm 22∧y5.d.fuse=-1∧Ch.Holds y5.d.now y5.h.n e2 b2∧Ch.Live.House.Inv2 { y5.h with b:=b2,goals:=[] }∧y5.h.sizes=sizes:=⟨_,rfl,hcal,hfu2,hhol,hinv,HM.out.sizes⟩
   clear hcal hfu2 hhol hinv;obtain ⟨y5,hy5,hcal,hfu2,hhol,hinv,hsz5⟩:=hq;have HY5:=Lib.hid hy5;have HCAL:=Lib.hid hcal;have HFU:=Lib.hid hfu2;have HHOL:=Lib.hid hhol;have HINV:=Lib.hid hinv;have HSZ5:=Lib.hid hsz5;have HLV:Hid (Ch.levelsFault y5.h.sizes=0):=hinv.inv.lv;have hEnd:Ch.Live.House.Ended (Ch.Live.House.settle { y5.h with b:=b2,goals:=[] }):=hinv.rests.ended
   have hszs:(Ch.Live.House.settle { y5.h with b:=b2,goals:=[] }).sizes=sizes:=by
    show (Ch.Live.settleN 2500 0 { y5.h with b:=b2,goals:=[] }).sizes=sizes;rw [settleN_sizes];exact hsz5
   obtain ⟨H7,hh7⟩:∃ H,Ch.Live.House.settle { y5.h with b:=b2,goals:=[] }=H:=⟨_,rfl⟩
   have HH7:=Lib.hid hh7;rw [hh7] at hEnd hszs;have HEN:=Lib.hid hEnd;have HSZ7:=Lib.hid hszs;clear hy5 hcal hfu2 hhol hinv hsz5 hEnd hszs hh7
   by_cases hlt:j<n
   ·have HDN:Hid (y.d.down=true):=by
     cases hd:y.d.down
     ·exact absurd ⟨hlt,hd⟩ hgo
     ·rfl
    clear hgo
    go_wp2_with (first
     | (go_at_call 22;refine (sd_down (HSD.out.ext (by simp (maxDischargeDepth:=60))) true HDN.out).mono ?_;rintro e wd ⟨rfl,od,nd,rfl⟩)
     | (go_at_call 23;refine (sd_restart (HSD.out.ext (by simp (maxDischargeDepth:=60))) keep hkp (by have:=HM.out.wait;omega)).mono ?_;rintro e w5 ⟨rfl,-,hs5⟩;rw [HY5.out] at hs5;have HS5:=Lib.hid hs5;clear hs5)
     | (go_at_call 18;refine (sd_new (HS5.out.ext (by simp (maxDischargeDepth:=60))) HLV.out HCAL.out HFU.out HHOL.out HINV.out (by rw [HSZ5.out];exact HFA.out) HLA.out).mono ?_;rintro r w6 ⟨hb6,lb6,rfl,hx6,hs6⟩;have HX6:Hid (Ext w5 w6):=Ext.trans (by simp (maxDischargeDepth:=60)) hx6;have HS6:=Lib.hid hs6;clear hx6 hs6)
     | (go_at_call 10;refine (settle_now (HS6.out.ext (by simp (maxDischargeDepth:=60))) (by omega) HLA.out.tab).mono ?_;rintro r w7 ⟨rfl,-,hs7⟩;have HS7:=Lib.hid hs7;clear hs7;rw [HH7.out] at HS7)
     | (go_at_call 11;(with_reducible refine (ended_now (HS7.out.ext (by simp (maxDischargeDepth:=60))) HEN.out (by rw [HSZ7.out];exact HFA.out)).mono ?_);rintro e w1 ⟨rfl,o1,n1,rfl⟩))
    go_ret;exact ⟨rfl,HXA.out.trans (HS7.out.x.trans (by simp (maxDischargeDepth:=60)))⟩
   ·have hnlt:¬ (j:Int)<(n:Int):=by omega
    clear hgo
    go_wp2_with (first
     | fail
     | (go_at_call 23;refine (sd_restart (HSD.out.ext (by simp (maxDischargeDepth:=60))) keep hkp (by have:=HM.out.wait;omega)).mono ?_;rintro e w5 ⟨rfl,-,hs5⟩;rw [HY5.out] at hs5;have HS5:=Lib.hid hs5;clear hs5)
     | (go_at_call 18;refine (sd_new (HS5.out.ext (by simp (maxDischargeDepth:=60))) HLV.out HCAL.out HFU.out HHOL.out HINV.out (by rw [HSZ5.out];exact HFA.out) HLA.out).mono ?_;rintro r w6 ⟨hb6,lb6,rfl,hx6,hs6⟩;have HX6:Hid (Ext w5 w6):=Ext.trans (by simp (maxDischargeDepth:=60)) hx6;have HS6:=Lib.hid hs6;clear hx6 hs6)
     | (go_at_call 10;refine (settle_now (HS6.out.ext (by simp (maxDischargeDepth:=60))) (by omega) HLA.out.tab).mono ?_;rintro r w7 ⟨rfl,-,hs7⟩;have HS7:=Lib.hid hs7;clear hs7;rw [HH7.out] at HS7)
     | (go_at_call 11;(with_reducible refine (ended_now (HS7.out.ext (by simp (maxDischargeDepth:=60))) HEN.out (by rw [HSZ7.out];exact HFA.out)).mono ?_);rintro e w1 ⟨rfl,o1,n1,rfl⟩))
    go_ret;exact ⟨rfl,HXA.out.trans (HS7.out.x.trans (by simp (maxDischargeDepth:=60)))⟩
end Go.Proofs.YtplomeacjbkgnadGreatDoor
namespace Go.Proofs.YtplomeacjbkgnadGreatDoor
open Go.ChangeShapes Go.WideShapes Go.ChangeAt Go.RowKit
theorem topFall_libs {W:World} (hL:laidMetH Tryz.prog Rows.topFallRow.laid W) (hs:W.ShapedOpen Tryz.prog):Libs W:=by
 rw [Go.MakeChecks.laidMetH_plain _ _ _ (by kernel_rfl)] at hL;exact libs_of hL hs rfl rfl (by decide) rfl (by decide) (by kernel_rfl) (by kernel_rfl) (by kernel_rfl)
theorem topFall_lifted (os:Os) (started:os.Started) (H:Type) (enc:TypeId×Value→H):
  ReturnsInHanded {} Tryz.checked os 6 .any (fun w args=>(Rows.topFallSpec.pre enc Tryz.prog Tryz.f6 [] false w args∧laidMetH Tryz.prog Rows.topFallRow.laid w)∧sizedMet enc Tryz.prog Tryz.f6 (OpenSpec.ofChange Rows.topFallSpec) false w args)
   (Rows.topFallSpec.post enc Tryz.prog Tryz.f6 false true false false):=by
 refine handed_laid_shaped (C:=Tryz.checked) (X:=fun w _=>laidMetH Tryz.prog Rows.topFallRow.laid w) (fun _ _ _ hh h=>h.of_heap hh) own started (by kernel_rfl) Tryz.func6
  (ChangeSpec.witness_shaped (enc:=enc) (C:=Tryz.checked) (os:=os) (X:=fun w _=>laidMetH Tryz.prog Rows.topFallRow.laid w) false (World.laidAll Tryz.prog os Rows.topFallRow.laid) #[.slice none 0 0,.slice none 0 0,.int .i64 0,.int .u64 0] 8 (World.laidAll_os _ _ _)
   (World.shaped_of_ZipB (by kernel_rfl) (by kernel_rfl)) (by kernel_rfl) (by kernel_rfl) (by kernel_rfl)
   (by rw [Go.MakeChecks.laidMetH_plain _ _ _ (by kernel_rfl)];exact laidMet_laidAll _ (by kernel_rfl) (by kernel_rfl))) ?_
 intro W base args ds gs before hval0 hW _ hL hsh
 have hval:∀ (j:Nat) t v,Tryz.f6.params[j]? = some t→args[j]? = some v→Value.okWide Tryz.prog W .any base t v:=hval0
 refine law_contract (tb:=4) laidOut Tryz.underlying4 (by kernel_rfl) rfl (fun ds hd=>?_) (by kernel_rfl) hW ?_
 ·match ds,hd with
  | [_,_,_,_],_=>rfl
 obtain ⟨p,q,hA0,hV,rfl,hfz,hnd⟩:=hW;have hA:DataW.TrodAll enc Tryz.prog W 0 (fun _=>true) true Tryz.f6.params.toList args.toList ds p:=hA0;rw [Tryz.params6] at hA hval;obtain ⟨v0,vs0,d0,ds0,p0,q0,hargs,rfl,rfl,h0,r0⟩:=trodAll_cons hA;obtain ⟨v1,vs1,d1,ds1,p1,q1,rfl,rfl,rfl,h1,r1⟩:=trodAll_cons r0;obtain ⟨v2,vs2,d2,ds2,p2,q2,rfl,rfl,rfl,h2,r2⟩:=trodAll_cons r1;obtain ⟨v3,vs3,d3,ds3,p3,q3,rfl,rfl,rfl,h3,r3⟩:=trodAll_cons r2;obtain ⟨rfl,rfl,rfl⟩:=trodAll_nil r3
 obtain rfl:args=#[v0,v1,v2,v3]:=by cases args;simp_all
 obtain ⟨a0,n0,c0,rfl⟩:=okWide_slice Tryz.underlying22 (hval 0 _ v0 rfl rfl);obtain ⟨x0,_,_,_,e0,s0,g0⟩:=rd_list (c:=3) sizeCells I64S (by decide) (fun _=>rfl) Tryz.underlying22 (by kernel_rfl) (fun ecs h=>rd_size h) (rd_of_trod h0);simp only [Value.cells,List.cons.injEq,Value.slice.injEq,and_true] at e0;obtain ⟨rfl,rfl,rfl⟩:=e0;obtain ⟨a1,n1,c1,rfl⟩:=okWide_slice Tryz.underlying23 (hval 1 _ v1 rfl rfl);obtain ⟨x1,_,_,_,e1,s1,g1⟩:=rd_list (c:=12) ractCells (RAct.Whole W) (by decide) (fun _=>rfl) Tryz.underlying23 (by kernel_rfl) (fun ecs h=>rd_actB h) (rd_of_trod h1);simp only [Value.cells,List.cons.injEq,Value.slice.injEq,and_true] at e1;obtain ⟨rfl,rfl,rfl⟩:=e1;obtain ⟨x2,rfl⟩:=okWide_int Tryz.underlying3 (hval 2 _ v2 rfl rfl);obtain ⟨_,e2,g2⟩:=rd_int Tryz.underlying3 (rd_of_trod h2)
 obtain rfl:x2=_:=by simpa [Value.cells] using e2
 obtain ⟨x3,rfl⟩:=okWide_int Tryz.underlying35 (hval 3 _ v3 rfl rfl);obtain ⟨_,e3,g3,gg3⟩:=rd_u64 Tryz.underlying35 (rd_of_trod h3)
 obtain rfl:x3=_:=by simpa [Value.cells] using e3
 exact by
  obtain ⟨k3,rfl⟩:=Int.eq_ofNat_of_zero_le g3;exact topFall_walk x2 k3 g2 (by omega) s0 s1 (wholes_good g1) (topFall_libs hL hsh)
theorem topFall_holds:Rows.TopFallSaid:=
 OpenClaim.holds_of_wide 6 Tryz.f6 rfl rfl rfl rfl rfl rfl rfl ⟨rfl,rfl,rfl,rfl,rfl⟩ rfl rfl rfl rfl rfl (by kernel_rfl) Tryz.func6 (by kernel_rfl)
  (of_decide_eq_true (by kernel_rfl)) (by unfold Func.isWrapper;first|(rw [if_pos (by decide +kernel)];kernel_rfl)|(rw [if_neg (by decide +kernel)];exact ⟨rfl,rfl⟩))
  (fun os started H enc _=>topFall_lifted os started H enc)
theorem topFall_proved:Rows.TopFallCardSaid:=
 Claim7.holds_tied_plain_at .later [] [.data,.data,.data,.data,.sentinel,.sentinel,.pinned] true Rows.topFallCard.stood.harness true
  topFall_holds (fun _ h=>by cases h) (by kernel_rfl) (fun _ h=>by cases h) topFall_row_tie rfl ⟨rfl,rfl⟩ (by kernel_rfl) rfl
  (fun f fn hf hfn=>by
   obtain rfl:f=6:=Option.some.inj ((show Tryz.prog.funcNamed Tryz.f6.name=some 6 by kernel_rfl).symm.trans hf) |>.symm
   obtain rfl:fn=Tryz.f6:=(Option.some.inj (Tryz.func6.symm.trans hfn)).symm
   have hall:(Tryz.f6.params.toList.all fun u=>!Tryz.prog.wantsStandIn u)=true:=by kernel_rfl
   exact ⟨by kernel_rfl,fun j t ht=>by
    have hm:t∈Tryz.f6.params.toList:=Array.mem_toList_iff.2 (Array.mem_of_getElem? ht)
    exact (show Tryz.prog.wantsStandIn t=false by simpa using List.all_eq_true.1 hall t hm)⟩)
  (by kernel_rfl)
#print axioms topFall_proved
end Go.Proofs.YtplomeacjbkgnadGreatDoor
