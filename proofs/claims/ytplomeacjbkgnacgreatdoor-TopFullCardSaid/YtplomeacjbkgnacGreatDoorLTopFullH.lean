/-
  'TopFull' holds, and its card: the law's Go text answers true, whatever the input; what it lists is tied to the program's text. No conditions.
-/
import Derived.Test.YtplomeacjbkgnacGreatDoorZ48
import Derived.Test.YtplomeacjbkgnacGreatDoorZ13
import Derived.Test.YtplomeacjbkgnacGreatDoorRows
import Derived.Test.YtplomeacjbkgnacGreatDoorTie
import Derived.Test.YtplomeacjbkgnacGreatDoorCards
import Derived.SevenTiedAt
import Derived.Shelf.Lay
import Derived.Lay
import Derived.LaidOnce
import Derived.Stop.Joined
set_option linter.unusedSimpArgs false
set_option linter.unusedVariables false
set_option maxRecDepth 100000
set_option maxHeartbeats 16000000

namespace Go.Proofs.YtplomeacjbkgnacGreatDoor
open Go.RowKit
theorem number8 (w:World):Calls Tryz.prog 32 #[.iface 80 (vi 8)] w fun e w'=>e = .returned (vi 8)∧Ext w w':=by
 have ht:∀ w,(Instr.typeAssert (.iface 80 (vi 8)) 43 80 true).run Tryz.prog w = .ok (.tuple #[vi 8,.bool true]) w:=fun w=>by kernel_rfl
 go_enter Tryz.func32,Tryz.ntmps32;go_wp2;go_ret;exact ⟨rfl,(by simp (maxDischargeDepth:=60))⟩
theorem acted_last {h:Ch.House} (hi:Ch.Live.House.Inv2 h) (l:List RAct):∀ j:Nat,Ch.Live.House.Inv2 (acted h l j)∧(acted h l j).b.last≤h.b.last+(j:Int)
 | 0=>⟨hi,by show h.b.last≤_;omega⟩
 | j+1=>by
  obtain ⟨h1,h2⟩:=acted_last hi l j
  cases hx:l[j]? with
  | none=>
   have e:acted h l (j+1)=acted h l j:=by
    unfold acted;rw [List.take_add_one,hx];simp
   rw [e];exact ⟨h1,by omega⟩
  | some x=>
   rw [acted_succ hx];have h3:=(Ch.Live.play_last h1.inv x.act).2.1;exact ⟨h1.play x.act,by omega⟩
theorem pick_none (last id lo hi he:Int) (a1:Option Addr) (m1 c1:Nat) (a2:Option Addr) (m2 c2:Nat) (aL:Option Addr) (nL cL:Nat) (l:List Ch.Stay) (js:List Ch.Job) (ls:List Ch.Size) (w:World)
  (h:Sl w 8 stayCells l a1 m1 c1) (h2:Sl w 2 jobCells js a2 m2 c2) (hL:Sl w 3 sizeCells ls aL nL cL) (n1':1≤nL) (n4:nL≤4) (hv:Hid (Ch.pick ⟨last,l,js⟩ ls ⟨id,⟨lo,hi,he⟩⟩=none)):
  Calls Tryz.prog 31 #[bookA last a1 m1 c1 a2 m2 c2,.slice aL nL cL,.agg #[vi id,vi lo,vi hi,vi he]] w fun e w'=>e = .returned (.tuple #[.agg #[vi 0,vi 0,vi 0],.bool false])∧Ext w w':=by
 have:=pick_any last id lo hi he a1 m1 c1 a2 m2 c2 aL nL cL l js ls w h h2 hL n1' n4;rw [hv.out] at this;exact this
theorem pick_some (a b c:Int) (last id lo hi he:Int) (a1:Option Addr) (m1 c1:Nat) (a2:Option Addr) (m2 c2:Nat) (aL:Option Addr) (nL cL:Nat) (l:List Ch.Stay) (js:List Ch.Job) (ls:List Ch.Size) (w:World)
  (h:Sl w 8 stayCells l a1 m1 c1) (h2:Sl w 2 jobCells js a2 m2 c2) (hL:Sl w 3 sizeCells ls aL nL cL) (n1':1≤nL) (n4:nL≤4) (hv:Hid (Ch.pick ⟨last,l,js⟩ ls ⟨id,⟨lo,hi,he⟩⟩=some ⟨a,b,c⟩)):
  Calls Tryz.prog 31 #[bookA last a1 m1 c1 a2 m2 c2,.slice aL nL cL,.agg #[vi id,vi lo,vi hi,vi he]] w fun e w'=>e = .returned (.tuple #[.agg #[vi a,vi b,vi c],.bool true])∧Ext w w':=by
 have:=pick_any last id lo hi he a1 m1 c1 a2 m2 c2 aL nL cL l js ls w h h2 hL n1' n4;rw [hv.out] at this;exact this
theorem settleN_sizes:∀ (n i:Nat) (h:Ch.House),(Ch.Live.settleN n i h).sizes=h.sizes
 | 0,_,_=>rfl
 | n+1,i,h=>by
  unfold Ch.Live.settleN
  split
  ·rfl
  ·rw [settleN_sizes,tick_sizes];rfl
theorem topFull_walk (ci cl ch cw:Int) {la:Option Addr} {ln lc:Nat} {sizes:List Ch.Size} {a:Option Addr} {n cap:Nat} {l:List RAct} {w:World} (hl:Sl w 3 sizeCells sizes la ln lc) (h:Sl w 12 ractCells l a n cap) (hg:∀ x∈l,x.Good) (L:Libs w):
  Calls Tryz.prog 9 #[.slice la ln lc,.slice a n cap,.agg #[vi ci,vi cl,vi ch,vi cw]] w fun e w'=>e = .returned (.bool true)∧Ext w w':=by
 have lbd:=hl.bound;have abd:=h.bound;have HF:=Lib.hid hl;have HA:=Lib.hid h;have HG:=Lib.hid hg;have HL:=Lib.hid L;clear hl h hg L;go_enter Tryz.func9,Tryz.ntmps9;go_wp2_with (go_at_call 10;(with_reducible refine (works_any _ (HL.out.ext (by simp (maxDischargeDepth:=60)))).mono ?_);rintro e w1 ⟨rfl,o1,n1,rfl⟩)
 go_at_call 11
 refine (ready_now (Sl.below HF.out (Ext.below (by simp (maxDischargeDepth:=60)))) (Sl.below HA.out (Ext.below (by simp (maxDischargeDepth:=60)))) HG.out (HL.out.ext (by simp (maxDischargeDepth:=60)))).mono ?_;rintro e wB (⟨rfl,hx⟩|⟨pb,mb,db,lb0,hb0,rfl,hlf,h60,wA,hxA,hs⟩)
 ·go_wp2_with fail
  go_ret;exact ⟨rfl,Ext.trans (by simp (maxDischargeDepth:=60)) (hx.trans (by simp (maxDischargeDepth:=60)))⟩
 have HXA:Hid (Ext w wA):=Ext.trans (by simp (maxDischargeDepth:=60)) hxA;have HXB:Hid (Ext wA wB):=hs.x;have HS0:=Lib.hid hs;have HLA:=Lib.hid (HL.out.ext HXA.out);have HFA:=Lib.hid (Sl.below HF.out HXA.out.below);have HAA:=Lib.hid (Sl.below HA.out HXA.out.below);have hlen:=hl_len HF.out;have q0:wA.cell? ⟨w.heap.size,0,none⟩=some (vi ci):=xcell hxA (by simp [go_sem]);have q1:wA.cell? ⟨w.heap.size,1,none⟩=some (vi cl):=xcell hxA (by simp [go_sem]);have q2:wA.cell? ⟨w.heap.size,2,none⟩=some (vi ch):=xcell hxA (by simp [go_sem]);have q3:wA.cell? ⟨w.heap.size,3,none⟩=some (vi cw):=xcell hxA (by simp [go_sem]);clear hxA hs HF HA HL
 go_upto_region 8 with fail
 go_loopw [10,11] (fun s1 s2 wr=>∃ (j lb hb:Nat),j≤n∧s1 = .pointer (some ⟨hb,0,none⟩)∧s2 = .int .i64 (j:Int)∧Hid (St wA NoN pb mb db lb hb (acted (Ch.House.new sizes) l j) (2+60 * j) wr)) (fun _ i2 _=>n - (intOf i2).toNat)
 case atStart=>exact ⟨0,lb0,hb0,Nat.zero_le _,rfl,rfl,HS0.out.ext (by simp (maxDischargeDepth:=60))⟩
 case round=>
  obtain ⟨j,lb,hb,hj,rfl,rfl,HSR⟩:=hrel
  by_cases hlt:j<n
  ·obtain ⟨bA,qA,x,rfl,hx,dx⟩:=(Sl.below HAA.out HSR.out.x.below).get hlt
   have dx:=at12 dx;have gx:=HG.out x (List.mem_of_getElem? hx);have HXJ:=Lib.hid hx;have hqA:=cell_lt dx.1;obtain ⟨dx0,dx1,dx2,dx3,dx4,dx5,dx6,dx7,dx8,dx9,dx10,dx11⟩:=dx
   have hj0:(0:Int)≤(j:Int):=by omega
   have hj1:(j:Int)<(n:Int):=by omega
   have hj2:(j:Int)≤(cap:Int):=by omega
   clear hx;go_wp2_with (go_at_call 14;refine (play_now (HSR.out.ext (by simp (maxDischargeDepth:=60))) (by omega) HLA.out x gx (by rw [acted_sizes];exact HFA.out)).mono ?_;rintro r w2 ⟨lb2,hb2,rfl,-,hs2⟩;have HS2:=Lib.hid hs2;clear hs2);go_roundw
   case rel=>exact ⟨j+1,lb2,hb2,by omega,rfl,by go_num,by unfold Hid;rw [acted_succ HXJ.out];exact (HS2.out.ext (by simp (maxDischargeDepth:=60))).more (by omega)⟩
   case measure=>simp [intOf];omega
  ·have hjn:j=n:=by omega
   have hnlt:¬ (j:Int)<(n:Int):=by omega
   have hlst:(Ch.Live.House.settle (acted (Ch.House.new sizes) l j)).b.last≤60:=by
    have h1:=(acted_last (Ch.Live.House.Inv2.new hlf) l j).2;have h2:=Ch.Live.settle_last 2500 0 (acted (Ch.House.new sizes) l j) HSR.out.inv.inv;have h3:(Ch.House.new sizes).b.last=0:=rfl;rw [h3] at h1;show (Ch.Live.settleN 2500 0 (acted (Ch.House.new sizes) l j)).b.last≤60;rw [h2];omega
   have hszs:(Ch.Live.House.settle (acted (Ch.House.new sizes) l j)).sizes=sizes:=by show (Ch.Live.settleN 2500 0 (acted (Ch.House.new sizes) l j)).sizes=sizes;rw [settleN_sizes,acted_sizes];rfl
   go_upto_region 12 with (go_at_call 27;refine (settle_now (HSR.out.ext (by simp (maxDischargeDepth:=60))) (by omega) HLA.out.tab).mono ?_;rintro r w3 ⟨rfl,-,hs3⟩;have HS3:=Lib.hid hs3;clear hs3)
   have hRest:Ch.Live.House.Rest (Ch.Live.House.settle (acted (Ch.House.new sizes) l j)):=HSR.out.inv.rests;generalize hH:Ch.Live.House.settle (acted (Ch.House.new sizes) l j)=H at HS3 hRest hlst hszs;clear hH;have hlv:=Ch.levels_len hlf;have v0:=xcell HS3.out.x q0;have v1:=xcell HS3.out.x q1;have v2:=xcell HS3.out.x q2;have v3:=xcell HS3.out.x q3;have vl:=cell_lt v0
   by_cases har:(H.p.arrive ci).2=0
   ·have HAR:=Lib.hid har
    by_cases hcf:Ch.carFault ⟨ci,⟨cl,ch,cw⟩⟩=0
    ·have HCV:Hid (errV (Ch.carFault ⟨ci,⟨cl,ch,cw⟩⟩) = .nilIface):=by unfold Hid;rw [hcf];rfl
     have hfull:=Ch.Live.House.Rest.full hRest (c:=⟨ci,⟨cl,ch,cw⟩⟩) hcf har (by omega);dsimp only at hfull
     obtain ⟨H2,hH2⟩:∃ H2:Ch.House,Hid (({ H with p:=(H.p.arrive ci).1 }:Ch.House)=H2):=⟨_,rfl⟩
     have hb2:H2.b=H.b:=by rw [←hH2.out]
     rw [hH2.out,hszs] at hfull;have HFU:=Lib.hid hfull;have HB2:=Lib.hid hb2;have hl00:0≤H.b.last:=hRest.inv.inv.core.book.l1;clear hfull hcf har hRest hszs hb2
     go_upto_region 14 with (first
      | (go_at_call 12;refine (arr_val (HS3.out.ext (by simp (maxDischargeDepth:=60))) ci).mono ?_;rintro r w4 ⟨rfl,hs4,-⟩;have HS4:=Lib.hid hs4;clear hs4;have r0:=xcell HS4.out.x q0;have r1:=xcell HS4.out.x q1;have r2:=xcell HS4.out.x q2;have r3:=xcell HS4.out.x q3;have rl:=cell_lt r0;rw [show errV (H.p.arrive ci).2 = .nilIface from by rw [HAR.out];rfl])
      | (go_at_call 30;(with_reducible refine (checkCar_at _ _ _ _ _ _ HCV).mono ?_);rintro e w1 ⟨rfl,o1,n1,rfl⟩))
     rw [hH2.out] at HS4
     obtain ⟨last,bs,js,HBK⟩:∃ (a:Int) (b:List Ch.Stay) (c:List Ch.Job),Hid (H2.b=⟨a,b,c⟩):=⟨_,_,_,rfl⟩
     go_upto_region 15 with (go_at_call 21;refine (st_book (HS4.out.ext (by simp (maxDischargeDepth:=60)))).mono ?_;rw [HBK.out];rintro r w3 ⟨y1,d1,y2,d2,rfl,t1,t2,hx3,-,-⟩;dsimp only at t1 t2 ⊢;have HX3:Hid (Ext w4 w3):=Ext.trans (by simp (maxDischargeDepth:=60)) hx3;have T1:=Lib.hid t1;have T2:=Lib.hid t2;clear t1 t2 hx3)
     generalize hW:World.alloc _ _=w6;generalize hB:w3.heap.size=B
     have hx34:Ext w3 w6:=by rw [←hW];exact (by simp (maxDischargeDepth:=60))
     have b0:w6.cell? ⟨B,0,none⟩=some (vi last):=by rw [←hW,←hB];simp [go_sem]
     have b1:w6.cell? ⟨B,1,none⟩=some (.slice y1 bs.length d1):=by rw [←hW,←hB];simp [go_sem]
     have b2:w6.cell? ⟨B,2,none⟩=some (.slice y2 js.length d2):=by rw [←hW,←hB];simp [go_sem]
     have U1:=Lib.hid (Sl.below T1.out hx34.below);have U2:=Lib.hid (Sl.below T2.out hx34.below);have ub1:=U1.out.bound;have ub2:=U2.out.bound;have HX4:=Lib.hid (HX3.out.trans hx34);have hBl:=cell_lt b0
     have hBge:w4.heap.size≤B:=by rw [←hB];exact HX3.out.below.size
     clear hW hB hx34 T1 T2 HX3
     obtain ⟨N,hNB,hs6⟩:∃ N:Nat→Prop,N B∧St wA N pb mb db lb hb H2 (2+60 * j+2500) w6:=⟨_,Or.inr ⟨hBge,hBl⟩,HS4.out.own HX4.out⟩
     have HS6:=Lib.hid hs6
     have HNB:Hid (¬ Own0 wA N B):=fun hh=>hh.2 hNB
     clear hs6;have u0:=xcell HS6.out.x q0;have u1:=xcell HS6.out.x q1;have u2:=xcell HS6.out.x q2;have u3:=xcell HS6.out.x q3;have ul:=cell_lt u0;have HLV:=Lib.hid (Sl.below HFA.out HS6.out.x.below)
     have hbe:H.b=⟨last,bs,js⟩:=by rw [←HB2.out];exact HBK.out
     have hff:=HFU.out;rw [hbe] at hff hl00 hlst;dsimp only at hl00 hlst;clear v0 v1 v2 v3 vl
     cases hpk:Ch.pick ⟨last,bs,js⟩ sizes ⟨ci,⟨cl,ch,cw⟩⟩ with
     | none=>
      have HPV:=Lib.hid hpk;have HPE:=Lib.hid (hff.1 hpk);clear hff hpk hbe
      go_wp2_with (first
       | (go_at_call 31;(with_reducible refine (pick_none _ _ _ _ _ _ _ _ _ _ _ _ _ _ bs js sizes _ (Sl.below U1.out (Ext.below (by simp (maxDischargeDepth:=60)))) (Sl.below U2.out (Ext.below (by simp (maxDischargeDepth:=60)))) (Sl.below HLV.out (Ext.below (by simp (maxDischargeDepth:=60)))) (by omega) (by omega) HPV).mono ?_);rintro e w1 ⟨rfl,o1,n1,rfl⟩)
       | (go_at_call 20;refine (st_park (HS6.out.ext (by simp (maxDischargeDepth:=60))) (by omega) HLA.out.tab _ _ _ _).mono ?_;rw [HPE.out];rintro r w8 ⟨rfl,-,hs8⟩;have HS8:=Lib.hid hs8;clear hs8;dsimp only;rw [show errV 8 = .iface 80 (vi 8) from rfl])
       | (go_at_call 32;(with_reducible refine (number8 _).mono ?_);rintro e w1 ⟨rfl,o1,n1,rfl⟩))
      go_ret;exact ⟨rfl,HXA.out.trans (HS8.out.x.trans (by simp (maxDischargeDepth:=60)))⟩
     | some pl=>
      obtain ⟨pa,pb',pc⟩:=pl;have HPV:=Lib.hid hpk;obtain ⟨b'',hpe⟩:=hff.2 _ hpk;have HPE:=Lib.hid hpe;clear hff hpk hbe hpe;dsimp only at HPE
      go_wp2_with (first
       | (go_at_call 31;(with_reducible refine (pick_some pa pb' pc _ _ _ _ _ _ _ _ _ _ _ _ _ _ bs js sizes _ (Sl.below U1.out (Ext.below (by simp (maxDischargeDepth:=60)))) (Sl.below U2.out (Ext.below (by simp (maxDischargeDepth:=60)))) (Sl.below HLV.out (Ext.below (by simp (maxDischargeDepth:=60)))) (by omega) (by omega) HPV).mono ?_);rintro e w1 ⟨rfl,o1,n1,rfl⟩)
       | (go_at_call 20;refine (st_park (HS6.out.ext (by simp (maxDischargeDepth:=60))) (by omega) HLA.out.tab _ _ _ _).mono ?_;rw [HPE.out];rintro r w8 ⟨rfl,hk8,hs8⟩;have HS8:=Lib.hid hs8;have nb0:=cell_kept ((Kept.of_ext (by simp (maxDischargeDepth:=60)):Kept (Own0 wA N) w6 _).trans hk8) b0 HNB.out;have nbl:=cell_lt nb0;clear hs8 hk8;dsimp only;rw [show errV 0 = .nilIface from rfl]))
      go_ret;exact ⟨rfl,HXA.out.trans (HS8.out.x.trans (by simp (maxDischargeDepth:=60)))⟩
    ·have hcv:errV (Ch.carFault ⟨ci,⟨cl,ch,cw⟩⟩) = .iface 80 (vi (Ch.carFault ⟨ci,⟨cl,ch,cw⟩⟩)):=by unfold errV;rw [if_neg hcf]
     have HCV:=Lib.hid hcv;clear hcv hRest
     go_wp2_with (first
      | (go_at_call 12;refine (arr_val (HS3.out.ext (by simp (maxDischargeDepth:=60))) ci).mono ?_;rintro r w4 ⟨rfl,hs4,-⟩;have HS4:=Lib.hid hs4;clear hs4;have r0:=xcell HS4.out.x q0;have r1:=xcell HS4.out.x q1;have r2:=xcell HS4.out.x q2;have r3:=xcell HS4.out.x q3;have rl:=cell_lt r0;rw [show errV (H.p.arrive ci).2 = .nilIface from by rw [HAR.out];rfl])
      | (go_at_call 30;(with_reducible refine (checkCar_at _ _ _ _ _ _ HCV).mono ?_);rintro e w1 ⟨rfl,o1,n1,rfl⟩))
     go_ret;exact ⟨rfl,HXA.out.trans (HS4.out.x.trans (by simp (maxDischargeDepth:=60)))⟩
   ·have hae:errV (H.p.arrive ci).2 = .iface 80 (vi (H.p.arrive ci).2):=by unfold errV;rw [if_neg har]
    have HAE:=Lib.hid hae;clear hae hRest;go_wp2_with (go_at_call 12;refine (arr_val (HS3.out.ext (by simp (maxDischargeDepth:=60))) ci).mono ?_;rintro r w4 ⟨rfl,hs4,-⟩;have HS4:=Lib.hid hs4;clear hs4;have r0:=xcell HS4.out.x q0;have r1:=xcell HS4.out.x q1;have r2:=xcell HS4.out.x q2;have r3:=xcell HS4.out.x q3;have rl:=cell_lt r0;rw [show errV (H.p.arrive ci).2 = .iface 80 (vi (H.p.arrive ci).2) from HAE.out]);go_ret;exact ⟨rfl,HXA.out.trans (HS4.out.x.trans (by simp (maxDischargeDepth:=60)))⟩
end Go.Proofs.YtplomeacjbkgnacGreatDoor
namespace Go.Proofs.YtplomeacjbkgnacGreatDoor
open Go.ChangeShapes Go.WideShapes Go.ChangeAt Go.RowKit
theorem topFull_libs {W:World} (hL:laidMetH Tryz.prog Rows.topFullRow.laid W) (hs:W.ShapedOpen Tryz.prog):Libs W:=by
 rw [Go.MakeChecks.laidMetH_plain _ _ _ (by kernel_rfl)] at hL;exact libs_of hL hs rfl rfl (by decide) rfl (by decide) (by kernel_rfl) (by kernel_rfl) (by kernel_rfl)
theorem topFull_lifted (os:Os) (started:os.Started) (H:Type) (enc:TypeId×Value→H):
  ReturnsInHanded {} Tryz.checked os 9 .any (fun w args=>(Rows.topFullSpec.pre enc Tryz.prog Tryz.f9 [] false w args∧laidMetH Tryz.prog Rows.topFullRow.laid w)∧sizedMet enc Tryz.prog Tryz.f9 (OpenSpec.ofChange Rows.topFullSpec) false w args)
   (Rows.topFullSpec.post enc Tryz.prog Tryz.f9 false true false false):=by
 refine handed_laid_shaped (C:=Tryz.checked) (X:=fun w _=>laidMetH Tryz.prog Rows.topFullRow.laid w) (fun _ _ _ hh h=>h.of_heap hh) own started (by kernel_rfl) Tryz.func9
  (ChangeSpec.witness_shaped (enc:=enc) (C:=Tryz.checked) (os:=os) (X:=fun w _=>laidMetH Tryz.prog Rows.topFullRow.laid w) false (World.laidAll Tryz.prog os Rows.topFullRow.laid) #[.slice none 0 0,.slice none 0 0,.agg #[.int .i64 0,.int .i64 0,.int .i64 0,.int .i64 0]] 8 (World.laidAll_os _ _ _)
   (World.shaped_of_ZipB (by kernel_rfl) (by kernel_rfl)) (by kernel_rfl) (by kernel_rfl) (by kernel_rfl)
   (by rw [Go.MakeChecks.laidMetH_plain _ _ _ (by kernel_rfl)];exact laidMet_laidAll _ (by kernel_rfl) (by kernel_rfl))) ?_
 intro W base args ds gs before hval0 hW _ hL hsh
 have hval:∀ (j:Nat) t v,Tryz.f9.params[j]? = some t→args[j]? = some v→Value.okWide Tryz.prog W .any base t v:=hval0
 refine law_contract (tb:=4) laidOut Tryz.underlying4 (by kernel_rfl) rfl (fun ds hd=>?_) (by kernel_rfl) hW ?_
 ·match ds,hd with
  | [_,_,_],_=>rfl
 obtain ⟨p,q,hA0,hV,rfl,hfz,hnd⟩:=hW;have hA:DataW.TrodAll enc Tryz.prog W 0 (fun _=>true) true Tryz.f9.params.toList args.toList ds p:=hA0;rw [Tryz.params9] at hA hval;obtain ⟨v0,vs0,d0,ds0,p0,q0,hargs,rfl,rfl,h0,r0⟩:=trodAll_cons hA;obtain ⟨v1,vs1,d1,ds1,p1,q1,rfl,rfl,rfl,h1,r1⟩:=trodAll_cons r0;obtain ⟨v2,vs2,d2,ds2,p2,q2,rfl,rfl,rfl,h2,r2⟩:=trodAll_cons r1;obtain ⟨rfl,rfl,rfl⟩:=trodAll_nil r2
 obtain rfl:args=#[v0,v1,v2]:=by cases args;simp_all
 obtain ⟨a0,n0,c0,rfl⟩:=okWide_slice Tryz.underlying22 (hval 0 _ v0 rfl rfl);obtain ⟨x0,_,_,_,e0,s0,g0⟩:=rd_list (c:=3) sizeCells I64S (by decide) (fun _=>rfl) Tryz.underlying22 (by kernel_rfl) (fun ecs h=>rd_size h) (rd_of_trod h0);simp only [Value.cells,List.cons.injEq,Value.slice.injEq,and_true] at e0;obtain ⟨rfl,rfl,rfl⟩:=e0;obtain ⟨a1,n1,c1,rfl⟩:=okWide_slice Tryz.underlying23 (hval 1 _ v1 rfl rfl);obtain ⟨x1,_,_,_,e1,s1,g1⟩:=rd_list (c:=12) ractCells (RAct.Whole W) (by decide) (fun _=>rfl) Tryz.underlying23 (by kernel_rfl) (fun ecs h=>rd_actB h) (rd_of_trod h1);simp only [Value.cells,List.cons.injEq,Value.slice.injEq,and_true] at e1;obtain ⟨rfl,rfl,rfl⟩:=e1;obtain ⟨x2,e2,g2⟩:=rd_car (rd_of_trod h2);obtain rfl:=arg_struct (by kernel_rfl) (hval 2 _ v2 rfl rfl) e2;exact topFull_walk _ _ _ _ s0 s1 (wholes_good g1) (topFull_libs hL hsh)
theorem topFull_holds:Rows.TopFullSaid:=
 OpenClaim.holds_of_wide 9 Tryz.f9 rfl rfl rfl rfl rfl rfl rfl ⟨rfl,rfl,rfl,rfl,rfl⟩ rfl rfl rfl rfl rfl (by kernel_rfl) Tryz.func9 (by kernel_rfl)
  (of_decide_eq_true (by kernel_rfl)) (by unfold Func.isWrapper;first|(rw [if_pos (by decide +kernel)];kernel_rfl)|(rw [if_neg (by decide +kernel)];exact ⟨rfl,rfl⟩))
  (fun os started H enc _=>topFull_lifted os started H enc)
theorem topFull_proved:Rows.TopFullCardSaid:=
 Claim7.holds_tied_plain_at .later [] [.data,.data,.data,.data,.sentinel,.sentinel,.pinned] true Rows.topFullCard.stood.harness true
  topFull_holds (fun _ h=>by cases h) (by kernel_rfl) (fun _ h=>by cases h) topFull_row_tie rfl ⟨rfl,rfl⟩ (by kernel_rfl) rfl
  (fun f fn hf hfn=>by
   obtain rfl:f=9:=Option.some.inj ((show Tryz.prog.funcNamed Tryz.f9.name=some 9 by kernel_rfl).symm.trans hf) |>.symm
   obtain rfl:fn=Tryz.f9:=(Option.some.inj (Tryz.func9.symm.trans hfn)).symm
   have hall:(Tryz.f9.params.toList.all fun u=>!Tryz.prog.wantsStandIn u)=true:=by kernel_rfl
   exact ⟨by kernel_rfl,fun j t ht=>by
    have hm:t∈Tryz.f9.params.toList:=Array.mem_toList_iff.2 (Array.mem_of_getElem? ht)
    exact (show Tryz.prog.wantsStandIn t=false by simpa using List.all_eq_true.1 hall t hm)⟩)
  (by kernel_rfl)
#print axioms topFull_proved
end Go.Proofs.YtplomeacjbkgnacGreatDoor
