/-
  'TopEnd' holds, and its card: the law's Go text answers true, whatever the input; what it lists is tied to the program's text. No conditions.
-/
import Derived.Test.YtplomeacjbkgnadGreatDoorZ49
import Derived.Test.YtplomeacjbkgnadGreatDoorRows
import Derived.Test.YtplomeacjbkgnadGreatDoorTie
import Derived.Test.YtplomeacjbkgnadGreatDoorCards
import Derived.Test.YtplomeacjbkgnadGreatDoorZ48
import Derived.SevenTiedAt
import Derived.Shelf.Lay
import Derived.Lay
import Derived.LaidOnce
import Derived.Stop.Joined
set_option linter.unusedSimpArgs false
set_option linter.unusedVariables false
set_option maxRecDepth 100000
set_option maxHeartbeats 16000000

namespace Go.Proofs.YtplomeacjbkgnadGreatDoor
open Go.RowKit
theorem topEnd_walk {la:Option Addr} {ln lc:Nat} {sizes:List Ch.Size} {a:Option Addr} {n cap:Nat} {l:List RAct} {w:World} (hl:Sl w 3 sizeCells sizes la ln lc) (h:Sl w 12 ractCells l a n cap) (hg:∀ x∈l,x.Good) (L:Libs w):
  Calls Tryz.prog 3 #[.slice la ln lc,.slice a n cap] w fun e w'=>e = .returned (.bool true)∧Ext w w':=by
 have lbd:=hl.bound;have abd:=h.bound;have HF:=Lib.hid hl;have HA:=Lib.hid h;have HG:=Lib.hid hg;have HL:=Lib.hid L;clear hl h hg L;go_enter Tryz.func3,Tryz.ntmps3;go_wp2_with (go_at_call 7;(with_reducible refine (works_any _ (HL.out.ext (by simp (maxDischargeDepth:=60)))).mono ?_);rintro e w1 ⟨rfl,o1,n1,rfl⟩)
 go_at_call 8
 refine (ready_now (Sl.below HF.out (Ext.below (by simp (maxDischargeDepth:=60)))) (Sl.below HA.out (Ext.below (by simp (maxDischargeDepth:=60)))) HG.out (HL.out.ext (by simp (maxDischargeDepth:=60)))).mono ?_;rintro e wB (⟨rfl,hx⟩|⟨pb,mb,db,lb0,hb0,rfl,hlf,h60,wA,hxA,hs⟩)
 ·go_wp2_with fail
  go_ret;exact ⟨rfl,Ext.trans (by simp (maxDischargeDepth:=60)) (hx.trans (by simp (maxDischargeDepth:=60)))⟩
 have HXA:Hid (Ext w wA):=Ext.trans (by simp (maxDischargeDepth:=60)) hxA;have HXB:Hid (Ext wA wB):=hs.x;have HS0:=Lib.hid hs;have HLA:=Lib.hid (HL.out.ext HXA.out);have HFA:=Lib.hid (Sl.below HF.out HXA.out.below);have HAA:=Lib.hid (Sl.below HA.out HXA.out.below);have hlen:=hl_len HF.out;clear hxA hs HF HA HL
 go_upto_region 8 with fail
 go_loopw [8,9] (fun s1 s2 wr=>∃ (j lb hb:Nat),j≤n∧s1 = .pointer (some ⟨hb,0,none⟩)∧s2 = .int .i64 (j:Int)∧Hid (St wA NoN pb mb db lb hb (acted (Ch.House.new sizes) l j) (2+60 * j) wr)) (fun _ i2 _=>n - (intOf i2).toNat)
 case atStart=>exact ⟨0,lb0,hb0,Nat.zero_le _,rfl,rfl,HS0.out.ext (by simp (maxDischargeDepth:=60))⟩
 case round=>
  obtain ⟨j,lb,hb,hj,rfl,rfl,HSR⟩:=hrel
  by_cases hlt:j<n
  ·obtain ⟨bA,qA,x,rfl,hx,dx⟩:=(Sl.below HAA.out HSR.out.x.below).get hlt
   have dx:=at12 dx;have gx:=HG.out x (List.mem_of_getElem? hx);have HXJ:=Lib.hid hx;have hqA:=cell_lt dx.1;obtain ⟨dx0,dx1,dx2,dx3,dx4,dx5,dx6,dx7,dx8,dx9,dx10,dx11⟩:=dx
   have hj0:(0:Int)≤(j:Int):=by omega
   have hj1:(j:Int)<(n:Int):=by omega
   have hj2:(j:Int)≤(cap:Int):=by omega
   clear hx;go_wp2_with (go_at_call 9;refine (play_now (HSR.out.ext (by simp (maxDischargeDepth:=60))) (by omega) HLA.out x gx (by rw [acted_sizes];exact HFA.out)).mono ?_;rintro r w2 ⟨lb2,hb2,rfl,-,hs2⟩;have HS2:=Lib.hid hs2;clear hs2);go_roundw
   case rel=>exact ⟨j+1,lb2,hb2,by omega,rfl,by go_num,by unfold Hid;rw [acted_succ HXJ.out];exact (HS2.out.ext (by simp (maxDischargeDepth:=60))).more (by omega)⟩
   case measure=>simp [intOf];omega
  ·have hjn:j=n:=by omega
   have hnlt:¬ (j:Int)<(n:Int):=by omega
   have hEnd:Ch.Live.House.Ended (Ch.Live.House.settle (acted (Ch.House.new sizes) l j)):=HSR.out.inv.rests.ended
   have hszs:(Ch.Live.House.settle (acted (Ch.House.new sizes) l j)).sizes=sizes:=by show (Ch.Live.settleN 2500 0 (acted (Ch.House.new sizes) l j)).sizes=sizes;rw [settleN_sizes,acted_sizes];rfl
   go_upto_region 12 with (go_at_call 10;refine (settle_now (HSR.out.ext (by simp (maxDischargeDepth:=60))) (by omega) HLA.out.tab).mono ?_;rintro r w3 ⟨rfl,-,hs3⟩;have HS3:=Lib.hid hs3;clear hs3)
   generalize hH:Ch.Live.House.settle (acted (Ch.House.new sizes) l j)=H at HS3 hEnd hszs;clear hH;have HEN:=Lib.hid hEnd;have HSZ:=Lib.hid hszs;clear hEnd hszs;go_wp2_with (go_at_call 11;(with_reducible refine (ended_now (HS3.out.ext (by simp (maxDischargeDepth:=60))) HEN.out (by rw [HSZ.out];exact HFA.out)).mono ?_);rintro e w1 ⟨rfl,o1,n1,rfl⟩);go_ret;exact ⟨rfl,HXA.out.trans (HS3.out.x.trans (by simp (maxDischargeDepth:=60)))⟩
end Go.Proofs.YtplomeacjbkgnadGreatDoor
namespace Go.Proofs.YtplomeacjbkgnadGreatDoor
open Go.ChangeShapes Go.WideShapes Go.ChangeAt Go.RowKit
theorem topEnd_libs {W:World} (hL:laidMetH Tryz.prog Rows.topEndRow.laid W) (hs:W.ShapedOpen Tryz.prog):Libs W:=by
 rw [Go.MakeChecks.laidMetH_plain _ _ _ (by kernel_rfl)] at hL;exact libs_of hL hs rfl rfl (by decide) rfl (by decide) (by kernel_rfl) (by kernel_rfl) (by kernel_rfl)
theorem topEnd_lifted (os:Os) (started:os.Started) (H:Type) (enc:TypeId×Value→H):
  ReturnsInHanded {} Tryz.checked os 3 .any (fun w args=>(Rows.topEndSpec.pre enc Tryz.prog Tryz.f3 [] false w args∧laidMetH Tryz.prog Rows.topEndRow.laid w)∧sizedMet enc Tryz.prog Tryz.f3 (OpenSpec.ofChange Rows.topEndSpec) false w args)
   (Rows.topEndSpec.post enc Tryz.prog Tryz.f3 false true false false):=by
 refine handed_laid_shaped (C:=Tryz.checked) (X:=fun w _=>laidMetH Tryz.prog Rows.topEndRow.laid w) (fun _ _ _ hh h=>h.of_heap hh) own started (by kernel_rfl) Tryz.func3
  (ChangeSpec.witness_shaped (enc:=enc) (C:=Tryz.checked) (os:=os) (X:=fun w _=>laidMetH Tryz.prog Rows.topEndRow.laid w) false (World.laidAll Tryz.prog os Rows.topEndRow.laid) #[.slice none 0 0,.slice none 0 0] 8 (World.laidAll_os _ _ _)
   (World.shaped_of_ZipB (by kernel_rfl) (by kernel_rfl)) (by kernel_rfl) (by kernel_rfl) (by kernel_rfl)
   (by rw [Go.MakeChecks.laidMetH_plain _ _ _ (by kernel_rfl)];exact laidMet_laidAll _ (by kernel_rfl) (by kernel_rfl))) ?_
 intro W base args ds gs before hval0 hW _ hL hsh
 have hval:∀ (j:Nat) t v,Tryz.f3.params[j]? = some t→args[j]? = some v→Value.okWide Tryz.prog W .any base t v:=hval0
 refine law_contract (tb:=4) laidOut Tryz.underlying4 (by kernel_rfl) rfl (fun ds hd=>?_) (by kernel_rfl) hW ?_
 ·match ds,hd with
  | [_,_],_=>rfl
 obtain ⟨p,q,hA0,hV,rfl,hfz,hnd⟩:=hW;have hA:DataW.TrodAll enc Tryz.prog W 0 (fun _=>true) true Tryz.f3.params.toList args.toList ds p:=hA0;rw [Tryz.params3] at hA hval;obtain ⟨v0,vs0,d0,ds0,p0,q0,hargs,rfl,rfl,h0,r0⟩:=trodAll_cons hA;obtain ⟨v1,vs1,d1,ds1,p1,q1,rfl,rfl,rfl,h1,r1⟩:=trodAll_cons r0;obtain ⟨rfl,rfl,rfl⟩:=trodAll_nil r1
 obtain rfl:args=#[v0,v1]:=by cases args;simp_all
 obtain ⟨a0,n0,c0,rfl⟩:=okWide_slice Tryz.underlying22 (hval 0 _ v0 rfl rfl);obtain ⟨x0,_,_,_,e0,s0,g0⟩:=rd_list (c:=3) sizeCells I64S (by decide) (fun _=>rfl) Tryz.underlying22 (by kernel_rfl) (fun ecs h=>rd_size h) (rd_of_trod h0);simp only [Value.cells,List.cons.injEq,Value.slice.injEq,and_true] at e0;obtain ⟨rfl,rfl,rfl⟩:=e0;obtain ⟨a1,n1,c1,rfl⟩:=okWide_slice Tryz.underlying23 (hval 1 _ v1 rfl rfl);obtain ⟨x1,_,_,_,e1,s1,g1⟩:=rd_list (c:=12) ractCells (RAct.Whole W) (by decide) (fun _=>rfl) Tryz.underlying23 (by kernel_rfl) (fun ecs h=>rd_actB h) (rd_of_trod h1);simp only [Value.cells,List.cons.injEq,Value.slice.injEq,and_true] at e1;obtain ⟨rfl,rfl,rfl⟩:=e1;exact topEnd_walk s0 s1 (wholes_good g1) (topEnd_libs hL hsh)
theorem topEnd_holds:Rows.TopEndSaid:=
 OpenClaim.holds_of_wide 3 Tryz.f3 rfl rfl rfl rfl rfl rfl rfl ⟨rfl,rfl,rfl,rfl,rfl⟩ rfl rfl rfl rfl rfl (by kernel_rfl) Tryz.func3 (by kernel_rfl)
  (of_decide_eq_true (by kernel_rfl)) (by unfold Func.isWrapper;first|(rw [if_pos (by decide +kernel)];kernel_rfl)|(rw [if_neg (by decide +kernel)];exact ⟨rfl,rfl⟩))
  (fun os started H enc _=>topEnd_lifted os started H enc)
theorem topEnd_proved:Rows.TopEndCardSaid:=
 Claim7.holds_tied_plain_at .later [] [.data,.data,.data,.data,.sentinel,.sentinel,.pinned] true Rows.topEndCard.stood.harness true
  topEnd_holds (fun _ h=>by cases h) (by kernel_rfl) (fun _ h=>by cases h) topEnd_row_tie rfl ⟨rfl,rfl⟩ (by kernel_rfl) rfl
  (fun f fn hf hfn=>by
   obtain rfl:f=3:=Option.some.inj ((show Tryz.prog.funcNamed Tryz.f3.name=some 3 by kernel_rfl).symm.trans hf) |>.symm
   obtain rfl:fn=Tryz.f3:=(Option.some.inj (Tryz.func3.symm.trans hfn)).symm
   have hall:(Tryz.f3.params.toList.all fun u=>!Tryz.prog.wantsStandIn u)=true:=by kernel_rfl
   exact ⟨by kernel_rfl,fun j t ht=>by
    have hm:t∈Tryz.f3.params.toList:=Array.mem_toList_iff.2 (Array.mem_of_getElem? ht)
    exact (show Tryz.prog.wantsStandIn t=false by simpa using List.all_eq_true.1 hall t hm)⟩)
  (by kernel_rfl)
#print axioms topEnd_proved
end Go.Proofs.YtplomeacjbkgnadGreatDoor
