/-
  'TopAgain' holds, and its card: the law's Go text answers true, whatever the input; what it lists is tied to the program's text. No conditions.
-/
import Derived.Test.YtplomeacjbkgnadGreatDoorZ49
import Derived.Test.YtplomeacjbkgnadGreatDoorRows
import Derived.Test.YtplomeacjbkgnadGreatDoorTie
import Derived.Test.YtplomeacjbkgnadGreatDoorCards
import Derived.Test.YtplomeacjbkgnadGreatDoorZ48
import Derived.SevenTiedAt
import Derived.Shelf.Lay
import Derived.Lay
import Derived.LaidOnce
import Derived.Stop.Joined
set_option linter.unusedSimpArgs false
set_option linter.unusedVariables false
set_option maxRecDepth 100000
set_option maxHeartbeats 16000000

namespace Go.Proofs.YtplomeacjbkgnadGreatDoor
open Go.RowKit
theorem topAgain_walk (often:Int) {la:Option Addr} {ln lc:Nat} {sizes:List Ch.Size} {a:Option Addr} {n cap:Nat} {l:List RAct} {w:World} (hl:Sl w 3 sizeCells sizes la ln lc) (h:Sl w 12 ractCells l a n cap) (hg:∀ x∈l,x.Good) (L:Libs w):
  Calls Tryz.prog 5 #[.slice la ln lc,.slice a n cap,vi often] w fun e w'=>e = .returned (.bool true)∧Ext w w':=by
 have lbd:=hl.bound;have abd:=h.bound;have HF:=Lib.hid hl;have HA:=Lib.hid h;have HG:=Lib.hid hg;have HL:=Lib.hid L;clear hl h hg L;go_enter Tryz.func5,Tryz.ntmps5;go_wp2_with (go_at_call 7;(with_reducible refine (works_any _ (HL.out.ext (by simp (maxDischargeDepth:=60)))).mono ?_);rintro e w1 ⟨rfl,o1,n1,rfl⟩)
 go_at_call 8
 refine (ready_now (Sl.below HF.out (Ext.below (by simp (maxDischargeDepth:=60)))) (Sl.below HA.out (Ext.below (by simp (maxDischargeDepth:=60)))) HG.out (HL.out.ext (by simp (maxDischargeDepth:=60)))).mono ?_;rintro e wB (⟨rfl,hx⟩|⟨pb,mb,db,lb0,hb0,rfl,hlf,h60,wA,hxA,hs⟩)
 ·go_wp2_with fail
  go_ret;exact ⟨rfl,Ext.trans (by simp (maxDischargeDepth:=60)) (hx.trans (by simp (maxDischargeDepth:=60)))⟩
 have HXA:Hid (Ext w wA):=Ext.trans (by simp (maxDischargeDepth:=60)) hxA;have HXB:Hid (Ext wA wB):=hs.x;have HS0:=Lib.hid hs;have HLA:=Lib.hid (HL.out.ext HXA.out);have HFA:=Lib.hid (Sl.below HF.out HXA.out.below);have HAA:=Lib.hid (Sl.below HA.out HXA.out.below);have hlen:=hl_len HF.out;clear hxA hs HF HA HL;have h7:0≤bits BinOp.and IntKind.i64 often 7∧bits BinOp.and IntKind.i64 often 7≤7:=and_small often 7 (by decide);obtain ⟨h70,h71⟩:=h7
 obtain ⟨O,HO⟩:∃ O,Hid (bits BinOp.and IntKind.i64 often 7=O):=⟨_,rfl⟩
 rw [HO.out] at h70 h71
 obtain ⟨M,HM⟩:∃ M,Hid (wrap64 (1+O)=M):=⟨_,rfl⟩
 have hM:M=1+O:=by rw [←HM.out];unfold wrap64;omega
 have hM1:1≤M:=by omega
 have hM8:M≤8:=by omega
 have hM0:¬ M=0:=by omega
 clear hM
 go_upto_region 9 with fail
 rw [HO.out,HM.out]
 go_loopw [10,12] (fun s1 s2 wr=>∃ (j lb hb:Nat) (h':Ch.House),j≤n∧s1 = .pointer (some ⟨hb,0,none⟩)∧s2 = .int .i64 (j:Int)∧Hid (h'.sizes=sizes)∧Hid (St wA NoN pb mb db lb hb h' (2+60 * j) wr)) (fun _ i2 _=>n - (intOf i2).toNat)
 case atStart=>exact ⟨0,lb0,hb0,Ch.House.new sizes,Nat.zero_le _,rfl,rfl,rfl,HS0.out.ext (by simp (maxDischargeDepth:=60))⟩
 case round=>
  obtain ⟨j,lb,hb,h',hj,rfl,rfl,HSZ,HSR⟩:=hrel
  by_cases hlt:j<n
  ·obtain ⟨bA,qA,x,rfl,hx,dx⟩:=HAA.out.get hlt
   have dx:=at12 dx;have gx:=HG.out x (List.mem_of_getElem? hx);have HXJ:=Lib.hid hx;obtain ⟨dx0,dx1,dx2,dx3,dx4,dx5,dx6,dx7,dx8,dx9,dx10,dx11⟩:=dx;have hqA:=cell_lt dx0
   have hj0:(0:Int)≤(j:Int):=by omega
   have hj1:(j:Int)<(n:Int):=by omega
   have hj2:(j:Int)≤(cap:Int):=by omega
   clear hx;have ex0:=xcell HSR.out.x dx0;have ex1:=xcell HSR.out.x dx1;have ex2:=xcell HSR.out.x dx2;have ex3:=xcell HSR.out.x dx3;have ex4:=xcell HSR.out.x dx4;have ex5:=xcell HSR.out.x dx5;have ex6:=xcell HSR.out.x dx6;have ex7:=xcell HSR.out.x dx7;have ex8:=xcell HSR.out.x dx8;have ex9:=xcell HSR.out.x dx9;have ex10:=xcell HSR.out.x dx10;have ex11:=xcell HSR.out.x dx11;have exl:=cell_lt ex0
   go_upto_region 12 with (go_at_call 9;refine (play_now (HSR.out.ext (by simp (maxDischargeDepth:=60))) (by omega) HLA.out x gx (by rw [HSZ.out];exact HFA.out)).mono ?_;rintro r w2 ⟨lb2,hb2,rfl,-,hs2⟩;have HS2:=Lib.hid hs2;clear hs2)
   have HSZ2:Hid ((h'.play x.act).sizes=sizes):=by unfold Hid;rw [play_sizes];exact HSZ.out
   generalize hH:h'.play x.act=H at HS2 HSZ2;clear hH ex0 ex1 ex2 ex3 ex4 ex5 ex6 ex7 ex8 ex9 ex10 ex11 exl dx0 dx1 dx2 dx3 dx4 dx5 dx6 dx7 dx8 dx9 dx10 dx11
   obtain ⟨last,bs,js,HBK⟩:∃ (a:Int) (b:List Ch.Stay) (c:List Ch.Job),Hid (H.b=⟨a,b,c⟩):=⟨_,_,_,rfl⟩
   go_wp2_with (first
    | (go_at_call 18;refine (st_new (HS2.out.ext (by simp (maxDischargeDepth:=60))) (by rw [HSZ2.out];exact HFA.out) HLA.out).mono ?_;rintro r w3 ⟨hb3,lb3,rfl,hx3,hs3⟩;have HX3:Hid (Ext w2 w3):=Ext.trans (by simp (maxDischargeDepth:=60)) hx3;have HS3:=Lib.hid hs3;have HO3:=Lib.hid (HS2.out.ext HX3.out);clear hx3 hs3)
    | (go_at_call 12;(with_reducible refine (st_book (HS3.out.ext (by simp (maxDischargeDepth:=60)))).mono ?_);dsimp only;rw [HBK.out];rintro r w8 ⟨y3,d3,y4,d4,rfl,t1,t2,hx8,-,-⟩;have HX8:Hid (Ext w3 w8):=Ext.trans (by simp (maxDischargeDepth:=60)) hx8;dsimp only at t1 t2 ⊢;have T3:=Lib.hid t1;have T4:=Lib.hid t2;clear t1 t2 hx8)
    | (go_at_call 12;(with_reducible refine (st_book (HO3.out.ext (HX8.out.trans (by simp (maxDischargeDepth:=60))))).mono ?_);rw [HBK.out];rintro r w9 ⟨y5,d5,y6,d6,rfl,t1,t2,hx9,-,-⟩;have HX9:Hid (Ext w8 w9):=Ext.trans (by simp (maxDischargeDepth:=60)) hx9;dsimp only at t1 t2 ⊢;have T5:=Lib.hid t1;have T6:=Lib.hid t2;clear t1 t2 hx9)
    | (go_at_call 19;(with_reducible refine (sameBook_yes _ _ _ _ _ _ _ _ _ _ _ bs js _ (Sl.below T3.out (HX9.out.trans (by simp (maxDischargeDepth:=60))).below) (Sl.below T4.out (HX9.out.trans (by simp (maxDischargeDepth:=60))).below) (Sl.below T5.out (Ext.below (by simp (maxDischargeDepth:=60)))) (Sl.below T6.out (Ext.below (by simp (maxDischargeDepth:=60))))).mono ?_);rintro e w1 ⟨rfl,o1,n1,rfl⟩)
    | (go_at_call 20;refine (st_goals (HS3.out.ext ((HX8.out.trans HX9.out).trans (by simp (maxDischargeDepth:=60))))).mono ?_;dsimp only;rintro r w7 ⟨ga,gc,rfl,-,⟨o7,n7,rfl⟩⟩;dsimp only [List.length_nil]))
   ·go_roundw
    case rel=>exact ⟨j+1,lb3,hb3,({ H with goals:=[] }:Ch.House),by omega,rfl,by go_num,HSZ2.out,(HS3.out.ext ((HX8.out.trans HX9.out).trans (by simp (maxDischargeDepth:=60)))).more (by omega)⟩
    case measure=>simp [intOf];omega
   ·go_roundw
    case rel=>exact ⟨j+1,lb2,hb2,H,by omega,rfl,by go_num,HSZ2.out,(HS2.out.ext (by simp (maxDischargeDepth:=60))).more (by omega)⟩
    case measure=>simp [intOf];omega
  ·have hnlt:¬ (j:Int)<(n:Int):=by omega
   have hEnd:Ch.Live.House.Ended (Ch.Live.House.settle h'):=HSR.out.inv.rests.ended
   have hszs:(Ch.Live.House.settle h').sizes=sizes:=by show (Ch.Live.settleN 2500 0 h').sizes=sizes;rw [settleN_sizes];exact HSZ.out
   go_upto_region 18 with (go_at_call 10;refine (settle_now (HSR.out.ext (by simp (maxDischargeDepth:=60))) (by omega) HLA.out.tab).mono ?_;rintro r w3 ⟨rfl,-,hs3⟩;have HS3:=Lib.hid hs3;clear hs3)
   generalize hH:Ch.Live.House.settle h'=H at HS3 hEnd hszs;clear hH;have HEN:=Lib.hid hEnd;have HSZ3:=Lib.hid hszs;clear hEnd hszs;go_wp2_with (go_at_call 11;(with_reducible refine (ended_now (HS3.out.ext (by simp (maxDischargeDepth:=60))) HEN.out (by rw [HSZ3.out];exact HFA.out)).mono ?_);rintro e w1 ⟨rfl,o1,n1,rfl⟩);go_ret;exact ⟨rfl,HXA.out.trans (HS3.out.x.trans (by simp (maxDischargeDepth:=60)))⟩
end Go.Proofs.YtplomeacjbkgnadGreatDoor
namespace Go.Proofs.YtplomeacjbkgnadGreatDoor
open Go.ChangeShapes Go.WideShapes Go.ChangeAt Go.RowKit
theorem topAgain_libs {W:World} (hL:laidMetH Tryz.prog Rows.topAgainRow.laid W) (hs:W.ShapedOpen Tryz.prog):Libs W:=by
 rw [Go.MakeChecks.laidMetH_plain _ _ _ (by kernel_rfl)] at hL;exact libs_of hL hs rfl rfl (by decide) rfl (by decide) (by kernel_rfl) (by kernel_rfl) (by kernel_rfl)
theorem topAgain_lifted (os:Os) (started:os.Started) (H:Type) (enc:TypeId×Value→H):
  ReturnsInHanded {} Tryz.checked os 5 .any (fun w args=>(Rows.topAgainSpec.pre enc Tryz.prog Tryz.f5 [] false w args∧laidMetH Tryz.prog Rows.topAgainRow.laid w)∧sizedMet enc Tryz.prog Tryz.f5 (OpenSpec.ofChange Rows.topAgainSpec) false w args)
   (Rows.topAgainSpec.post enc Tryz.prog Tryz.f5 false true false false):=by
 refine handed_laid_shaped (C:=Tryz.checked) (X:=fun w _=>laidMetH Tryz.prog Rows.topAgainRow.laid w) (fun _ _ _ hh h=>h.of_heap hh) own started (by kernel_rfl) Tryz.func5
  (ChangeSpec.witness_shaped (enc:=enc) (C:=Tryz.checked) (os:=os) (X:=fun w _=>laidMetH Tryz.prog Rows.topAgainRow.laid w) false (World.laidAll Tryz.prog os Rows.topAgainRow.laid) #[.slice none 0 0,.slice none 0 0,.int .i64 0] 8 (World.laidAll_os _ _ _)
   (World.shaped_of_ZipB (by kernel_rfl) (by kernel_rfl)) (by kernel_rfl) (by kernel_rfl) (by kernel_rfl)
   (by rw [Go.MakeChecks.laidMetH_plain _ _ _ (by kernel_rfl)];exact laidMet_laidAll _ (by kernel_rfl) (by kernel_rfl))) ?_
 intro W base args ds gs before hval0 hW _ hL hsh
 have hval:∀ (j:Nat) t v,Tryz.f5.params[j]? = some t→args[j]? = some v→Value.okWide Tryz.prog W .any base t v:=hval0
 refine law_contract (tb:=4) laidOut Tryz.underlying4 (by kernel_rfl) rfl (fun ds hd=>?_) (by kernel_rfl) hW ?_
 ·match ds,hd with
  | [_,_,_],_=>rfl
 obtain ⟨p,q,hA0,hV,rfl,hfz,hnd⟩:=hW;have hA:DataW.TrodAll enc Tryz.prog W 0 (fun _=>true) true Tryz.f5.params.toList args.toList ds p:=hA0;rw [Tryz.params5] at hA hval;obtain ⟨v0,vs0,d0,ds0,p0,q0,hargs,rfl,rfl,h0,r0⟩:=trodAll_cons hA;obtain ⟨v1,vs1,d1,ds1,p1,q1,rfl,rfl,rfl,h1,r1⟩:=trodAll_cons r0;obtain ⟨v2,vs2,d2,ds2,p2,q2,rfl,rfl,rfl,h2,r2⟩:=trodAll_cons r1;obtain ⟨rfl,rfl,rfl⟩:=trodAll_nil r2
 obtain rfl:args=#[v0,v1,v2]:=by cases args;simp_all
 obtain ⟨a0,n0,c0,rfl⟩:=okWide_slice Tryz.underlying22 (hval 0 _ v0 rfl rfl);obtain ⟨x0,_,_,_,e0,s0,g0⟩:=rd_list (c:=3) sizeCells I64S (by decide) (fun _=>rfl) Tryz.underlying22 (by kernel_rfl) (fun ecs h=>rd_size h) (rd_of_trod h0);simp only [Value.cells,List.cons.injEq,Value.slice.injEq,and_true] at e0;obtain ⟨rfl,rfl,rfl⟩:=e0;obtain ⟨a1,n1,c1,rfl⟩:=okWide_slice Tryz.underlying23 (hval 1 _ v1 rfl rfl);obtain ⟨x1,_,_,_,e1,s1,g1⟩:=rd_list (c:=12) ractCells (RAct.Whole W) (by decide) (fun _=>rfl) Tryz.underlying23 (by kernel_rfl) (fun ecs h=>rd_actB h) (rd_of_trod h1);simp only [Value.cells,List.cons.injEq,Value.slice.injEq,and_true] at e1;obtain ⟨rfl,rfl,rfl⟩:=e1;obtain ⟨x2,rfl⟩:=okWide_int Tryz.underlying3 (hval 2 _ v2 rfl rfl);obtain ⟨_,e2,g2⟩:=rd_int Tryz.underlying3 (rd_of_trod h2)
 obtain rfl:x2=_:=by simpa [Value.cells] using e2
 exact topAgain_walk x2 s0 s1 (wholes_good g1) (topAgain_libs hL hsh)
theorem topAgain_holds:Rows.TopAgainSaid:=
 OpenClaim.holds_of_wide 5 Tryz.f5 rfl rfl rfl rfl rfl rfl rfl ⟨rfl,rfl,rfl,rfl,rfl⟩ rfl rfl rfl rfl rfl (by kernel_rfl) Tryz.func5 (by kernel_rfl)
  (of_decide_eq_true (by kernel_rfl)) (by unfold Func.isWrapper;first|(rw [if_pos (by decide +kernel)];kernel_rfl)|(rw [if_neg (by decide +kernel)];exact ⟨rfl,rfl⟩))
  (fun os started H enc _=>topAgain_lifted os started H enc)
theorem topAgain_proved:Rows.TopAgainCardSaid:=
 Claim7.holds_tied_plain_at .later [] [.data,.data,.data,.data,.sentinel,.sentinel,.pinned] true Rows.topAgainCard.stood.harness true
  topAgain_holds (fun _ h=>by cases h) (by kernel_rfl) (fun _ h=>by cases h) topAgain_row_tie rfl ⟨rfl,rfl⟩ (by kernel_rfl) rfl
  (fun f fn hf hfn=>by
   obtain rfl:f=5:=Option.some.inj ((show Tryz.prog.funcNamed Tryz.f5.name=some 5 by kernel_rfl).symm.trans hf) |>.symm
   obtain rfl:fn=Tryz.f5:=(Option.some.inj (Tryz.func5.symm.trans hfn)).symm
   have hall:(Tryz.f5.params.toList.all fun u=>!Tryz.prog.wantsStandIn u)=true:=by kernel_rfl
   exact ⟨by kernel_rfl,fun j t ht=>by
    have hm:t∈Tryz.f5.params.toList:=Array.mem_toList_iff.2 (Array.mem_of_getElem? ht)
    exact (show Tryz.prog.wantsStandIn t=false by simpa using List.all_eq_true.1 hall t hm)⟩)
  (by kernel_rfl)
#print axioms topAgain_proved
end Go.Proofs.YtplomeacjbkgnadGreatDoor
