/-
  'TopRest' holds, and its card: the law's Go text answers true, whatever the input; what it lists is tied to the program's text. No conditions.
-/
import Derived.Test.YtplomeacjbkgnacGreatDoorZ48
import Derived.Deep.DeepCutAuto
import Derived.Test.YtplomeacjbkgnacGreatDoorRows
import Derived.Test.YtplomeacjbkgnacGreatDoorTie
import Derived.Test.YtplomeacjbkgnacGreatDoorCards
import Derived.SevenTiedAt
import Derived.Shelf.Lay
import Derived.Lay
import Derived.LaidOnce
import Derived.Stop.Joined
set_option linter.unusedSimpArgs false
set_option linter.unusedVariables false
set_option maxRecDepth 100000
set_option maxHeartbeats 16000000

namespace Go.Proofs.YtplomeacjbkgnacGreatDoor
open Go.RowKit
theorem topRest_walk (more:Int) {la:Option Addr} {ln lc:Nat} {sizes:List Ch.Size} {a:Option Addr} {n cap:Nat} {l:List RAct} {w:World} (hl:Sl w 3 sizeCells sizes la ln lc) (h:Sl w 12 ractCells l a n cap) (hg:∀ x∈l,x.Good) (L:Libs w):
  Calls Tryz.prog 8 #[.slice la ln lc,.slice a n cap,vi more] w fun e w'=>e = .returned (.bool true)∧Ext w w':=by
 have lbd:=hl.bound;have abd:=h.bound;have HF:=Lib.hid hl;have HA:=Lib.hid h;have HG:=Lib.hid hg;have HL:=Lib.hid L;clear hl h hg L;go_enter Tryz.func8,Tryz.ntmps8;go_wp2_with (go_at_call 10;(with_reducible refine (works_any _ (HL.out.ext (by simp (maxDischargeDepth:=60)))).mono ?_);rintro e w1 ⟨rfl,o1,n1,rfl⟩)
 go_at_call 11
 refine (ready_now (Sl.below HF.out (Ext.below (by simp (maxDischargeDepth:=60)))) (Sl.below HA.out (Ext.below (by simp (maxDischargeDepth:=60)))) HG.out (HL.out.ext (by simp (maxDischargeDepth:=60)))).mono ?_;rintro e wB (⟨rfl,hx⟩|⟨pb,mb,db,lb0,hb0,rfl,hlf,h60,wA,hxA,hs⟩)
 ·go_wp2_with fail
  go_ret;exact ⟨rfl,Ext.trans (by simp (maxDischargeDepth:=60)) (hx.trans (by simp (maxDischargeDepth:=60)))⟩
 have HXA:Hid (Ext w wA):=Ext.trans (by simp (maxDischargeDepth:=60)) hxA;have HXB:Hid (Ext wA wB):=hs.x;have HS0:=Lib.hid hs;have HLA:=Lib.hid (HL.out.ext HXA.out);have HFA:=Lib.hid (Sl.below HF.out HXA.out.below);have HAA:=Lib.hid (Sl.below HA.out HXA.out.below);have hlen:=hl_len HF.out;clear hxA hs HF HA HL
 go_upto_region 8 with fail
 go_loopw [10,11] (fun s1 s2 wr=>∃ (j lb hb:Nat),j≤n∧s1 = .pointer (some ⟨hb,0,none⟩)∧s2 = .int .i64 (j:Int)∧Hid (St wA NoN pb mb db lb hb (acted (Ch.House.new sizes) l j) (2+60 * j) wr)) (fun _ i2 _=>n - (intOf i2).toNat)
 case atStart=>exact ⟨0,lb0,hb0,Nat.zero_le _,rfl,rfl,HS0.out.ext (by simp (maxDischargeDepth:=60))⟩
 case round=>
  obtain ⟨j,lb,hb,hj,rfl,rfl,HSR⟩:=hrel
  by_cases hlt:j<n
  ·obtain ⟨bA,qA,x,rfl,hx,dx⟩:=(Sl.below HAA.out HSR.out.x.below).get hlt
   have dx:=at12 dx;have gx:=HG.out x (List.mem_of_getElem? hx);have HXJ:=Lib.hid hx;have hqA:=cell_lt dx.1;obtain ⟨dx0,dx1,dx2,dx3,dx4,dx5,dx6,dx7,dx8,dx9,dx10,dx11⟩:=dx
   have hj0:(0:Int)≤(j:Int):=by omega
   have hj1:(j:Int)<(n:Int):=by omega
   have hj2:(j:Int)≤(cap:Int):=by omega
   clear hx;go_wp2_with (go_at_call 14;refine (play_now (HSR.out.ext (by simp (maxDischargeDepth:=60))) (by omega) HLA.out x gx (by rw [acted_sizes];exact HFA.out)).mono ?_;rintro r w2 ⟨lb2,hb2,rfl,-,hs2⟩;have HS2:=Lib.hid hs2;clear hs2);go_roundw
   case rel=>exact ⟨j+1,lb2,hb2,by omega,rfl,by go_num,by unfold Hid;rw [acted_succ HXJ.out];exact (HS2.out.ext (by simp (maxDischargeDepth:=60))).more (by omega)⟩
   case measure=>simp [intOf];omega
  ·have hjn:j=n:=by omega
   have hnlt:¬ (j:Int)<(n:Int):=by omega
   go_upto_region 12 with (go_at_call 27;refine (settle_now (HSR.out.ext (by simp (maxDischargeDepth:=60))) (by omega) HLA.out.tab).mono ?_;rintro r w3 ⟨rfl,-,hs3⟩;have HS3:=Lib.hid hs3;clear hs3)
   have hRest:Ch.Live.House.Rest (Ch.Live.House.settle (acted (Ch.House.new sizes) l j)):=HSR.out.inv.rests;have HRT:Hid ((Ch.Live.House.settle (acted (Ch.House.new sizes) l j)).tick=Ch.Live.House.settle (acted (Ch.House.new sizes) l j)):=Ch.Live.rest_tick hRest.goals hRest.lift hRest.spare hRest.jobs hRest.door;have HGN:Hid ((Ch.Live.House.settle (acted (Ch.House.new sizes) l j)).goals=[]):=hRest.goals;clear hRest;generalize hH:Ch.Live.House.settle (acted (Ch.House.new sizes) l j)=H at HRT HGN HS3;clear hH
   obtain ⟨ze,zd,zp,zl,zb,zf,zg,zh,zi,HSV⟩:∃ (a b:Int) (c:Bool) (d e f:Int) (g h i:Bool),Hid (senseA H.p = .agg #[vi a,vi b,.bool c,vi d,vi e,vi f,.bool g,.bool h,.bool i]):=⟨_,_,_,_,_,_,_,_,_,rfl⟩
   have hwfH:=HS3.out.wf
   go_upto_region 13 with (go_at_call 18;(with_reducible refine (sense_val _ (HS3.out.plantAt.ext (by simp (maxDischargeDepth:=60))) hwfH HSV).mono ?_);rintro e w1 ⟨rfl,o1,n1,rfl⟩)
   generalize hW:World.alloc _ _=w4;generalize hA:w3.heap.size+_=A
   have hx4:Ext w3 w4:=by rw [←hW];exact (by simp (maxDischargeDepth:=60))
   have a0:w4.cell? ⟨A,0,none⟩=some (vi ze):=by rw [←hW,←hA];simp [go_sem]
   have a1:w4.cell? ⟨A,1,none⟩=some (vi zd):=by rw [←hW,←hA];simp [go_sem]
   have a2:w4.cell? ⟨A,2,none⟩=some (.bool zp):=by rw [←hW,←hA];simp [go_sem]
   have a3:w4.cell? ⟨A,3,none⟩=some (vi zl):=by rw [←hW,←hA];simp [go_sem]
   have a4:w4.cell? ⟨A,4,none⟩=some (vi zb):=by rw [←hW,←hA];simp [go_sem]
   have a5:w4.cell? ⟨A,5,none⟩=some (vi zf):=by rw [←hW,←hA];simp [go_sem]
   have a6:w4.cell? ⟨A,6,none⟩=some (.bool zg):=by rw [←hW,←hA];simp [go_sem]
   have a7:w4.cell? ⟨A,7,none⟩=some (.bool zh):=by rw [←hW,←hA];simp [go_sem]
   have a8:w4.cell? ⟨A,8,none⟩=some (.bool zi):=by rw [←hW,←hA];simp [go_sem]
   have hA1:w3.heap.size≤A:=by omega
   have HX4:=Lib.hid hx4;clear hW hA hx4
   obtain ⟨last,bs,js,HBK⟩:∃ (a:Int) (b:List Ch.Stay) (c:List Ch.Job),Hid (H.b=⟨a,b,c⟩):=⟨_,_,_,rfl⟩
   go_upto_region 14 with (go_at_call 21;refine (st_book ((HS3.out.ext HX4.out).ext (by simp (maxDischargeDepth:=60)))).mono ?_;rw [HBK.out];rintro r w5 ⟨y1,d1,y2,d2,rfl,t1,t2,hx5,n1,n2⟩;dsimp only at t1 t2 ⊢;have HX5:Hid (Ext w4 w5):=Ext.trans (by simp (maxDischargeDepth:=60)) hx5;have T1:=Lib.hid t1;have T2:=Lib.hid t2;have M1:=Lib.hid n1;have M2:=Lib.hid n2;clear t1 t2 hx5 n1 n2)
   generalize hW:World.alloc _ _=w6;generalize hB:w5.heap.size=B
   have hx65:Ext w5 w6:=by rw [←hW];exact (by simp (maxDischargeDepth:=60))
   have b0:w6.cell? ⟨B,0,none⟩=some (vi last):=by rw [←hW,←hB];simp [go_sem]
   have b1:w6.cell? ⟨B,1,none⟩=some (.slice y1 bs.length d1):=by rw [←hW,←hB];simp [go_sem]
   have b2:w6.cell? ⟨B,2,none⟩=some (.slice y2 js.length d2):=by rw [←hW,←hB];simp [go_sem]
   have hx46:=HX5.out.trans hx65;have hx36:=HX4.out.trans hx46;have z4:=HX4.out.below.size
   have hB1:w3.heap.size≤B:=by rw [←hB];have:=HX5.out.below.size;omega
   replace a0:=xcell hx46 a0;replace a1:=xcell hx46 a1;replace a2:=xcell hx46 a2;replace a3:=xcell hx46 a3;replace a4:=xcell hx46 a4;replace a5:=xcell hx46 a5;replace a6:=xcell hx46 a6;replace a7:=xcell hx46 a7;replace a8:=xcell hx46 a8;have U1:=Lib.hid (Sl.below T1.out hx65.below);have U2:=Lib.hid (Sl.below T2.out hx65.below)
   have V1:Hid (∀ g o,y1=some ⟨g,o,none⟩→w3.heap.size≤g):=fun g o e=>Nat.le_trans (by first|omega|(simp;omega)) (M1.out g o e)
   have V2:Hid (∀ g o,y2=some ⟨g,o,none⟩→w3.heap.size≤g):=fun g o e=>Nat.le_trans (by first|omega|(simp;omega)) (M2.out g o e)
   obtain ⟨N,hN,hs6⟩:∃ N:Nat→Prop,(∀ i,w3.heap.size≤i→i<w6.heap.size→N i)∧St wA N pb mb db lb hb H (2+60 * j+2500) w6:=⟨_,fun i h1 h2=>Or.inr ⟨h1,h2⟩,HS3.out.own hx36⟩
   have HS6:=Lib.hid hs6;have la6:=cell_lt a0;have lb6:=cell_lt b0
   have HNA:Hid (¬ Own0 wA N A):=fun hh=>hh.2 (hN A hA1 la6)
   have HNB:Hid (¬ Own0 wA N B):=fun hh=>hh.2 (hN B hB1 lb6)
   have HN1:Hid (0<bs.length→∀ b o,y1=some ⟨b,o,none⟩→¬ Own0 wA N b):=fun h0 b o e hh=>hh.2 (hN b (V1.out b o e) (by subst e;exact Sl.block_ltC U1.out h0 (by intro s;simp [stayCells])))
   have HN2:Hid (0<js.length→∀ b o,y2=some ⟨b,o,none⟩→¬ Own0 wA N b):=fun h0 b o e hh=>hh.2 (hN b (V2.out b o e) (by subst e;exact Sl.block_ltC U2.out h0 (by intro s;simp [jobCells])))
   clear hW hB hx65 hx46 hx36 hs6 T1 T2 M1 M2 V1 V2 HX4 HX5 HS3 z4
   go_upto_region 15 with fail
   go_loopw [14] (fun s14 wq=>∃ i:Nat,s14 = .int .i64 (i:Int)∧Hid (i≤63)∧Hid (Kept (Own0 wA N) w6 wq)∧Hid (St wA N pb mb db lb hb H (2+60 * j+2500+i) wq)) (fun s14 _=>64 - (intOf s14).toNat)
   case atStart=>exact ⟨0,rfl,by unfold Hid;decide,Kept.refl _ _,HS6.out⟩
   case round=>
    obtain ⟨i,rfl,HI,HK,HSI⟩:=hrel;have hi:=HI.out;have h63:bits BinOp.and IntKind.i64 more 63≤63:=(and_small more 63 (by decide)).2;have hwfI:=HSI.out.wf
    by_cases hlt2:(i:Int)<bits BinOp.and IntKind.i64 more 63
    ·have hk2:2+60 * j+2500+i+2<4294967296:=by omega
     go_wp2_with (go_at_call 17;refine (st_tick (HSI.out.ext (by simp (maxDischargeDepth:=60))) hk2 HLA.out.tab).mono ?_;rw [HRT.out];rintro r w7 ⟨rfl,hk7,hs7⟩;have HK7:Hid (Kept (Own0 wA N) w6 w7):=HK.out.trans ((Kept.of_ext (by simp (maxDischargeDepth:=60)):Kept (Own0 wA N) wr _).trans hk7);have HS7:=Lib.hid hs7;clear hk7 hs7);go_roundw
     case rel=>exact ⟨i+1,by go_num,by unfold Hid;omega,HK7.out.trans (Kept.of_ext (by simp (maxDischargeDepth:=60))),HS7.out.ext (by simp (maxDischargeDepth:=60))⟩
     case measure=>simp [intOf];omega
    ·have hle2:bits BinOp.and IntKind.i64 more 63≤(i:Int):=by omega
     replace a0:=cell_kept HK.out a0 HNA.out;replace a1:=cell_kept HK.out a1 HNA.out;replace a2:=cell_kept HK.out a2 HNA.out;replace a3:=cell_kept HK.out a3 HNA.out;replace a4:=cell_kept HK.out a4 HNA.out;replace a5:=cell_kept HK.out a5 HNA.out;replace a6:=cell_kept HK.out a6 HNA.out;replace a7:=cell_kept HK.out a7 HNA.out;replace a8:=cell_kept HK.out a8 HNA.out;replace b0:=cell_kept HK.out b0 HNB.out;replace b1:=cell_kept HK.out b1 HNB.out;replace b2:=cell_kept HK.out b2 HNB.out;have U3:=Lib.hid (U1.out.keptS HK.out HN1.out);have U4:=Lib.hid (U2.out.keptS HK.out HN2.out);have la7:=cell_lt a0;have lb7:=cell_lt b0
     have hq:=fun w=>eqlSensed w ze zd zp zl zb zf zg zh zi
     go_upto_region 19 with fail
     go_region_held3 (fun w'=>w'.cell? ⟨A,0,none⟩=some (vi ze)∧w'.cell? ⟨A,1,none⟩=some (vi zd)∧w'.cell? ⟨A,2,none⟩=some (.bool zp)∧w'.cell? ⟨A,3,none⟩=some (vi zl)∧w'.cell? ⟨A,4,none⟩=some (vi zb)∧w'.cell? ⟨A,5,none⟩=some (vi zf)∧w'.cell? ⟨A,6,none⟩=some (.bool zg)∧w'.cell? ⟨A,7,none⟩=some (.bool zh)∧w'.cell? ⟨A,8,none⟩=some (.bool zi)∧w'.cell? ⟨B,0,none⟩=some (vi last)∧w'.cell? ⟨B,1,none⟩=some (.slice y1 bs.length d1)∧w'.cell? ⟨B,2,none⟩=some (.slice y2 js.length d2)) (first|((try dsimp only);(repeat' apply And.intro) <;> (refine xcell (w:=wr) ?_ (by assumption);simp (maxDischargeDepth:=60);done))) (first
      | (go_at_call 18;(with_reducible refine (sense_val _ (HSI.out.plantAt.ext (by simp (maxDischargeDepth:=60))) hwfI HSV).mono ?_);rintro e w1 ⟨rfl,o1,n1,rfl⟩)
      | (go_at_call 21;refine (st_book (HSI.out.ext (by simp (maxDischargeDepth:=60)))).mono ?_;rw [HBK.out];rintro r w8 ⟨y3,d3,y4,d4,rfl,t1,t2,⟨o8,n8,rfl⟩,-,-⟩;dsimp only at t1 t2 ⊢;have T3:=Lib.hid t1;have T4:=Lib.hid t2;clear t1 t2)
      | (go_at_call 28;(with_reducible refine (sameBook_yes _ _ _ _ _ _ _ _ _ _ _ bs js _ (Sl.below T3.out (Ext.below (by simp (maxDischargeDepth:=60)))) (Sl.below T4.out (Ext.below (by simp (maxDischargeDepth:=60)))) (Sl.below U3.out (Ext.below (by simp (maxDischargeDepth:=60)))) (Sl.below U4.out (Ext.below (by simp (maxDischargeDepth:=60))))).mono ?_);rintro e w1 ⟨rfl,o1,n1,rfl⟩)
      | (go_at_call 29;refine (st_goals (HSI.out.ext (by simp (maxDischargeDepth:=60)))).mono ?_;rw [HGN.out];rintro r w9 ⟨ga,gc,rfl,-,⟨o9,n9,rfl⟩⟩;dsimp only [List.length_nil]))
     all_goals
      go_wp2;go_ret;exact ⟨rfl,HXA.out.trans (HSI.out.x.trans (by simp (maxDischargeDepth:=60)))⟩
end Go.Proofs.YtplomeacjbkgnacGreatDoor
namespace Go.Proofs.YtplomeacjbkgnacGreatDoor
open Go.ChangeShapes Go.WideShapes Go.ChangeAt Go.RowKit
theorem topRest_libs {W:World} (hL:laidMetH Tryz.prog Rows.topRestRow.laid W) (hs:W.ShapedOpen Tryz.prog):Libs W:=by
 rw [Go.MakeChecks.laidMetH_plain _ _ _ (by kernel_rfl)] at hL;exact libs_of hL hs rfl rfl (by decide) rfl (by decide) (by kernel_rfl) (by kernel_rfl) (by kernel_rfl)
theorem topRest_lifted (os:Os) (started:os.Started) (H:Type) (enc:TypeId×Value→H):
  ReturnsInHanded {} Tryz.checked os 8 .any (fun w args=>(Rows.topRestSpec.pre enc Tryz.prog Tryz.f8 [] false w args∧laidMetH Tryz.prog Rows.topRestRow.laid w)∧sizedMet enc Tryz.prog Tryz.f8 (OpenSpec.ofChange Rows.topRestSpec) false w args)
   (Rows.topRestSpec.post enc Tryz.prog Tryz.f8 false true false false):=by
 refine handed_laid_shaped (C:=Tryz.checked) (X:=fun w _=>laidMetH Tryz.prog Rows.topRestRow.laid w) (fun _ _ _ hh h=>h.of_heap hh) own started (by kernel_rfl) Tryz.func8
  (ChangeSpec.witness_shaped (enc:=enc) (C:=Tryz.checked) (os:=os) (X:=fun w _=>laidMetH Tryz.prog Rows.topRestRow.laid w) false (World.laidAll Tryz.prog os Rows.topRestRow.laid) #[.slice none 0 0,.slice none 0 0,.int .i64 0] 8 (World.laidAll_os _ _ _)
   (World.shaped_of_ZipB (by kernel_rfl) (by kernel_rfl)) (by kernel_rfl) (by kernel_rfl) (by kernel_rfl)
   (by rw [Go.MakeChecks.laidMetH_plain _ _ _ (by kernel_rfl)];exact laidMet_laidAll _ (by kernel_rfl) (by kernel_rfl))) ?_
 intro W base args ds gs before hval0 hW _ hL hsh
 have hval:∀ (j:Nat) t v,Tryz.f8.params[j]? = some t→args[j]? = some v→Value.okWide Tryz.prog W .any base t v:=hval0
 refine law_contract (tb:=4) laidOut Tryz.underlying4 (by kernel_rfl) rfl (fun ds hd=>?_) (by kernel_rfl) hW ?_
 ·match ds,hd with
  | [_,_,_],_=>rfl
 obtain ⟨p,q,hA0,hV,rfl,hfz,hnd⟩:=hW;have hA:DataW.TrodAll enc Tryz.prog W 0 (fun _=>true) true Tryz.f8.params.toList args.toList ds p:=hA0;rw [Tryz.params8] at hA hval;obtain ⟨v0,vs0,d0,ds0,p0,q0,hargs,rfl,rfl,h0,r0⟩:=trodAll_cons hA;obtain ⟨v1,vs1,d1,ds1,p1,q1,rfl,rfl,rfl,h1,r1⟩:=trodAll_cons r0;obtain ⟨v2,vs2,d2,ds2,p2,q2,rfl,rfl,rfl,h2,r2⟩:=trodAll_cons r1;obtain ⟨rfl,rfl,rfl⟩:=trodAll_nil r2
 obtain rfl:args=#[v0,v1,v2]:=by cases args;simp_all
 obtain ⟨a0,n0,c0,rfl⟩:=okWide_slice Tryz.underlying22 (hval 0 _ v0 rfl rfl);obtain ⟨x0,_,_,_,e0,s0,g0⟩:=rd_list (c:=3) sizeCells I64S (by decide) (fun _=>rfl) Tryz.underlying22 (by kernel_rfl) (fun ecs h=>rd_size h) (rd_of_trod h0);simp only [Value.cells,List.cons.injEq,Value.slice.injEq,and_true] at e0;obtain ⟨rfl,rfl,rfl⟩:=e0;obtain ⟨a1,n1,c1,rfl⟩:=okWide_slice Tryz.underlying23 (hval 1 _ v1 rfl rfl);obtain ⟨x1,_,_,_,e1,s1,g1⟩:=rd_list (c:=12) ractCells (RAct.Whole W) (by decide) (fun _=>rfl) Tryz.underlying23 (by kernel_rfl) (fun ecs h=>rd_actB h) (rd_of_trod h1);simp only [Value.cells,List.cons.injEq,Value.slice.injEq,and_true] at e1;obtain ⟨rfl,rfl,rfl⟩:=e1;obtain ⟨x2,rfl⟩:=okWide_int Tryz.underlying3 (hval 2 _ v2 rfl rfl);obtain ⟨_,e2,g2⟩:=rd_int Tryz.underlying3 (rd_of_trod h2)
 obtain rfl:x2=_:=by simpa [Value.cells] using e2
 exact topRest_walk x2 s0 s1 (wholes_good g1) (topRest_libs hL hsh)
theorem topRest_holds:Rows.TopRestSaid:=
 OpenClaim.holds_of_wide 8 Tryz.f8 rfl rfl rfl rfl rfl rfl rfl ⟨rfl,rfl,rfl,rfl,rfl⟩ rfl rfl rfl rfl rfl (by kernel_rfl) Tryz.func8 (by kernel_rfl)
  (of_decide_eq_true (by kernel_rfl)) (by unfold Func.isWrapper;first|(rw [if_pos (by decide +kernel)];kernel_rfl)|(rw [if_neg (by decide +kernel)];exact ⟨rfl,rfl⟩))
  (fun os started H enc _=>topRest_lifted os started H enc)
theorem topRest_proved:Rows.TopRestCardSaid:=
 Claim7.holds_tied_plain_at .later [] [.data,.data,.data,.data,.sentinel,.sentinel,.pinned] true Rows.topRestCard.stood.harness true
  topRest_holds (fun _ h=>by cases h) (by kernel_rfl) (fun _ h=>by cases h) topRest_row_tie rfl ⟨rfl,rfl⟩ (by kernel_rfl) rfl
  (fun f fn hf hfn=>by
   obtain rfl:f=8:=Option.some.inj ((show Tryz.prog.funcNamed Tryz.f8.name=some 8 by kernel_rfl).symm.trans hf) |>.symm
   obtain rfl:fn=Tryz.f8:=(Option.some.inj (Tryz.func8.symm.trans hfn)).symm
   have hall:(Tryz.f8.params.toList.all fun u=>!Tryz.prog.wantsStandIn u)=true:=by kernel_rfl
   exact ⟨by kernel_rfl,fun j t ht=>by
    have hm:t∈Tryz.f8.params.toList:=Array.mem_toList_iff.2 (Array.mem_of_getElem? ht)
    exact (show Tryz.prog.wantsStandIn t=false by simpa using List.all_eq_true.1 hall t hm)⟩)
  (by kernel_rfl)
#print axioms topRest_proved
end Go.Proofs.YtplomeacjbkgnacGreatDoor
