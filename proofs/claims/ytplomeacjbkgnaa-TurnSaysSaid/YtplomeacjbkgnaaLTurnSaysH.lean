/-
  'TurnSays' holds: for every input the law's Go text answers true, and leaves the input as it was. No conditions.
-/
import Derived.Test.YtplomeacjbkgnaaZ39
import Derived.Test.YtplomeacjbkgnaaZ40
import Derived.Test.YtplomeacjbkgnaaZ13
import Derived.Test.YtplomeacjbkgnaaZ27
import Derived.Test.YtplomeacjbkgnaaZ41
import Derived.Test.YtplomeacjbkgnaaZ25
import Derived.Test.YtplomeacjbkgnaaRows
import Derived.Test.YtplomeacjbkgnaaZ26
set_option linter.unusedSimpArgs false
set_option linter.unusedVariables false
set_option maxRecDepth 100000
set_option maxHeartbeats 16000000

namespace Go.Proofs.Ytplomeacjbkgnaa
open Go.RowKit
theorem infoSizeT:(Try.prog.info? 42).map (fun i=>(i.zero,i.size,i.bytes))=some (some (.agg #[vi 0,vi 0,vi 0]),3,24):=by kernel_rfl
theorem turn_empty:Ch.turnOf ⟨0,[],[]⟩ 1 (Ch.Plant.new 1)=([],none):=by decide
theorem turns_any (w:World):Calls Try.prog 84 #[] w fun e w'=>e = .returned (.bool true)∧Ext w w':=by
 have HT:Hid (Ch.turnOf ⟨0,[],[]⟩ 1 (Ch.Plant.new 1)=([],none)):=turn_empty;have HWF:Hid ((Ch.Plant.new 1).WF):=Ch.Plant.WF.new (by decide) (by decide)
 have HJ:Hid (∀ j∈([]:List Ch.Job),∃ s∈([]:List Ch.Stay),s.ticket=j.ticket):=fun j h=>by cases h
 have HPL:Hid (∀ s∈([]:List Ch.Stay),Ch.placeFault s.home 1=0):=fun s h=>by cases h
 go_enter Try.func84,Try.ntmps84
 go_wp2_with (first
  | (go_at_call 76;(with_reducible refine (new_any 1 _ (by decide) (by decide)).mono ?_);rintro e w1 ⟨pb,mb,rfl,hq,hx,hb1,hb2⟩;have HQ:=Lib.hid hq;have HX1:Hid (Ext w w1):=Ext.trans (by simp (maxDischargeDepth:=60)) hx;clear hq hx)
  | (go_at_call 85;refine (turn_named [] none 0 [] [] false 0 none 0 0 none 0 0 1 pb mb [] [] (Ch.Plant.new 1) _ (Sl.nil _ _ _) (Sl.nil _ _ _) (HQ.out.ext (by simp (maxDischargeDepth:=60))) HWF.out HJ HPL (by decide) (by decide) (by decide) (by decide) HT rfl rfl).mono ?_;rintro e w2 ⟨g,gc,i1,i1',i2,i2',rfl,-,-,-,⟨o2,n2,rfl⟩⟩))
 go_ret;exact ⟨rfl,HX1.out.trans (by simp (maxDischargeDepth:=60))⟩
theorem turnSays_walk (L:Int) {a:Option Addr} {n cap:Nat} {l:List RAct} (last:Int) (a1:Option Addr) (m1 c1:Nat) (a2:Option Addr) (m2 c2:Nat) (ls:List Ch.Stay) (js:List Ch.Job) {w:World} (h:Sl w 12 ractCells l a n cap) (hg:∀ x∈l,x.Good) (h1:Sl w 8 stayCells ls a1 m1 c1) (h2:Sl w 2 jobCells js a2 m2 c2):
  Calls Try.prog 10 #[vi L,.slice a n cap,bookA last a1 m1 c1 a2 m2 c2] w fun e w'=>e = .returned (.bool true)∧Ext w w':=by
 have abd:=h.bound;have bs0:=h1.bound;have bj0:=h2.bound;have HA:=Lib.hid h;have HG:=Lib.hid hg;have HF:=Lib.hid h1;have HJ:=Lib.hid h2;have E1:=Lib.hid h1.len;have E2:=Lib.hid h2.len;clear h hg h1 h2;go_enter Try.func10,Try.ntmps10
 go_upto_region 1 with fail
 generalize hW:World.alloc _ _=w0
 have k0:w0.cell? ⟨w.heap.size,0,none⟩=some (vi last):=by rw [←hW];simp [go_sem]
 have k1:w0.cell? ⟨w.heap.size,1,none⟩=some (.slice a1 m1 c1):=by rw [←hW];simp [go_sem]
 have k2:w0.cell? ⟨w.heap.size,2,none⟩=some (.slice a2 m2 c2):=by rw [←hW];simp [go_sem]
 have hx:Ext w w0:=by rw [←hW];exact (by simp (maxDischargeDepth:=60))
 have HX:=Lib.hid hx;have HA0:=Lib.hid (Sl.below HA.out hx.below);have HS:=Lib.hid (Sl.below HF.out hx.below);have HK:=Lib.hid (Sl.below HJ.out hx.below);have z1:=cell_lt k0;clear hW hx HA HF HJ;cases hb:decide (m1≤20∧m2≤12)
 ·have HB:=Lib.hid hb
  clear hb;go_wp2_with (first|(go_at_call 84;(with_reducible refine (turns_any _).mono ?_);rintro e w1 ⟨rfl,o1,n1,rfl⟩)|(go_at_call 49;(with_reducible refine (lightActs_any _ _ _ _ l _ (Sl.below HA0.out (Ext.below (by simp (maxDischargeDepth:=60)))) HG.out).mono ?_);rintro e w2 ⟨lb,rfl,o2,n2,rfl⟩;cases lb)|(go_at_call 64;(with_reducible refine (lightBook_any false _ _ _ _ _ _ _ _ HB).mono ?_);rintro e w1 ⟨rfl,o1,n1,rfl⟩))
  all_goals
   go_ret;exact ⟨rfl,HX.out.trans (by simp (maxDischargeDepth:=60))⟩
 have HB:=Lib.hid hb;have hb12:=of_decide_eq_true hb
 have hm1:m1≤100:=by omega
 have hm2:m2≤100:=by omega
 clear hb hb12
 by_cases hL1:L<1
 ·go_wp2_with (first|(go_at_call 84;(with_reducible refine (turns_any _).mono ?_);rintro e w1 ⟨rfl,o1,n1,rfl⟩)|(go_at_call 49;(with_reducible refine (lightActs_any _ _ _ _ l _ (Sl.below HA0.out (Ext.below (by simp (maxDischargeDepth:=60)))) HG.out).mono ?_);rintro e w2 ⟨lb,rfl,o2,n2,rfl⟩;cases lb)|(go_at_call 64;(with_reducible refine (lightBook_any true _ _ _ _ _ _ _ _ HB).mono ?_);rintro e w1 ⟨rfl,o1,n1,rfl⟩))
  all_goals
   go_ret;exact ⟨rfl,HX.out.trans (by simp (maxDischargeDepth:=60))⟩
 by_cases hL4:4<L
 ·have hL1':1≤L:=by omega
  go_wp2_with (first|(go_at_call 84;(with_reducible refine (turns_any _).mono ?_);rintro e w1 ⟨rfl,o1,n1,rfl⟩)|(go_at_call 49;(with_reducible refine (lightActs_any _ _ _ _ l _ (Sl.below HA0.out (Ext.below (by simp (maxDischargeDepth:=60)))) HG.out).mono ?_);rintro e w2 ⟨lb,rfl,o2,n2,rfl⟩;cases lb)|(go_at_call 64;(with_reducible refine (lightBook_any true _ _ _ _ _ _ _ _ HB).mono ?_);rintro e w1 ⟨rfl,o1,n1,rfl⟩))
  all_goals
   go_ret;exact ⟨rfl,HX.out.trans (by simp (maxDischargeDepth:=60))⟩
 have hL1':1≤L:=by omega
 have hL4':L≤4:=by omega
 clear hL1 hL4
 by_cases hbf:Ch.bookFault ⟨last,ls,js⟩ L=0
 ·have HBF:Hid (Ch.bookFault ⟨last,ls,js⟩ L=0):=hbf
  have hok:=Ch.bookFault_iff.1 hbf;have HJJ:Hid (∀ j∈js,∃ s∈ls,s.ticket=j.ticket):=hok.found
  have H00:Hid (∀ s∈ls,s.ticket≠0):=fun s hs=>by have:=(hok.stays.1 s hs).2.2.1;omega
  have HPL:Hid (∀ s∈ls,Ch.placeFault s.home L=0):=fun s hs=>(hok.stays.1 s hs).2.1
  clear hbf hok
  go_upto_region 6 with (first
   | (go_at_call 84;(with_reducible refine (turns_any _).mono ?_);rintro e w1 ⟨rfl,o1,n1,rfl⟩)
   | (go_at_call 49;(with_reducible refine (lightActs_any _ _ _ _ l _ (Sl.below HA0.out (Ext.below (by simp (maxDischargeDepth:=60)))) HG.out).mono ?_);rintro e w2 ⟨lb,rfl,o2,n2,rfl⟩;cases lb)
   | (go_at_call 64;(with_reducible refine (lightBook_any true _ _ _ _ _ _ _ _ HB).mono ?_);rintro e w1 ⟨rfl,o1,n1,rfl⟩)
   | (go_at_call 65;(with_reducible refine (rfault_any last L a1 m1 c1 a2 m2 c2 ls js _ (Sl.below HS.out (Ext.below (by simp (maxDischargeDepth:=60)))) (Sl.below HK.out (Ext.below (by simp (maxDischargeDepth:=60)))) hL1' hL4').mono ?_);rw [HBF.out];rintro e wf ⟨rfl,oF,nF,rfl⟩)
   | (go_at_call 76;(with_reducible refine (new_any L _ hL1' hL4').mono ?_);rintro e w3 ⟨pb,mb,rfl,hq,hx,hb1,hb2⟩;have hx0:Ext w0 w3:=Ext.trans (by simp (maxDischargeDepth:=60)) hx;have HQ:=Lib.hid hq;have HX0:=Lib.hid hx0;have b1:w0.heap.size≤pb:=(by simp at hb1;omega);have b2:w0.heap.size≤mb:=(by simp at hb2;omega);clear hq hx hx0 hb1 hb2)
   | (go_at_call 77;(with_reducible refine (rnew_any L _ hL1' hL4').mono ?_);rintro e w4 ⟨rb,rfl,hr,hx,hb3⟩))
  ·go_wp2_with fail
   go_ret;exact ⟨rfl,HX.out.trans (by simp (maxDischargeDepth:=60))⟩
  have z3:=HX0.out.below.size;have zq:=HQ.out.lt
  have b3:w0.heap.size≤rb:=by omega
  have S0:TwinAt w0 w4 pb mb rb (Ch.Plant.new L):=⟨⟨HQ.out.ext hx,hr,by omega,by omega⟩,Ch.Plant.WF.new hL1' hL4',(HX0.out.trans hx).below⟩
  have HS0:=Lib.hid S0;obtain ⟨k,hk⟩:=Int.eq_ofNat_of_zero_le (show 0≤L by omega);clear hr hx hb3 S0 z3 zq;subst hk
  go_upto_region 9 with fail
  go_loopw [12] (fun i wr=>∃ (j:Nat) (p:Ch.Plant),j≤n∧i = .int .i64 j∧Hid (TwinAt w0 wr pb mb rb p)) (fun i _=>n - (intOf i).toNat)
  case atStart=>exact ⟨0,_,by omega,rfl,HS0.out.ext (by simp (maxDischargeDepth:=60)) b1 b2 b3⟩
  case round=>
   obtain ⟨j,p,hj,rfl,HP⟩:=hrel;have hwf:=HP.out.wf
   by_cases hlt:j<n
   ·obtain ⟨bA,qA,x,rfl,hx,dx⟩:=(Sl.below HA0.out HP.out.below).get hlt
    have dx:=at12 dx;have gx:=HG.out x (List.mem_of_getElem? hx);have GX:=Lib.hid gx;obtain ⟨dx0,dx1,dx2,dx3,dx4,dx5,dx6,dx7,dx8,dx9,dx10,dx11⟩:=dx;have hqA:=cell_lt dx0
    have hj0:(0:Int)≤(j:Int):=by omega
    have hj1:(j:Int)<(n:Int):=by omega
    have hj2:(j:Int)≤(cap:Int):=by omega
    clear gx hx
    go_upto_region 12 with (go_at_call 78;(with_reducible refine (loutside_any (HP.out.at_.ext (by simp (maxDischargeDepth:=60))) hwf x GX.out).mono ?_);rintro e w5 ⟨rfl,hq5,hk5⟩;have HK5:Hid (Kept (Own3 pb mb rb) wr w5):=(Kept.of_ext (by simp (maxDischargeDepth:=60)):Kept (Own3 pb mb rb) wr _).trans hk5;have HN:=Lib.hid (HP.out.next hq5 (hwf.outside x.act) HK5.out b1 b2 b3);clear hq5 hk5)
    generalize p.outside x.act=q' at HN;clear dx0 dx1 dx2 dx3 dx4 dx5 dx6 dx7 dx8 dx9 dx10 dx11 hqA HK5 HP hwf GX;have hwq:=HN.out.wf;have hxn:Ext w0 w5:=Ext.of_below HN.out.below;have HXN:=Lib.hid hxn;have e0:=xcell hxn k0;have e1:=xcell hxn k1;have e2:=xcell hxn k2;have ez:=cell_lt e0;have HSN:=Lib.hid (Sl.below HS.out hxn.below);have HKN:=Lib.hid (Sl.below HK.out hxn.below);clear hxn
    obtain ⟨⟨gl,ob⟩,HTO⟩:∃ r,Hid (Ch.turnOf ⟨last,ls,js⟩ (k:Int) q'=r):=⟨_,rfl⟩
    obtain ⟨⟨bl,bs,bj⟩,HBO⟩:∃ r,Hid (ob.getD ⟨0,[],[]⟩=r):=⟨_,rfl⟩
    obtain ⟨oc,HOO⟩:∃ r,Hid (ob.isSome=r):=⟨_,rfl⟩
    go_upto_region 15 with (go_at_call 85;(with_reducible refine (turn_named gl ob bl bs bj oc last a1 m1 c1 a2 m2 c2 (k:Int) pb mb ls js q' _ (Sl.below HSN.out (Ext.below (by simp (maxDischargeDepth:=60)))) (Sl.below HKN.out (Ext.below (by simp (maxDischargeDepth:=60)))) (HN.out.at_.a.ext (by simp (maxDischargeDepth:=60))) hwq HJJ HPL hL1' hL4' hm1 hm2 HTO HBO HOO).mono ?_);rintro e w7 ⟨g,gc,i1,i1',i2,i2',rfl,s1,s2,s3,hx7⟩;have HX7:Hid (Ext w5 w7):=Ext.trans (by simp (maxDischargeDepth:=60)) hx7;have S1:=Lib.hid s1;have S2:=Lib.hid s2;have S3:=Lib.hid s3;clear s1 s2 s3 hx7)
    generalize hW:World.alloc _ _=w8;generalize hA:w7.heap.size=A
    have hx8:Ext w7 w8:=by rw [←hW];exact (by simp (maxDischargeDepth:=60))
    have x0:w8.cell? ⟨A,0,none⟩=some (vi bl):=by rw [←hW,←hA];simp [go_sem]
    have x1:w8.cell? ⟨A,1,none⟩=some (.slice i1 bs.length i1'):=by rw [←hW,←hA];simp [go_sem]
    have x2:w8.cell? ⟨A,2,none⟩=some (.slice i2 bj.length i2'):=by rw [←hW,←hA];simp [go_sem]
    have HX8:=Lib.hid (HX7.out.trans hx8);replace S1:=Lib.hid (Sl.below S1.out hx8.below);replace S2:=Lib.hid (Sl.below S2.out hx8.below);replace S3:=Lib.hid (Sl.below S3.out hx8.below);have f0:=xcell HX8.out e0;have f1:=xcell HX8.out e1;have f2:=xcell HX8.out e2;have fz:=cell_lt f0;have xz:=cell_lt x0;clear hW hA hx8 HX7
    go_cut [17] (fun s17 wx=>∃ H bk:Nat,s17 = .pointer (some ⟨H,0,none⟩)∧Ext w8 wx∧wx.heap[H]? = some (.cells (rhCells (.slice (some ⟨bk,0,none⟩) k k) rb last a1 m1 c1 a2 m2 c2 (.slice none 0 0)) 124 (0,0)))
    case first=>
     obtain ⟨i0,hi,hz0,hz1,hz2⟩:=info_parts infoSizeT
     have hmk:=fun w=>run_make (P:=Try.prog) w 40 42 i0 _ Try.underlying40 hi hz0 .i64 .i64 (k:Int) (k:Int) (by omega) (Int.le_refl _) (by rw [hz2];omega) (by omega)
     simp only [Int.toNat_natCast] at hmk;clear x0 x1 x2 xz
     go_region
     all_goals
      go_wp2_with fail;go_meet;exact ⟨_,_,rfl,(by simp (maxDischargeDepth:=60)),alloc_at _ _ _ (by simp)⟩
    case rest=>
     obtain ⟨H,bk,rfl,hxc,hH⟩:=hcut;have HXC:=Lib.hid (HX8.out.trans hxc)
     have HRH:Hid (RHAt wc H rb (.slice (some ⟨bk,0,none⟩) k k) last a1 m1 c1 a2 m2 c2 (.slice none 0 0) ls js q'):=⟨hH,Sl.below HSN.out HXC.out.below,Sl.below HKN.out HXC.out.below,HN.out.at_.b.ext HXC.out⟩
     replace S1:=Lib.hid (Sl.below S1.out hxc.below);replace S2:=Lib.hid (Sl.below S2.out hxc.below);replace S3:=Lib.hid (Sl.below S3.out hxc.below);replace x0:=xcell hxc x0;replace x1:=xcell hxc x1;replace x2:=xcell hxc x2;have xz2:=cell_lt x0;clear hxc hH f0 f1 f2 fz xz HX8
     have k1':1≤k:=by omega
     have k4':k≤4:=by omega
     go_upto_region 17 with (go_at_call 86;(with_reducible refine (rnext_named gl ob bl bs bj oc (HRH.out.ext (by simp (maxDischargeDepth:=60))) hwq HJJ H00 HPL k1' k4' (Nat.le_refl _) (by unfold maxLen;omega) hm1 hm2 HTO HBO HOO).mono ?_);rintro e w9 ⟨g',gc',y1,y1',y2,y2',rfl,t1,t2,t3,hx9⟩;have HX9:Hid (Ext wc w9):=Ext.trans (by simp (maxDischargeDepth:=60)) hx9;have T1:=Lib.hid t1;have T2:=Lib.hid t2;have T3:=Lib.hid t3;clear t1 t2 t3 hx9)
     generalize hW:World.alloc _ _=w10;generalize hA:w9.heap.size=A2
     have hx10:Ext w9 w10:=by rw [←hW];exact (by simp (maxDischargeDepth:=60))
     have v0:w10.cell? ⟨A2,0,none⟩=some (vi bl):=by rw [←hW,←hA];simp [go_sem]
     have v1:w10.cell? ⟨A2,1,none⟩=some (.slice y1 bs.length y1'):=by rw [←hW,←hA];simp [go_sem]
     have v2:w10.cell? ⟨A2,2,none⟩=some (.slice y2 bj.length y2'):=by rw [←hW,←hA];simp [go_sem]
     have HX10:=Lib.hid (HX9.out.trans hx10);replace T1:=Lib.hid (Sl.below T1.out hx10.below);replace T2:=Lib.hid (Sl.below T2.out hx10.below);replace T3:=Lib.hid (Sl.below T3.out hx10.below);replace x0:=xcell HX10.out x0;replace x1:=xcell HX10.out x1;replace x2:=xcell HX10.out x2;replace S1:=Lib.hid (Sl.below S1.out HX10.out.below);replace S2:=Lib.hid (Sl.below S2.out HX10.out.below);replace S3:=Lib.hid (Sl.below S3.out HX10.out.below);have xz3:=cell_lt x0;have vz:=cell_lt v0;clear hW hA hx10 HX9 xz2
     go_wp2_with (first
      | (go_at_call 13;(with_reducible refine (sameGoals_yes _ _ _ _ _ _ gl gl _ (Sl.below S1.out (Ext.below (by simp (maxDischargeDepth:=60)))) (Sl.below T1.out (Ext.below (by simp (maxDischargeDepth:=60)))) rfl).mono ?_);rintro e w1 ⟨rfl,o1,n1,rfl⟩)
      | (go_at_call 70;(with_reducible refine (sameBook_yes _ _ _ _ _ _ _ _ _ _ _ bs bj _ (Sl.below S2.out (Ext.below (by simp (maxDischargeDepth:=60)))) (Sl.below S3.out (Ext.below (by simp (maxDischargeDepth:=60)))) (Sl.below T2.out (Ext.below (by simp (maxDischargeDepth:=60)))) (Sl.below T3.out (Ext.below (by simp (maxDischargeDepth:=60))))).mono ?_);rintro e w1 ⟨rfl,o1,n1,rfl⟩))
     all_goals
      go_roundw
      case rel=>exact ⟨j+1,q',by omega,by go_num,HN.out.ext (HXC.out.trans (HX10.out.trans (by simp (maxDischargeDepth:=60)))) b1 b2 b3⟩
      case measure=>simp [intOf];omega
   ·have hnlt:¬ (j:Int)<(n:Int):=by omega
    go_wp2_with fail;go_ret;exact ⟨rfl,HX.out.trans ((Ext.of_below HP.out.below).trans (by simp (maxDischargeDepth:=60)))⟩
 ·have hpos:0<Ch.bookFault ⟨last,ls,js⟩ L:=by have:=bookFault_nn ⟨last,ls,js⟩ L;omega
  obtain ⟨f,HBF⟩:∃ f,Hid (Ch.bookFault ⟨last,ls,js⟩ L=f):=⟨_,rfl⟩
  rw [HBF.out] at hpos;clear hbf
  go_wp2_with (first
   | (go_at_call 84;(with_reducible refine (turns_any _).mono ?_);rintro e w1 ⟨rfl,o1,n1,rfl⟩)
   | (go_at_call 49;(with_reducible refine (lightActs_any _ _ _ _ l _ (Sl.below HA0.out (Ext.below (by simp (maxDischargeDepth:=60)))) HG.out).mono ?_);rintro e w2 ⟨lb,rfl,o2,n2,rfl⟩;cases lb)
   | (go_at_call 64;(with_reducible refine (lightBook_any true _ _ _ _ _ _ _ _ HB).mono ?_);rintro e w1 ⟨rfl,o1,n1,rfl⟩)
   | (go_at_call 65;(with_reducible refine (rfault_any last L a1 m1 c1 a2 m2 c2 ls js _ (Sl.below HS.out (Ext.below (by simp (maxDischargeDepth:=60)))) (Sl.below HK.out (Ext.below (by simp (maxDischargeDepth:=60)))) hL1' hL4').mono ?_);rw [HBF.out];rintro e wf ⟨rfl,oF,nF,rfl⟩))
  all_goals
   go_ret;exact ⟨rfl,HX.out.trans (by simp (maxDischargeDepth:=60))⟩
end Go.Proofs.Ytplomeacjbkgnaa
namespace Go.Proofs.Ytplomeacjbkgnaa
open Go.ChangeShapes Go.WideShapes Go.ChangeAt Go.RowKit
theorem turnSays_lifted (os:Os) (started:os.Started) (H:Type) (enc:TypeId×Value→H):
  ReturnsInHanded {} Try.checked os 10 .any (Rows.turnSaysSpec.pre6 enc Try.prog Try.f10 Rows.turnSaysRow.domain false) (Rows.turnSaysSpec.post enc Try.prog Try.f10 false true false false):=by
 refine returnsInHanded_of_change (C:=Try.checked) own started (by kernel_rfl) Try.func10
  (ChangeSpec.witness6 (enc:=enc) (C:=Try.checked) false ⟨#[],#[.int .i64 0,.slice none 0 0,.agg #[.int .i64 0,.slice none 0 0,.slice none 0 0]],[]⟩ 8 (by kernel_rfl) (by kernel_rfl) (by kernel_rfl) (by kernel_rfl)) ?_
 intro W base args ds gs before hval0 hW hcnd _
 have hval:∀ (j:Nat) t v,Try.f10.params[j]? = some t→args[j]? = some v→Value.okWide Try.prog W .any base t v:=hval0
 refine law_contract (tb:=4) laidOut Try.underlying4 (by kernel_rfl) rfl (fun ds hd=>?_) (by kernel_rfl) hW ?_
 ·match ds,hd with
  | [_,_,_],_=>rfl
 obtain ⟨p,q,hA0,hV,rfl,hfz,hnd⟩:=hW;have hA:DataW.TrodAll enc Try.prog W 0 (fun _=>true) true Try.f10.params.toList args.toList ds p:=hA0;rw [Try.params10] at hA hval;obtain ⟨v0,vs0,d0,ds0,p0,q0,hargs,rfl,rfl,h0,r0⟩:=trodAll_cons hA;obtain ⟨v1,vs1,d1,ds1,p1,q1,rfl,rfl,rfl,h1,r1⟩:=trodAll_cons r0;obtain ⟨v2,vs2,d2,ds2,p2,q2,rfl,rfl,rfl,h2,r2⟩:=trodAll_cons r1;obtain ⟨rfl,rfl,rfl⟩:=trodAll_nil r2
 obtain rfl:args=#[v0,v1,v2]:=by cases args;simp_all
 obtain ⟨x0,rfl⟩:=okWide_int Try.underlying3 (hval 0 _ v0 rfl rfl);obtain ⟨_,e0,g0⟩:=rd_int Try.underlying3 (rd_of_trod h0)
 obtain rfl:x0=_:=by simpa [Value.cells] using e0
 obtain ⟨a1,n1,c1,rfl⟩:=okWide_slice Try.underlying63 (hval 1 _ v1 rfl rfl);obtain ⟨x1,_,_,_,e1,s1,g1⟩:=rd_list (c:=12) ractCells RAct.Good (by decide) (fun _=>rfl) Try.underlying63 (by kernel_rfl) (fun ecs h=>rd_act h) (rd_of_trod h1);simp only [Value.cells,List.cons.injEq,Value.slice.injEq,and_true] at e1;obtain ⟨rfl,rfl,rfl⟩:=e1;obtain ⟨last2,a2,n2,c2,a2',n2',c2',l2,js2,e2,s2,s2',g2,_⟩:=rd_book (rd_of_trod h2);obtain rfl:=arg_struct (by kernel_rfl) (hval 2 _ v2 rfl rfl) e2;exact turnSays_walk x0 _ _ _ _ _ _ _ _ _ s1 g1 s2 s2'
theorem turnSays_over:Rows.turnSaysRow.holds Try.pinned (OpenSpec.ofChange Rows.turnSaysSpec):=
 OpenClaim.holds_of_wide 10 Try.f10 rfl rfl rfl rfl rfl rfl rfl ⟨rfl,rfl,rfl,rfl,rfl⟩ rfl rfl rfl rfl rfl (by kernel_rfl) Try.func10 (by kernel_rfl)
  (of_decide_eq_true (by kernel_rfl)) (by unfold Func.isWrapper;first|(rw [if_pos (by decide +kernel)];kernel_rfl)|(rw [if_neg (by decide +kernel)];exact ⟨rfl,rfl⟩))
  (fun os started H enc _=>turnSays_lifted os started H enc)
theorem turnSays_proved:Rows.TurnSaysSaid:=turnSays_over
#print axioms turnSays_proved
end Go.Proofs.Ytplomeacjbkgnaa
