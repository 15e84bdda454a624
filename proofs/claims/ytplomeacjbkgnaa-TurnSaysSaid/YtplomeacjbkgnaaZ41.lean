import Derived.Test.YtplomeacjbkgnaaZ09
set_option linter.all false
set_option maxRecDepth 100000
set_option maxHeartbeats 16000000
namespace Go.Proofs.Ytplomeacjbkgnaa
open Go.RowKit
theorem any_takeF {α:Type} {l:List α} {k:Nat} {x:α} (p:α→Bool) (h:l[k]? = some x):(l.take (k+1)).any p=((l.take k).any p || p x):=by
 rw [List.take_add_one,h,List.any_append];simp
theorem any_has {α:Type} {l:List α} {k n:Nat} {x:α} {p:α→Bool} (h:l[n]? = some x) (hn:n<k) (hp:p x=true):(l.take k).any p=true:=by
 rw [List.any_eq_true];refine ⟨x,?_,hp⟩
 have:(l.take k)[n]? = some x:=by rw [List.getElem?_take,if_pos hn];exact h
 exact List.mem_of_getElem? this
theorem jobs_atF (st:List Ch.Stay) {l:List Ch.Job} {k:Nat} {j:Ch.Job} (hj:l[k]? = some j):
  Ch.jobsFault st (l.take k) (l.drop k)=if (st.any fun s=>s.ticket==j.ticket)=false∨j∈l.take k then 3 else Ch.jobsFault st (l.take (k+1)) (l.drop (k+1)):=by
 have hk:k<l.length:=by
  by_cases h:k<l.length
  ·exact h
  ·rw [List.getElem?_eq_none (by omega)] at hj;cases hj
 rw [List.drop_eq_getElem_cons hk,List.take_add_one,hj];rw [List.getElem?_eq_getElem hk] at hj;cases hj;rfl
theorem rcarFault_at (F:Int) (x a b c:Int) (w:World) (hf:Hid (Ch.carFault ⟨x,⟨a,b,c⟩⟩=F)):Calls Try.prog 34 #[.agg #[vi x,vi a,vi b,vi c]] w fun e w'=>e = .returned (vi F)∧Ext w w':=by
 have:=rcarFault_f x a b c w;rw [hf.out] at this;exact this
theorem rplaceFault_at (F:Int) (a b c n:Int) (w:World) (hf:Hid (Ch.placeFault ⟨a,b,c⟩ n=F)):Calls Try.prog 20 #[.agg #[vi a,vi b,vi c],vi n] w fun e w'=>e = .returned (vi F)∧Ext w w':=by
 have:=rplaceFault_f a b c n w;rw [hf.out] at this;exact this
theorem rfault_any (last L:Int) (a1:Option Addr) (m1 c1:Nat) (a2:Option Addr) (m2 c2:Nat) (l:List Ch.Stay) (js:List Ch.Job) (w:World)
  (h:Sl w 8 stayCells l a1 m1 c1) (h2:Sl w 2 jobCells js a2 m2 c2) (i1:1≤L) (i4:L≤4):
  Calls Try.prog 65 #[bookA last a1 m1 c1 a2 m2 c2,vi L] w fun e w'=>e = .returned (vi (Ch.bookFault ⟨last,l,js⟩ L))∧Ext w w':=by
 have b1:=h.bound;have b2:=h2.bound;have HF:=Lib.hid h;have HJ:=Lib.hid h2;have E1:=Lib.hid h.len;have E2:=Lib.hid h2.len;clear h h2
 by_cases hlast:last<0∨999999<last
 ·have HBF:Hid (Ch.bookFault ⟨last,l,js⟩ L=1):=by unfold Hid Ch.bookFault;rw [if_pos hlast]
  have HL:=Lib.hid hlast;clear hlast;go_enter Try.func65,Try.ntmps65;go_wp2_with fail
  all_goals
   first
   | (exfalso;have:=HL.out;omega)
   | (go_ret;exact ⟨by rw [HBF.out];rfl,(by simp (maxDischargeDepth:=60))⟩)
 have l0:0≤last:=by omega
 have l9:last≤999999:=by omega
 by_cases hmany:16<m1∨8<m2
 ·have HBF:Hid (Ch.bookFault ⟨last,l,js⟩ L=2):=by unfold Hid Ch.bookFault;rw [if_neg hlast,if_pos (by dsimp only;rw [E1.out,E2.out];exact hmany)]
  have hmi:(16:Int)<(m1:Int)∨(8:Int)<(m2:Int):=by omega
  have HM:=Lib.hid hmi;clear hmany hmi hlast;go_enter Try.func65,Try.ntmps65;go_wp2_with fail
  all_goals
   first
   | (exfalso;have:=HM.out;omega)
   | (go_ret;exact ⟨by rw [HBF.out];rfl,(by simp (maxDischargeDepth:=60))⟩)
 have n16:(m1:Int)≤16:=by omega
 have n8:(m2:Int)≤8:=by omega
 have HBF:Hid (Ch.bookFault ⟨last,l,js⟩ L=if Ch.staysFault L last [] l≠0 then Ch.staysFault L last [] l else Ch.jobsFault l [] js):=by
  unfold Hid Ch.bookFault;rw [if_neg hlast,if_neg (by dsimp only;rw [E1.out,E2.out];exact hmany)]
 clear hlast hmany;go_enter Try.func65,Try.ntmps65
 go_upto_region 6 with (go_at_call 45;refine (rplaces_any _ _ i1 i4).mono ?_;rintro e w1 hh;obtain ⟨pa,pn,pc,rfl,hpl,oP,nP,rfl⟩:=NewPlaces.sl hh;clear hh)
 generalize hW:World.plus _ _ _=wc at hpl ⊢
 have kc0:wc.cell? ⟨w.heap.size,0,none⟩=some (vi last):=by rw [←hW,plus_cell _ _ _ _ _ _ (by first|(simp;done)|(simp;omega))];simp [go_sem]
 have kc1:wc.cell? ⟨w.heap.size,1,none⟩=some (.slice a1 m1 c1):=by rw [←hW,plus_cell _ _ _ _ _ _ (by first|(simp;done)|(simp;omega))];simp [go_sem]
 have kc2:wc.cell? ⟨w.heap.size,2,none⟩=some (.slice a2 m2 c2):=by rw [←hW,plus_cell _ _ _ _ _ _ (by first|(simp;done)|(simp;omega))];simp [go_sem]
 have hx:Ext w wc:=by rw [←hW];exact (by simp (maxDischargeDepth:=60))
 have HX:=Lib.hid hx;have zc1:=cell_lt kc0;have hpb:=hpl.bound;have HPN:=Lib.hid hpl.len;have HPL:=Lib.hid hpl;have HS:=Lib.hid (Sl.below HF.out hx.below);have HK:=Lib.hid (Sl.below HJ.out hx.below);clear hW hx hpl;go_wp2
 go_loopw [6] (fun i wr=>∃ k:Nat,k≤m1∧i = .int .i64 k∧Hid (Ch.staysFault L last [] l=Ch.staysFault L last (l.take k) (l.drop k))∧Ext wc wr) (fun i _=>m1 - (intOf i).toNat)
 case atStart=>exact ⟨0,by omega,rfl,by simp [Hid],(by simp (maxDischargeDepth:=60))⟩
 case round =>
  obtain ⟨k,hk,rfl,HT,o,m,rfl⟩:=hrel
  by_cases hlt:k<m1
  ·obtain ⟨b, q,s,rfl,hs,ds⟩:=HS.out.get hlt
   have ds:=at8 ds;have hq0:=cell_lt ds.1;obtain ⟨t,⟨ci,⟨cx,cy,cz⟩⟩,⟨h0,h1,h2⟩⟩:=s;dsimp only at ds;have HSS:=Lib.hid hs
   have hkj:(k:Int)<(m1:Int):=by omega
   clear hs
   go_upto_region 10 with fail
   generalize hW:World.alloc _ _=wd;generalize hD:wc.heap.size+o.size=D
   have hxd:Ext wc wd:=by rw [←hW];exact (by simp (maxDischargeDepth:=60))
   have s0:wd.cell? ⟨D,0,none⟩=some (vi t):=by rw [←hW,←hD];simp [go_sem]
   have s1:wd.cell? ⟨D,1,none⟩=some (vi ci):=by rw [←hW,←hD];simp [go_sem]
   have s2:wd.cell? ⟨D,2,none⟩=some (vi cx):=by rw [←hW,←hD];simp [go_sem]
   have s3:wd.cell? ⟨D,3,none⟩=some (vi cy):=by rw [←hW,←hD];simp [go_sem]
   have s4:wd.cell? ⟨D,4,none⟩=some (vi cz):=by rw [←hW,←hD];simp [go_sem]
   have s5:wd.cell? ⟨D,5,none⟩=some (vi h0):=by rw [←hW,←hD];simp [go_sem]
   have s6:wd.cell? ⟨D,6,none⟩=some (vi h1):=by rw [←hW,←hD];simp [go_sem]
   have s7:wd.cell? ⟨D,7,none⟩=some (vi h2):=by rw [←hW,←hD];simp [go_sem]
   have g0:=ext_cell hxd kc0;have g1:=ext_cell hxd kc1;have g2:=ext_cell hxd kc2;have zd:=cell_lt s0;have zg:=cell_lt g0;have HXD:=Lib.hid hxd;clear hW hD hxd ds hq0
   by_cases hcf:Ch.carFault ⟨ci,⟨cx,cy,cz⟩⟩=0
   ·have HC0 := Lib.hid hcf
    clear hcf
    by_cases hpf:Ch.placeFault ⟨h0,h1,h2⟩ L=0
    ·have HP0 := Lib.hid hpf
     clear hpf
     by_cases htk:t<1∨last<t
     ·have HBAD:Hid (Ch.staysFault L last [] l=1):=by unfold Hid;rw [HT.out];exact stays_bad L last 1 HSS.out (by unfold Ch.stayFault;rw [if_neg (by dsimp only;rw [HC0.out];decide)];rw [if_neg (by dsimp only;rw [HP0.out];decide)];rw [if_pos htk]) (by decide)
      have HTK:=Lib.hid htk;clear htk;go_wp2_with (first|(go_at_call 34;(with_reducible refine (rcarFault_at 0 _ _ _ _ _ HC0).mono ?_);rintro e w1 ⟨rfl,o1,n1,rfl⟩)|(go_at_call 20;(with_reducible refine (rplaceFault_at 0 _ _ _ _ _ HP0).mono ?_);rintro e w1 ⟨rfl,o1,n1,rfl⟩))
      all_goals
       first
       | (exfalso;have:=HTK.out;omega)
       | (go_ret;exact ⟨by rw [HBF.out,HBAD.out];rfl,(HX.out.trans HXD.out).trans (by simp (maxDischargeDepth:=60))⟩)
     ·have t1 : 1≤t:=by omega
      have t2:t≤last:=by omega
      clear htk
      go_upto_region 18 with (first|(go_at_call 34;(with_reducible refine (rcarFault_at 0 _ _ _ _ _ HC0).mono ?_);rintro e w1 ⟨rfl,o1,n1,rfl⟩)|(go_at_call 20;(with_reducible refine (rplaceFault_at 0 _ _ _ _ _ HP0).mono ?_);rintro e w1 ⟨rfl,o1,n1,rfl⟩))
      go_wp2
      go_loopw [10,11] (fun fv i wk=>∃ kk:Nat,kk≤pn∧i = .int .i64 kk∧fv = .bool (((Ch.places L).take kk).any (fun x:Ch.Place=>decide (x=⟨h0,h1,h2⟩)))∧Ext wd wk) (fun _ i _=>pn - (intOf i).toNat)
      case atStart=>exact ⟨0,by omega,rfl,rfl,(by simp (maxDischargeDepth:=60))⟩
      case round=>
       obtain ⟨kk,hkk,rfl,rfl,o',m',rfl⟩:=hrel
       by_cases hlk:kk<pn
       ·obtain ⟨xb,xq,x,rfl,hx,dx⟩:=HPL.out.get hlk
        have dx:=at3 dx;have hxb:=cell_lt dx.1;have dx0:=ext_cell HXD.out dx.1;have dx1:=ext_cell HXD.out dx.2.1;have dx2:=ext_cell HXD.out dx.2.2;have zx:=cell_lt dx0;obtain ⟨u,v,z⟩:=x;dsimp only at dx dx0 dx1 dx2;have HXX:=Lib.hid hx
        have hkp:(kk:Int)<(pn:Int):=by omega
        generalize hFK:((Ch.places L).take kk).any (fun x:Ch.Place=>decide (x=⟨h0,h1,h2⟩))=FK;have HFK:=Lib.hid hFK;clear hx dx hFK;cases FK
        ·by_cases hxe:(⟨u,v,z⟩:Ch.Place)=⟨h0,h1,h2⟩
         ·have hq:∀ w,(Go.binOp .eql 23 (.agg #[vi u,vi v,vi z]) (.agg #[vi h0,vi h1,vi h2])).run Try.prog w = .ok (.bool true) w:=fun w=>by rw [eqlStruct w (eqPlace w 9998 ⟨u,v,z⟩ ⟨h0,h1,h2⟩)];simp [hxe]
          have hst:((Ch.places L).take (kk+1)).any (fun x:Ch.Place=>decide (x=⟨h0,h1,h2⟩))=true:=by rw [any_takeF _ HXX.out,HFK.out];simp [hxe]
          have HST:=Lib.hid hst;clear hst
          go_upto_region 22 with fail
          (refine wp_region_ext (by kernel_rfl) (by kernel_rfl) ?_;(repeat (first|go_big_quiet_step (fail)|quiet_step (fail)));refine wpQuiet_nil ?_;intro _ hw';obtain ⟨oq,nq,hw''⟩:=hw';subst hw'')
          go_wp2;go_roundw
          case rel=>first|exact ⟨kk+1,by omega,by go_num,congrArg Value.bool HST.out.symm,(by simp (maxDischargeDepth:=60))⟩|(repeat apply Exists.intro;refine ⟨?_,rfl⟩;exact ⟨kk+1,by omega,by go_num,congrArg Value.bool HST.out.symm,(by simp (maxDischargeDepth:=60))⟩)
          case measure=>simp [intOf];omega
         ·have hq:∀ w,(Go.binOp .eql 23 (.agg #[vi u,vi v,vi z]) (.agg #[vi h0,vi h1,vi h2])).run Try.prog w = .ok (.bool false) w:=fun w=>by rw [eqlStruct w (eqPlace w 9998 ⟨u,v,z⟩ ⟨h0,h1,h2⟩)];simp [hxe]
          have hst:((Ch.places L).take (kk+1)).any (fun x:Ch.Place=>decide (x=⟨h0,h1,h2⟩))=false:=by rw [any_takeF _ HXX.out,HFK.out];simp [hxe]
          have HST:=Lib.hid hst;clear hst
          go_upto_region 22 with fail
          (refine wp_region_ext (by kernel_rfl) (by kernel_rfl) ?_;(repeat (first|go_big_quiet_step (fail)|quiet_step (fail)));refine wpQuiet_nil ?_;intro _ hw';obtain ⟨oq,nq,hw''⟩:=hw';subst hw'')
          go_wp2;go_roundw
          case rel=>first|exact ⟨kk+1,by omega,by go_num,congrArg Value.bool HST.out.symm,(by simp (maxDischargeDepth:=60))⟩|(repeat apply Exists.intro;refine ⟨?_,rfl⟩;exact ⟨kk+1,by omega,by go_num,congrArg Value.bool HST.out.symm,(by simp (maxDischargeDepth:=60))⟩)
          case measure=>simp [intOf];omega
        ·have hst:((Ch.places L).take (kk+1)).any (fun x:Ch.Place=>decide (x=⟨h0,h1,h2⟩))=true:=by rw [any_takeF _ HXX.out,HFK.out];simp
         have HST:=Lib.hid hst;clear hst
         go_upto_region 22 with fail
         (refine wp_region_ext (by kernel_rfl) (by kernel_rfl) ?_;(repeat (first|go_big_quiet_step (fail)|quiet_step (fail)));refine wpQuiet_nil ?_;intro _ hw';obtain ⟨oq,nq,hw''⟩:=hw';subst hw'')
         go_wp2;go_roundw
         case rel=>first|exact ⟨kk+1,by omega,by go_num,congrArg Value.bool HST.out.symm,(by simp (maxDischargeDepth:=60))⟩|(repeat apply Exists.intro;refine ⟨?_,rfl⟩;exact ⟨kk+1,by omega,by go_num,congrArg Value.bool HST.out.symm,(by simp (maxDischargeDepth:=60))⟩)
         case measure=>simp [intOf];omega
       ·have hkm:kk=pn:=by omega
        subst hkm
        have hall:((Ch.places L).take kk).any (fun x:Ch.Place=>decide (x=⟨h0,h1,h2⟩))=decide ((⟨h0,h1,h2⟩:Ch.Place)∈Ch.places L):=by
         rw [List.take_of_length_le (by have:=HPN.out;omega)];rw [Bool.eq_iff_iff];simp
        rw [hall];clear hall
        by_cases hin:(⟨h0,h1,h2⟩:Ch.Place)∈Ch.places L
        ·have HIN:=Lib.hid hin
         rw [decide_eq_true hin];clear hin
         cases k with
         | zero=>
          have z0:((0:Nat):Int)=0:=rfl
          go_upto_region 23 with fail
          (refine wp_region_ext (by kernel_rfl) (by kernel_rfl) ?_;(repeat (first|go_big_quiet_step (fail)|quiet_step (fail)));refine wpQuiet_nil ?_;intro _ hw';obtain ⟨oq,nq,hw''⟩:=hw';subst hw'')
          go_wp2
          go_loopw [12] (fun i wk=>∃ n:Nat,n≤0∧i = .int .i64 n∧Hid ((l.take n).any (stayClash ⟨t,⟨ci,⟨cx,cy,cz⟩⟩,⟨h0,h1,h2⟩⟩)=false)∧Ext wd wk) (fun i _=>0 - (intOf i).toNat)
          case atStart=>exact ⟨0,by omega,rfl,rfl,(by simp (maxDischargeDepth:=60))⟩
          case round=>
           obtain ⟨n,hn,rfl,HNC,o'',m'',rfl⟩:=hrel
           by_cases hlk:n<0
           ·exact absurd hlk (by omega)
           ·have hkn:n=0:=by omega
            have HGO:Hid (Ch.staysFault L last [] l=Ch.staysFault L last (l.take (0+1)) (l.drop (0+1))):=by
             unfold Hid;rw [HT.out];refine stays_go L last HSS.out ?_;unfold Ch.stayFault;rw [if_neg (by dsimp only;rw [HC0.out];decide)];rw [if_neg (by dsimp only;rw [HP0.out];decide)];rw [if_neg (by dsimp only;omega)];rw [if_neg (by rintro (h|⟨x,hx,-⟩);exact h HIN.out;simp at hx),stayClash_any,if_neg];rw [show (0:Nat)=n from hkn.symm,HNC.out];simp
            have hkni:(n:Int)=((0:Nat):Int):=by omega
            subst hkn;go_wp2;go_roundw
            case rel=>first|exact ⟨0+1,by omega,by go_num,HGO,HXD.out.trans (by simp (maxDischargeDepth:=60))⟩|(repeat apply Exists.intro;refine ⟨?_,rfl⟩;exact ⟨0+1,by omega,by go_num,HGO,HXD.out.trans (by simp (maxDischargeDepth:=60))⟩)
            case measure=>simp [intOf];omega
         | succ j=>
          obtain ⟨pq,hpq,dp⟩:=HS.out.get' (k:=j) (by omega);have dp:=at8 dp;obtain ⟨yt,⟨yi,⟨yx,yy,yz⟩⟩,⟨y0,y1,y2⟩⟩:=pq;dsimp only at dp;have ey:=ext_cell HXD.out dp.1;have zy:=cell_lt ey;have HPQ:=Lib.hid hpq
          have hj0:(0:Int)<(j:Int)+1:=by omega
          have hj1:(0:Int)<((j+1:Nat):Int):=by omega
          have hj2:(0:Int)≤(j:Int):=by omega
          have hj3:(j:Int)<(m1:Int):=by omega
          have hw1:IntKind.i64.wrap (j:Int)=(j:Int):=IntWalk.i64_in _ (by omega)
          have hw2:IntKind.i64.wrap ((j:Int)+1 - 1)=(j:Int):=by rw [show (j:Int)+1 - 1=j by omega];exact hw1
          have hw3:IntKind.i64.wrap (((j+1:Nat):Int) - 1)=(j:Int):=by rw [show ((j+1:Nat):Int) - 1=j by omega];exact hw1
          clear dp hpq
          by_cases hle:t≤yt
          ·have HBAD:Hid (Ch.staysFault L last [] l=3):=by unfold Hid;rw [HT.out];exact stays_bad L last 3 HSS.out (by unfold Ch.stayFault;rw [if_neg (by dsimp only;rw [HC0.out];decide)];rw [if_neg (by dsimp only;rw [HP0.out];decide)];rw [if_neg (by dsimp only;omega)];rw [if_pos (Or.inr ⟨_,last_take HPQ.out,hle⟩)]) (by decide)
           have hle2:decide (t≤yt)=true:=decide_eq_true hle
           go_upto_region 23 with fail
           (refine wp_region_ext (by kernel_rfl) (by kernel_rfl) ?_;(repeat (first|go_big_quiet_step (fail)|quiet_step (fail)));refine wpQuiet_nil ?_;intro _ hw';obtain ⟨oq,nq,hw''⟩:=hw';subst hw'')
           go_wp2;go_ret;exact ⟨by rw [HBF.out,HBAD.out];rfl,(HX.out.trans HXD.out).trans (by simp (maxDischargeDepth:=60))⟩
          ·have HLT:=Lib.hid hle
           have hle2:decide (t≤yt)=false:=decide_eq_false hle
           have hle3:yt<t:=by omega
           clear hle
           go_upto_region 23 with fail
           (refine wp_region_ext (by kernel_rfl) (by kernel_rfl) ?_;(repeat (first|go_big_quiet_step (fail)|quiet_step (fail)));refine wpQuiet_nil ?_;intro _ hw';obtain ⟨oq,nq,hw''⟩:=hw';subst hw'')
           go_wp2
           go_loopw [12] (fun i wk=>∃ n:Nat,n≤j+1∧i = .int .i64 n∧Hid ((l.take n).any (stayClash ⟨t,⟨ci,⟨cx,cy,cz⟩⟩,⟨h0,h1,h2⟩⟩)=false)∧Ext wd wk) (fun i _=>j+1 - (intOf i).toNat)
           case atStart=>exact ⟨0,by omega,rfl,rfl,(by simp (maxDischargeDepth:=60))⟩
           case round=>
            obtain ⟨n,hn,rfl,HNC,o'',m'',rfl⟩:=hrel
            by_cases hlk:n<j+1
            ·obtain ⟨x,hx,dx⟩:=HS.out.get' (k:=n) (by omega)
             have dx:=at8 dx;obtain ⟨xt,⟨xi,⟨xx,xy,xz⟩⟩,⟨x0,x1,x2⟩⟩:=x;dsimp only at dx;have e1:=ext_cell HXD.out dx.2.1;have e5:=ext_cell HXD.out dx.2.2.2.2.2.1;have e6:=ext_cell HXD.out dx.2.2.2.2.2.2.1;have e7:=ext_cell HXD.out dx.2.2.2.2.2.2.2;have zx:=cell_lt e1;have HXX:=Lib.hid hx
             have hnk:(n:Int)<(m1:Int):=by omega
             have hnk2:(n:Int)<((j+1:Nat):Int):=by omega
             clear hx dx
             by_cases hxe:(⟨x0,x1,x2⟩:Ch.Place)=⟨h0,h1,h2⟩
             ·have hq:∀ w,(Go.binOp .eql 23 (.agg #[vi x0,vi x1,vi x2]) (.agg #[vi h0,vi h1,vi h2])).run Try.prog w = .ok (.bool true) w:=fun w=>by rw [eqlStruct w (eqPlace w 9998 ⟨x0,x1,x2⟩ ⟨h0,h1,h2⟩)];simp [hxe]
              have HBAD:Hid (Ch.staysFault L last [] l=3):=by unfold Hid;rw [HT.out];exact stays_bad L last 3 HSS.out (by unfold Ch.stayFault;rw [if_neg (by dsimp only;rw [HC0.out];decide)];rw [if_neg (by dsimp only;rw [HP0.out];decide)];rw [if_neg (by dsimp only;omega)];rw [if_neg (by rintro (h|⟨x,hx,hle⟩);exact h HIN.out;rw [last_take HPQ.out] at hx;cases hx;have:=HLT.out;dsimp only at hle;omega),stayClash_any,if_pos];rw [any_has HXX.out (by omega)];unfold stayClash;rw [decide_eq_true hxe];rfl) (by decide)
              clear hxe
              go_upto_region 28 with fail
              (refine wp_region_ext (by kernel_rfl) (by kernel_rfl) ?_;(repeat (first|go_big_quiet_step (fail)|quiet_step (fail)));refine wpQuiet_nil ?_;intro _ hw';obtain ⟨oq,nq,hw''⟩:=hw';subst hw'')
              go_wp2;go_ret;exact ⟨by rw [HBF.out,HBAD.out];rfl,(HX.out.trans HXD.out).trans (by simp (maxDischargeDepth:=60))⟩
             ·have hq:∀ w,(Go.binOp .eql 23 (.agg #[vi x0,vi x1,vi x2]) (.agg #[vi h0,vi h1,vi h2])).run Try.prog w = .ok (.bool false) w:=fun w=>by rw [eqlStruct w (eqPlace w 9998 ⟨x0,x1,x2⟩ ⟨h0,h1,h2⟩)];simp [hxe]
              cases hid:(xi==ci)
              ·have HNN:Hid ((l.take (n+1)).any (stayClash ⟨t,⟨ci,⟨cx,cy,cz⟩⟩,⟨h0,h1,h2⟩⟩)=false):=by unfold Hid;rw [any_takeF _ HXX.out,HNC.out];unfold stayClash;rw [decide_eq_false hxe,hid];rfl
               clear hxe
               go_upto_region 28 with fail
               (refine wp_region_ext (by kernel_rfl) (by kernel_rfl) ?_;(repeat (first|go_big_quiet_step (fail)|quiet_step (fail)));refine wpQuiet_nil ?_;intro _ hw';obtain ⟨oq,nq,hw''⟩:=hw';subst hw'')
               go_wp2;go_roundw
               case rel=>first|exact ⟨n+1,by omega,by go_num,HNN,(by simp (maxDischargeDepth:=60))⟩|(repeat apply Exists.intro;refine ⟨?_,rfl⟩;exact ⟨n+1,by omega,by go_num,HNN,(by simp (maxDischargeDepth:=60))⟩)
               case measure=>simp [intOf];omega
              ·have HBAD:Hid (Ch.staysFault L last [] l=3):=by unfold Hid;rw [HT.out];exact stays_bad L last 3 HSS.out (by unfold Ch.stayFault;rw [if_neg (by dsimp only;rw [HC0.out];decide)];rw [if_neg (by dsimp only;rw [HP0.out];decide)];rw [if_neg (by dsimp only;omega)];rw [if_neg (by rintro (h|⟨x,hx,hle⟩);exact h HIN.out;rw [last_take HPQ.out] at hx;cases hx;have:=HLT.out;dsimp only at hle;omega),stayClash_any,if_pos];rw [any_has HXX.out (by omega)];unfold stayClash;rw [hid];simp) (by decide)
               clear hxe
               go_upto_region 28 with fail
               (refine wp_region_ext (by kernel_rfl) (by kernel_rfl) ?_;(repeat (first|go_big_quiet_step (fail)|quiet_step (fail)));refine wpQuiet_nil ?_;intro _ hw';obtain ⟨oq,nq,hw''⟩:=hw';subst hw'')
               go_wp2;go_ret;exact ⟨by rw [HBF.out,HBAD.out];rfl,(HX.out.trans HXD.out).trans (by simp (maxDischargeDepth:=60))⟩
            ·have hkn:n=j+1:=by omega
             have HGO:Hid (Ch.staysFault L last [] l=Ch.staysFault L last (l.take (j+1+1)) (l.drop (j+1+1))):=by
              unfold Hid;rw [HT.out];refine stays_go L last HSS.out ?_;unfold Ch.stayFault;rw [if_neg (by dsimp only;rw [HC0.out];decide)];rw [if_neg (by dsimp only;rw [HP0.out];decide)];rw [if_neg (by dsimp only;omega)];rw [if_neg (by rintro (h|⟨x,hx,hle⟩);exact h HIN.out;rw [last_take HPQ.out] at hx;cases hx;have:=HLT.out;dsimp only at hle;omega),stayClash_any,if_neg];rw [show j+1=n from hkn.symm,HNC.out];simp
             have hkni:(n:Int)=((j+1:Nat):Int):=by omega
             subst hkn;go_wp2;go_roundw
             case rel=>first|exact ⟨j+1+1,by omega,by go_num,HGO,HXD.out.trans (by simp (maxDischargeDepth:=60))⟩|(repeat apply Exists.intro;refine ⟨?_,rfl⟩;exact ⟨j+1+1,by omega,by go_num,HGO,HXD.out.trans (by simp (maxDischargeDepth:=60))⟩)
             case measure=>simp [intOf];omega
        ·rw [decide_eq_false hin]
         have HBAD:Hid (Ch.staysFault L last [] l=3):=by unfold Hid;rw [HT.out];exact stays_bad L last 3 HSS.out (by unfold Ch.stayFault;rw [if_neg (by dsimp only;rw [HC0.out];decide)];rw [if_neg (by dsimp only;rw [HP0.out];decide)];rw [if_neg (by dsimp only;omega)];rw [if_pos (Or.inl hin)]) (by decide)
         clear hin
         go_upto_region 23 with fail
         (refine wp_region_ext (by kernel_rfl) (by kernel_rfl) ?_;(repeat (first|go_big_quiet_step (fail)|quiet_step (fail)));refine wpQuiet_nil ?_;intro _ hw';obtain ⟨oq,nq,hw''⟩:=hw';subst hw'')
         go_wp2;go_ret;exact ⟨by rw [HBF.out,HBAD.out];rfl,(HX.out.trans HXD.out).trans (by simp (maxDischargeDepth:=60))⟩
    ·have HP0:Hid (Ch.placeFault ⟨h0,h1,h2⟩ L=1):=place_bad hpf
     have HBAD:Hid (Ch.staysFault L last [] l=1):=by unfold Hid;rw [HT.out];exact stays_bad L last 1 HSS.out (by unfold Ch.stayFault;rw [if_neg (by dsimp only;rw [HC0.out];decide)];rw [if_pos (by dsimp only;rw [HP0.out];decide)];exact HP0.out) (by decide)
     clear hpf;go_wp2_with (first|(go_at_call 34;(with_reducible refine (rcarFault_at 0 _ _ _ _ _ HC0).mono ?_);rintro e w1 ⟨rfl,o1,n1,rfl⟩)|(go_at_call 20;(with_reducible refine (rplaceFault_at 1 _ _ _ _ _ HP0).mono ?_);rintro e w1 ⟨rfl,o1,n1,rfl⟩));go_ret;exact ⟨by rw [HBF.out,HBAD.out];rfl,(HX.out.trans HXD.out).trans (by simp (maxDischargeDepth:=60))⟩
   ·have HC0:Hid (Ch.carFault ⟨ci,⟨cx,cy,cz⟩⟩=1):=car_bad hcf
    have HBAD:Hid (Ch.staysFault L last [] l=1):=by unfold Hid;rw [HT.out];exact stays_bad L last 1 HSS.out (by unfold Ch.stayFault;rw [if_pos (by dsimp only;rw [HC0.out];decide)];exact HC0.out) (by decide)
    clear hcf;go_wp2_with (first|(go_at_call 34;(with_reducible refine (rcarFault_at 1 _ _ _ _ _ HC0).mono ?_);rintro e w1 ⟨rfl,o1,n1,rfl⟩));go_ret;exact ⟨by rw [HBF.out,HBAD.out];rfl,(HX.out.trans HXD.out).trans (by simp (maxDischargeDepth:=60))⟩
  ·have hkm:m1=k:=by omega
   have HKM:=Lib.hid hkm;clear hkm
   have HSF:Hid (Ch.staysFault L last [] l=0):=by unfold Hid;rw [HT.out,List.drop_of_length_le (by have:=E1.out;have:=HKM.out;omega)];rfl
   have HBF2:Hid (Ch.bookFault ⟨last,l,js⟩ L=Ch.jobsFault l [] js):=by unfold Hid;rw [HBF.out,HSF.out];rfl
   clear HBF;have HBF:=HBF2;clear HBF2;go_wp2
   go_loopw [13] (fun i wr=>∃ k':Nat,k'≤m2∧i = .int .i64 k'∧Hid (Ch.jobsFault l [] js=Ch.jobsFault l (js.take k') (js.drop k'))∧Ext wc wr) (fun i _=>m2 - (intOf i).toNat)
   case atStart=>exact ⟨0,by omega,rfl,by simp [Hid],(by simp (maxDischargeDepth:=60))⟩
   case round=>
    obtain ⟨k',hk',rfl,HT,o,m,rfl⟩:=hrel
    by_cases hlt:k'<m2
    ·obtain ⟨jb,jq,jj,rfl,hj,dj⟩:=HK.out.get hlt
     have dj:=at2 dj;obtain ⟨jt,jf⟩:=jj;dsimp only at dj;have hjb:=cell_lt dj.1;have HJJ:=Lib.hid hj
     have hkj:(k':Int)<(m2:Int):=by omega
     clear hj;go_wp2
     go_loopw [14,15] (fun fv i wk=>∃ n:Nat,n≤m1∧i = .int .i64 n∧fv = .bool ((l.take n).any (fun s:Ch.Stay=>s.ticket==jt))∧Ext wc wk) (fun _ i _=>m1 - (intOf i).toNat)
     case atStart=>exact ⟨0,by omega,rfl,rfl,(by simp (maxDischargeDepth:=60))⟩
     case round=>
      obtain ⟨n,hn,rfl,rfl,o',m',rfl⟩:=hrel
      by_cases hlk:n<m1
      ·obtain ⟨b,q,x,rfl,hx,dx⟩:=HS.out.get hlk
       have dx:=at8 dx;obtain ⟨xt,⟨xi,⟨xx,xy,xz⟩⟩,⟨x0,x1,x2⟩⟩:=x;dsimp only at dx;have e0:=dx.1;have zx:=cell_lt e0;have HXX:=Lib.hid hx
       have hnk:(n:Int)<(m1:Int):=by omega
       generalize hFK:(l.take n).any (fun s:Ch.Stay=>s.ticket==jt)=FK;have HFK:=Lib.hid hFK;clear hx dx hFK;cases FK
       ·cases hte:(xt==jt)
        ·have hst:(l.take (n+1)).any (fun s:Ch.Stay=>s.ticket==jt)=false:=by rw [any_takeF _ HXX.out,HFK.out];simp [hte]
         have HST:=Lib.hid hst;clear hst
         go_upto_region 37 with fail
         (refine wp_region_ext (by kernel_rfl) (by kernel_rfl) ?_;(repeat (first|go_big_quiet_step (fail)|quiet_step (fail)));refine wpQuiet_nil ?_;intro _ hw';obtain ⟨oq,nq,hw''⟩:=hw';subst hw'')
         go_wp2;go_roundw
         case rel=>first|exact ⟨n+1,by omega,by go_num,congrArg Value.bool HST.out.symm,(by simp (maxDischargeDepth:=60))⟩|(repeat apply Exists.intro;refine ⟨?_,rfl⟩;exact ⟨n+1,by omega,by go_num,congrArg Value.bool HST.out.symm,(by simp (maxDischargeDepth:=60))⟩)
         case measure=>simp [intOf];omega
        ·have hst:(l.take (n+1)).any (fun s:Ch.Stay=>s.ticket==jt)=true:=by rw [any_takeF _ HXX.out,HFK.out];simp [hte]
         have HST:=Lib.hid hst;clear hst
         go_upto_region 37 with fail
         (refine wp_region_ext (by kernel_rfl) (by kernel_rfl) ?_;(repeat (first|go_big_quiet_step (fail)|quiet_step (fail)));refine wpQuiet_nil ?_;intro _ hw';obtain ⟨oq,nq,hw''⟩:=hw';subst hw'')
         go_wp2;go_roundw
         case rel=>first|exact ⟨n+1,by omega,by go_num,congrArg Value.bool HST.out.symm,(by simp (maxDischargeDepth:=60))⟩|(repeat apply Exists.intro;refine ⟨?_,rfl⟩;exact ⟨n+1,by omega,by go_num,congrArg Value.bool HST.out.symm,(by simp (maxDischargeDepth:=60))⟩)
         case measure=>simp [intOf];omega
       ·have hst:(l.take (n+1)).any (fun s:Ch.Stay=>s.ticket==jt)=true:=by rw [any_takeF _ HXX.out,HFK.out];simp
        have HST:=Lib.hid hst;clear hst
        go_upto_region 37 with fail
        (refine wp_region_ext (by kernel_rfl) (by kernel_rfl) ?_;(repeat (first|go_big_quiet_step (fail)|quiet_step (fail)));refine wpQuiet_nil ?_;intro _ hw';obtain ⟨oq,nq,hw''⟩:=hw';subst hw'')
        go_wp2;go_roundw
        case rel=>first|exact ⟨n+1,by omega,by go_num,congrArg Value.bool HST.out.symm,(by simp (maxDischargeDepth:=60))⟩|(repeat apply Exists.intro;refine ⟨?_,rfl⟩;exact ⟨n+1,by omega,by go_num,congrArg Value.bool HST.out.symm,(by simp (maxDischargeDepth:=60))⟩)
        case measure=>simp [intOf];omega
      ·have hall:(l.take n).any (fun s:Ch.Stay=>s.ticket==jt)=l.any (fun s:Ch.Stay=>s.ticket==jt):=by rw [List.take_of_length_le (by have:=E1.out;omega)]
       rw [hall];clear hall;generalize hF:l.any (fun s:Ch.Stay=>s.ticket==jt)=F;have HF0:=Lib.hid hF;clear hF;generalize hWN:World.plus _ _ _=wn
       have hxn:Ext wc wn:=by rw [←hWN];exact (by simp (maxDischargeDepth:=60))
       have HXN:=Lib.hid hxn;have gn1:=ext_cell hxn kc1;have gn2:=ext_cell hxn kc2;have gj0:=ext_cell hxn dj.1;have gj1:=ext_cell hxn dj.2;have zn:=cell_lt gn1;have zj:=cell_lt gj0;clear hWN hxn;go_wp2
       go_loopw [14,16] (fun fv i wk=>∃ n:Nat,n≤k'∧i = .int .i64 n∧fv = .bool (F&&!(js.take n).any (fun x=>decide (x=⟨jt,jf⟩)))∧Ext wn wk) (fun _ i _=>k' - (intOf i).toNat)
       case atStart=>exact ⟨0,by omega,rfl,by simp,(by simp (maxDischargeDepth:=60))⟩
       case round=>
        obtain ⟨n,hn,rfl,rfl,o'',m'',rfl⟩:=hrel
        by_cases hlk:n<k'
        ·obtain ⟨x,hx,dx⟩:=HK.out.get' (k:=n) (by omega)
         have dx:=at2 dx;obtain ⟨xt,xf⟩:=x;dsimp only at dx;have e0:=ext_cell HXN.out dx.1;have e1:=ext_cell HXN.out dx.2;have zx:=cell_lt e0;have HXX:=Lib.hid hx
         have hnk:(n:Int)<(m2:Int):=by omega
         have hnk2:(n:Int)<(k':Int):=by omega
         generalize hFK:(F&&!(js.take n).any (fun x=>decide (x=⟨jt,jf⟩)))=FK;clear hx dx;cases FK
         ·have hst:(F&&!(js.take (n+1)).any (fun x=>decide (x=⟨jt,jf⟩)))=false:=by rw [any_takeF _ HXX.out,Bool.not_or,←Bool.and_assoc,hFK];simp
          have HST:=Lib.hid hst;clear hst hFK
          go_upto_region 41 with fail
          (refine wp_region_ext (by kernel_rfl) (by kernel_rfl) ?_;(repeat (first|go_big_quiet_step (fail)|quiet_step (fail)));refine wpQuiet_nil ?_;intro _ hw';obtain ⟨oq,nq,hw''⟩:=hw';subst hw'')
          go_wp2;go_roundw
          case rel=>first|exact ⟨n+1,by omega,by go_num,congrArg Value.bool HST.out.symm,(by simp (maxDischargeDepth:=60))⟩|(repeat apply Exists.intro;refine ⟨?_,rfl⟩;exact ⟨n+1,by omega,by go_num,congrArg Value.bool HST.out.symm,(by simp (maxDischargeDepth:=60))⟩)
          case measure=>simp [intOf];omega
         ·by_cases hxe:(⟨xt,xf⟩:Ch.Job)=⟨jt,jf⟩
          ·have hq:∀ w,(Go.binOp .neq 94 (.agg #[vi xt,.bool xf]) (.agg #[vi jt,.bool jf])).run Try.prog w = .ok (.bool false) w:=fun w=>by rw [neqStruct w (eqJob w 9998 ⟨xt,xf⟩ ⟨jt,jf⟩)];simp [hxe]
           have hst:(F&&!(js.take (n+1)).any (fun x=>decide (x=⟨jt,jf⟩)))=false:=by rw [any_takeF _ HXX.out,Bool.not_or,←Bool.and_assoc,hFK];simp [hxe]
           have HST:=Lib.hid hst;clear hst hFK
           go_upto_region 41 with fail
           (refine wp_region_ext (by kernel_rfl) (by kernel_rfl) ?_;(repeat (first|go_big_quiet_step (fail)|quiet_step (fail)));refine wpQuiet_nil ?_;intro _ hw';obtain ⟨oq,nq,hw''⟩:=hw';subst hw'')
           go_wp2;go_roundw
           case rel=>first|exact ⟨n+1,by omega,by go_num,congrArg Value.bool HST.out.symm,(by simp (maxDischargeDepth:=60))⟩|(repeat apply Exists.intro;refine ⟨?_,rfl⟩;exact ⟨n+1,by omega,by go_num,congrArg Value.bool HST.out.symm,(by simp (maxDischargeDepth:=60))⟩)
           case measure=>simp [intOf];omega
          ·have hq:∀ w,(Go.binOp .neq 94 (.agg #[vi xt,.bool xf]) (.agg #[vi jt,.bool jf])).run Try.prog w = .ok (.bool true) w:=fun w=>by rw [neqStruct w (eqJob w 9998 ⟨xt,xf⟩ ⟨jt,jf⟩)];simp [hxe]
           have hst:(F&&!(js.take (n+1)).any (fun x=>decide (x=⟨jt,jf⟩)))=true:=by rw [any_takeF _ HXX.out,Bool.not_or,←Bool.and_assoc,hFK];simp [hxe]
           have HST:=Lib.hid hst;clear hst hFK
           go_upto_region 41 with fail
           (refine wp_region_ext (by kernel_rfl) (by kernel_rfl) ?_;(repeat (first|go_big_quiet_step (fail)|quiet_step (fail)));refine wpQuiet_nil ?_;intro _ hw';obtain ⟨oq,nq,hw''⟩:=hw';subst hw'')
           go_wp2;go_roundw
           case rel=>first|exact ⟨n+1,by omega,by go_num,congrArg Value.bool HST.out.symm,(by simp (maxDischargeDepth:=60))⟩|(repeat apply Exists.intro;refine ⟨?_,rfl⟩;exact ⟨n+1,by omega,by go_num,congrArg Value.bool HST.out.symm,(by simp (maxDischargeDepth:=60))⟩)
           case measure=>simp [intOf];omega
        ·have hkn:n=k':=by omega
         subst hkn
         have hdec:(F&&!(js.take n).any (fun x=>decide (x=⟨jt,jf⟩))) = !decide ((l.any fun s=>s.ticket==jt)=false∨(⟨jt,jf⟩:Ch.Job)∈js.take n):=by
          rw [HF0.out]
          have:(js.take n).any (fun x=>decide (x=(⟨jt,jf⟩:Ch.Job)))=decide ((⟨jt,jf⟩:Ch.Job)∈js.take n):=by rw [Bool.eq_iff_iff];simp
          rw [this]
          cases F <;> simp
         rw [hdec];clear hdec
         by_cases hd:(l.any fun s=>s.ticket==jt)=false∨(⟨jt,jf⟩:Ch.Job)∈js.take n
         ·have HBAD:Hid (Ch.jobsFault l [] js=3):=by unfold Hid;rw [HT.out,jobs_atF l HJJ.out,if_pos hd]
          rw [decide_eq_true hd];clear hd;go_wp2;go_ret;exact ⟨by rw [HBF.out,HBAD.out];rfl,(HX.out.trans HXN.out).trans (by simp (maxDischargeDepth:=60))⟩
         ·have HGO:Hid (Ch.jobsFault l [] js=Ch.jobsFault l (js.take (n+1)) (js.drop (n+1))):=by unfold Hid;rw [HT.out,jobs_atF l HJJ.out,if_neg hd]
          rw [decide_eq_false hd];clear hd;go_wp2;go_roundw
          case rel=>first|exact ⟨n+1,by omega,by go_num,HGO,HXN.out.trans (by simp (maxDischargeDepth:=60))⟩|(repeat apply Exists.intro;refine ⟨?_,rfl⟩;exact ⟨n+1,by omega,by go_num,HGO,HXN.out.trans (by simp (maxDischargeDepth:=60))⟩)
          case measure=>simp [intOf];omega
    ·have hkm:k'=m2:=by omega
     subst hkm;go_wp2;go_ret;exact ⟨by rw [HBF.out,HT.out,List.drop_of_length_le (by have:=E2.out;omega)];rfl,HX.out.trans (by simp (maxDischargeDepth:=60))⟩
end Go.Proofs.Ytplomeacjbkgnaa
