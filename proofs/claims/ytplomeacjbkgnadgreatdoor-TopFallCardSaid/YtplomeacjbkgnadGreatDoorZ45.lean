import Derived.Test.YtplomeacjbkgnadGreatDoorZ44
set_option linter.all false
set_option maxRecDepth 100000
set_option maxHeartbeats 16000000
namespace Go.Proofs.YtplomeacjbkgnadGreatDoor
open Go.RowKit
theorem Own0.less {w0:World} {N N':Nat→Prop} (h:∀ i,N i→N' i):∀ i,Own0 w0 N' i→Own0 w0 N i:=fun i hi=>⟨hi.1,fun hn=>hi.2 (h i hn)⟩
theorem walk_val {w0:World} {N:Nat→Prop} {pb mb db lb hb:Nat} {h:Ch.House} {k:Nat} {w:World} (s:St w0 N pb mb db lb hb h k w) (n:Int):
  Calls Tryz.prog 31 #[.pointer (some ⟨pb,0,none⟩),vi n] w fun e w'=>e = .returned (errV (h.p.walk n).2)∧St w0 N pb mb db lb hb { h with p:=(h.p.walk n).1 } k w'∧Kept (Own0 w0 N) w w':=by
 refine (walk_any s.plantAt s.wf n).mono ?_;rintro e w' ⟨rfl,hp,hk⟩;obtain ⟨q1,q2⟩:=s.plant hk hp (Ch.Live.inv2_walk s.inv n);exact ⟨rfl,q1,q2⟩
theorem leave_val {w0:World} {N:Nat→Prop} {pb mb db lb hb:Nat} {h:Ch.House} {k:Nat} {w:World} (s:St w0 N pb mb db lb hb h k w):
  Calls Tryz.prog 33 #[.pointer (some ⟨pb,0,none⟩)] w fun e w'=>e = .returned (.tuple #[vi h.p.leave.2.1,errV h.p.leave.2.2])∧St w0 N pb mb db lb hb { h with p:=h.p.leave.1 } k w'∧Kept (Own0 w0 N) w w':=by
 refine (leave_any s.plantAt).mono ?_;rintro e w' ⟨rfl,hp,hk⟩;obtain ⟨q1,q2⟩:=s.plant hk hp (Ch.Live.inv2_leave s.inv);exact ⟨rfl,q1,q2⟩
theorem st_goals {w0:World} {N:Nat→Prop} {pb mb db lb hb:Nat} {h:Ch.House} {k:Nat} {w:World} (s:St w0 N pb mb db lb hb h k w):
  Calls Tryz.prog 20 #[.pointer (some ⟨hb,0,none⟩)] w fun r w'=>∃ a c,r = .returned (.slice a h.goals.length c)∧Sl w' 2 goalCells h.goals a h.goals.length c∧Ext w w':=by
 have hg:=Ch.Live.goals_few s.inv;obtain ⟨x,rfl,h2,h3,h4,s⟩:=s;exact hgoals_now s.hn hg
def waitsOne (b:Ch.Book) (ba:Int) (j:Ch.Job):Bool:=!j.fetch&&(b.stay j.ticket).car.id==ba
theorem any_succ {α:Type} {l:List α} {f:α→Bool} {k:Nat} {x:α} (hx:l[k]? = some x):(l.take (k+1)).any f=((l.take k).any f || f x):=by
 rw [List.take_add_one,hx,List.any_append];simp
theorem settle_now {w0:World} {N:Nat→Prop} {pb mb db lb hb:Nat} {h:Ch.House} {k:Nat} {w:World} (s:St w0 N pb mb db lb hb h k w) (hk:k+2502<4294967296) (hT:Tab w0):
  Calls Tryz.prog 10 #[.pointer (some ⟨pb,0,none⟩),.pointer (some ⟨hb,0,none⟩)] w fun r w'=>r = .returned (.tuple #[])∧Kept (Own0 w0 N) w w'∧St w0 N pb mb db lb hb (Ch.Live.House.settle h) (k+2500) w':=by
 have HS:=Lib.hid s;have HT:=Lib.hid hT;clear s hT;go_enter Tryz.func10,Tryz.ntmps10
 go_upto_region 1 with fail
 go_loopw [4] (fun i2 wr=>∃ (j:Nat) (h':Ch.House),i2 = .int .i64 (j:Int)∧Hid (j≤2500)∧Hid (Ch.Live.settleN (2500 - j) j h'=Ch.Live.House.settle h)∧Hid (Kept (Own0 w0 N) w wr)∧Hid (St w0 N pb mb db lb hb h' (k+j) wr)) (fun i2 _=>2500 - (intOf i2).toNat)
 case atStart=>exact ⟨0,h,rfl,by unfold Hid;decide,rfl,Kept.of_ext (by simp (maxDischargeDepth:=60)),HS.out.ext (by simp (maxDischargeDepth:=60))⟩
 case round =>
  obtain ⟨j,h',rfl,HJ,HE,HKR,HSR⟩:=hrel;have hj:=HJ.out
  by_cases hlt:j<2500
  ·have h2 : (j:Int)<2500:=by omega
   have hk2:k+j+2<4294967296:=by omega
   have HE2:Hid ((if Ch.Live.House.quits h' j then Ch.Live.House.pre h' else Ch.Live.settleN (2500 - (j+1)) (j+1) (Ch.Live.House.pre h').tick)=Ch.Live.House.settle h):=by
    have e:=HE.out;rw [show 2500 - j=(2500 - (j+1))+1 by omega] at e;exact e
   have HQ0:Hid (Ch.Live.House.quits h' j=(h'.p.door&&h'.p.bay==0&&h'.p.lift==0&&h'.b.jobs.isEmpty&&h'.goals.isEmpty&&decide (100<j))):=rfl;have HINV:=Lib.hid HSR.out.inv;have HWF:=HSR.out.wf;obtain ⟨hs1,hs2⟩:=HSR.out.book_small
   obtain ⟨dd,hdd⟩:∃ x,Hid (h'.p.door=x):=⟨_,rfl⟩
   obtain ⟨li,hli⟩:∃ x,Hid (h'.p.lift=x):=⟨_,rfl⟩
   obtain ⟨ba,hba⟩:∃ x,Hid (h'.p.bay=x):=⟨_,rfl⟩
   have HSN:Hid (senseA h'.p = .agg #[vi h'.p.height,vi h'.p.ext,.bool dd,vi h'.p.people,vi li,vi ba,.bool (h'.p.full h'.p.ext),.bool (h'.p.full (h'.p.ext - 1)),.bool (h'.p.full (h'.p.ext+1))]):=by
    unfold Hid senseA;rw [hdd.out,hli.out,hba.out]
   clear HE HJ
   go_upto_region 4 with (go_at_call 15;(with_reducible refine (sense_val _ (HSR.out.plantAt.ext (by simp (maxDischargeDepth:=60))) HWF HSN).mono ?_);rintro e w1 ⟨rfl,o1,n1,rfl⟩)
   generalize hW:World.alloc _ _=w2;generalize hA:wr.heap.size+_=A
   have hx2:Ext wr w2:=by rw [←hW];exact (by simp (maxDischargeDepth:=60))
   have a2:w2.cell? ⟨A,2,none⟩=some (.bool dd):=by rw [←hW,←hA];simp [go_sem]
   have a4:w2.cell? ⟨A,4,none⟩=some (vi li):=by rw [←hW,←hA];simp [go_sem]
   have a5:w2.cell? ⟨A,5,none⟩=some (vi ba):=by rw [←hW,←hA];simp [go_sem]
   have hA1:wr.heap.size≤A:=by omega
   have hA20:=cell_lt a2
   obtain ⟨NA,hsub2,hNA,hs2x⟩:∃ N':Nat→Prop,(∀ i,N i→N' i)∧N' A∧St w0 N' pb mb db lb hb h' (k+j) w2:=⟨_,fun i hi=>Or.inl hi,Or.inr ⟨hA1,hA20⟩,HSR.out.own hx2⟩
   have HS2:=Lib.hid hs2x;clear hs2x;have HK2:Hid (Kept (Own0 w0 N) w w2):=HKR.out.trans (Kept.of_ext hx2)
   have HNAA:Hid (¬ Own0 w0 NA A):=fun hh=>hh.2 hNA
   clear hW hA hx2 HKR HSR HSN
   go_upto_if 17 with fail
   go_cut [] (fun wx=>St w0 NA pb mb db lb hb { h' with p:=if dd then (h'.p.walk (-9)).1 else h'.p } (k+j) wx∧Kept (Own0 w0 NA) w2 wx)
   case first=>
    cases dd
    ·go_wp2_with fail
     go_meet;exact ⟨HS2.out.ext (by simp (maxDischargeDepth:=60)),Kept.of_ext (by simp (maxDischargeDepth:=60))⟩
    ·go_wp2_with (go_at_call 31;refine (walk_val (HS2.out.ext (by simp (maxDischargeDepth:=60))) (-9)).mono ?_;rintro r w4 ⟨rfl,hs4,hk4⟩;have HS4:=Lib.hid hs4;have HK4:Hid (Kept (Own0 w0 NA) w2 w4):=(Kept.of_ext (by simp (maxDischargeDepth:=60)):Kept (Own0 w0 NA) w2 _).trans hk4;clear hs4 hk4)
     go_meet;exact ⟨HS4.out.ext (by simp (maxDischargeDepth:=60)),HK4.out.trans (Kept.of_ext (by simp (maxDischargeDepth:=60)))⟩
   case rest =>
    obtain ⟨hsc,hkc⟩:=hcut;replace a2:=cell_kept hkc a2 HNAA.out;replace a4:=cell_kept hkc a4 HNAA.out;replace a5:=cell_kept hkc a5 HNAA.out;have HSC:=Lib.hid hsc;have HKC:=Lib.hid hkc;have hA2:=cell_lt a2;clear hsc hkc
    obtain ⟨p1,HP1⟩:∃ x,Hid ((if dd then (h'.p.walk (-9)).1 else h'.p)=x):=⟨_,rfl⟩
    rw [HP1.out] at HSC;obtain ⟨sizes,p,⟨last,l,js⟩,goals⟩:=h';dsimp only at hs1 hs2 hdd hli hba HSC HP1 HWF HQ0 HINV;have HJF:Hid (∀ j∈js,∃ s∈l,s.ticket=j.ticket):=HINV.out.inv.core.book.found
    go_upto_region 7 with (go_at_call 12;refine (st_book (HSC.out.ext (by simp (maxDischargeDepth:=60)))).mono ?_;rintro r w4 ⟨y1,d1,y2,d2,rfl,t1,t2,hx4,-,-⟩;dsimp only at t1 t2 ⊢;have HX4:Hid (Ext wc w4):=Ext.trans (by simp (maxDischargeDepth:=60)) hx4;have T1:=Lib.hid t1;have T2:=Lib.hid t2;clear t1 t2 hx4)
    generalize hW:World.alloc _ _=w3;generalize hB:w4.heap.size=B
    have hx43:Ext w4 w3:=by rw [←hW];exact (by simp (maxDischargeDepth:=60))
    have hx3:=HX4.out.trans hx43
    have b0:w3.cell? ⟨B,0,none⟩=some (vi last):=by rw [←hW,←hB];simp [go_sem]
    have b1:w3.cell? ⟨B,1,none⟩=some (.slice y1 l.length d1):=by rw [←hW,←hB];simp [go_sem]
    have b2:w3.cell? ⟨B,2,none⟩=some (.slice y2 js.length d2):=by rw [←hW,←hB];simp [go_sem]
    have hB1:wc.heap.size≤B:=by rw [←hB];exact HX4.out.below.size
    have U1:=Lib.hid (Sl.below T1.out hx43.below);have U2:=Lib.hid (Sl.below T2.out hx43.below);have ub1:=U1.out.bound;have ub2:=U2.out.bound;have hB2:=cell_lt b0
    obtain ⟨NB,hsub3,hNB,hs3x⟩:∃ N':Nat→Prop,(∀ i,NA i→N' i)∧N' B∧St w0 N' pb mb db lb hb ⟨sizes,p1,⟨last,l,js⟩,goals⟩ (k+j) w3:=⟨_,fun i hi=>Or.inl hi,Or.inr ⟨hB1,hB2⟩,HSC.out.own hx3⟩
    have HS3:=Lib.hid hs3x;have HK3:Hid (Kept (Own0 w0 N) w w3):=HK2.out.trans ((HKC.out.wide (Own0.less hsub2)).trans (Kept.of_ext hx3));clear hs3x;replace a2:=xcell hx3 a2;replace a4:=xcell hx3 a4;replace a5:=xcell hx3 a5;have hA3:=cell_lt a2
    have HNA3:Hid (¬ Own0 w0 NB A):=fun hh=>hh.2 (hsub3 A hNA)
    have HNB3:Hid (¬ Own0 w0 NB B):=fun hh=>hh.2 hNB
    clear hW hB hx43 hx3 T1 T2 HX4 HS2 HSC HKC HK2
    go_upto_region 9 with fail
    go_loopw [7,8,9] (fun s7 s8 s9 wl=>∃ m:Nat,m≤js.length∧s8 = .int .i64 (m:Int)∧s7 = .bool ((js.take m).any (waitsOne ⟨last,l,js⟩ ba))∧Ext w3 wl) (fun _ s8 _ _=>js.length - (intOf s8).toNat)
    case atStart=>exact ⟨0,Nat.zero_le _,rfl,rfl,Ext.refl _⟩
    case round =>
     obtain ⟨m,hm,rfl,rfl,o,no,rfl⟩:=hrel
     by_cases hml:m<js.length
     ·obtain ⟨bb,q,x,rfl,hx,dx⟩:=U2.out.get hml
      have dx:=at2 dx;have hq:=cell_lt dx.1;obtain ⟨t,f⟩:=x;dsimp only at dx;have HAS:=Lib.hid (any_succ (f:=waitsOne ⟨last,l,js⟩ ba) hx)
      have hm0:(0:Int)≤(m:Int):=by omega
      have hm1:(m:Int)<(js.length:Int):=by omega
      have hm2:(m:Int)≤(d2:Int):=by omega
      obtain ⟨si,⟨st,⟨sid,⟨sl1,sl2,sl3⟩⟩,⟨sp1,sp2,sp3⟩⟩,hsi,hsl,hst,htt⟩:=stay_at (last:=last) (js:=js) (HJF.out _ (List.mem_of_getElem? hx));dsimp only at hsi hst;have hsm:si<l.length:=(List.getElem?_eq_some_iff.1 hsl).1;have HI:Hid (Ch.indexOf (fun s:Ch.Stay=>s.ticket==t) l=(si:Int)):=hsi
      have HF:Hid (waitsOne ⟨last,l,js⟩ ba ⟨t,f⟩=(!f&&sid==ba)):=by unfold Hid waitsOne;dsimp only;rw [hst]
      obtain ⟨b',q',s',rfl,hs',ds⟩:=U1.out.get hsm;rw [hsl] at hs';cases hs';have ds:=at8 ds;have hq2:=cell_lt ds.1;have e1:=ds.2.1
      have hs0:(0:Int)≤(si:Int):=by omega
      have hs1':(si:Int)<(l.length:Int):=by omega
      have hs2':(si:Int)≤(d1:Int):=by omega
      clear hsl hst hsi htt hx ds
      go_upto_region 11 with fail
      (refine wp_region_ext (by kernel_rfl) (by kernel_rfl) ?_;(repeat (first|go_big_quiet_step ((intro _;go_at_call 32;exact ext_callG (find_stay (si:Int) _ _ _ _ _ _ _ _ l _ (Sl.below U1.out (Ext.below (by simp (maxDischargeDepth:=60)))) HI) (by rintro w' ⟨o',n',rfl⟩;exact ⟨_,n',by first|(simp only [plus_plus];rfl)|(simp only [plus_plus,Array.append_assoc];rfl)|rfl⟩)))|quiet_step ((intro _;go_at_call 32;exact ext_callG (find_stay (si:Int) _ _ _ _ _ _ _ _ l _ (Sl.below U1.out (Ext.below (by simp (maxDischargeDepth:=60)))) HI) (by rintro w' ⟨o',n',rfl⟩;exact ⟨_,n',by first|(simp only [plus_plus];rfl)|(simp only [plus_plus,Array.append_assoc];rfl)|rfl⟩)))));refine wpQuiet_nil ?_;intro _ hw';obtain ⟨oq,nq,hw''⟩:=hw';subst hw'')
      go_upto_region 12 with fail
      cases hV:(js.take m).any (waitsOne ⟨last,l,js⟩ ba)
      ·cases f
       ·by_cases hsb:sid=ba
        ·(refine wp_region_ext (by kernel_rfl) (by kernel_rfl) ?_;(repeat (first|go_big_quiet_step (fail)|quiet_step (fail)));refine wpQuiet_nil ?_;intro _ hw';obtain ⟨oq,nq,hw''⟩:=hw';subst hw'')
         go_wp2;go_roundw
         case rel=>exact ⟨m+1,by omega,by go_num,by rw [HAS.out,hV,HF.out];simp [hsb],(by simp (maxDischargeDepth:=60))⟩
         case measure=>simp [intOf];omega
        ·(refine wp_region_ext (by kernel_rfl) (by kernel_rfl) ?_;(repeat (first|go_big_quiet_step (fail)|quiet_step (fail)));refine wpQuiet_nil ?_;intro _ hw';obtain ⟨oq,nq,hw''⟩:=hw';subst hw'')
         go_wp2;go_roundw
         case rel=>exact ⟨m+1,by omega,by go_num,by rw [HAS.out,hV,HF.out];simp [hsb],(by simp (maxDischargeDepth:=60))⟩
         case measure=>simp [intOf];omega
       ·(refine wp_region_ext (by kernel_rfl) (by kernel_rfl) ?_;(repeat (first|go_big_quiet_step (fail)|quiet_step (fail)));refine wpQuiet_nil ?_;intro _ hw';obtain ⟨oq,nq,hw''⟩:=hw';subst hw'')
        go_wp2;go_roundw
        case rel=>exact ⟨m+1,by omega,by go_num,by rw [HAS.out,hV,HF.out];simp,(by simp (maxDischargeDepth:=60))⟩
        case measure=>simp [intOf];omega
      ·(refine wp_region_ext (by kernel_rfl) (by kernel_rfl) ?_;(repeat (first|go_big_quiet_step (fail)|quiet_step (fail)));refine wpQuiet_nil ?_;intro _ hw';obtain ⟨oq,nq,hw''⟩:=hw';subst hw'')
       go_wp2;go_roundw
       case rel=>exact ⟨m+1,by omega,by go_num,by rw [HAS.out,hV];simp,(by simp (maxDischargeDepth:=60))⟩
       case measure=>simp [intOf];omega
     ·obtain rfl:m=js.length:=by omega
      obtain ⟨wt,HWT⟩:∃ x,Hid (Ch.Live.waitsB ⟨last,l,js⟩ ba=x):=⟨_,rfl⟩
      obtain ⟨G,HG⟩:∃ x,Hid ((dd&&ba != 0&&!wt)=x):=⟨_,rfl⟩
      obtain ⟨Q,HQ⟩:∃ x,Hid ((dd&&ba==0&&li==0&&js.isEmpty&&goals.isEmpty&&decide (100<j))=x):=⟨_,rfl⟩
      have HPRE:Hid (Ch.Live.House.pre ⟨sizes,p,⟨last,l,js⟩,goals⟩=⟨sizes,if G then p1.leave.1 else p1,⟨last,l,js⟩,goals⟩):=by
       unfold Hid Ch.Live.House.pre;dsimp only;rw [hdd.out,hba.out,HWT.out,HP1.out,←HG.out]
       cases dd <;> cases wt <;> by_cases hb0:ba=0 <;> simp [hb0]
      have HQQ:Hid (Ch.Live.House.quits ⟨sizes,p,⟨last,l,js⟩,goals⟩ j=Q):=by
       unfold Hid;rw [HQ0.out,hdd.out,hba.out,hli.out];exact HQ.out
      rw [HQQ.out,HPRE.out] at HE2
      have e:(js.take js.length).any (waitsOne ⟨last,l,js⟩ ba)=wt:=by rw [List.take_length];exact HWT.out
      rw [e];clear e;generalize hW:World.plus w3 o no=w5
      have hx5:Ext w3 w5:=by rw [←hW];exact (by simp (maxDischargeDepth:=60))
      replace a2:=xcell hx5 a2;replace a4:=xcell hx5 a4;replace a5:=xcell hx5 a5;replace b2:=xcell hx5 b2;have HS5:=Lib.hid (HS3.out.ext hx5);have HK5:Hid (Kept (Own0 w0 N) w w5):=HK3.out.trans (Kept.of_ext hx5);have hA5:=cell_lt a2;have hB5:=cell_lt b2;clear hW hx5 HS3 HK3 b0 b1 hA3 hB2 hA2 hml hm U1 U2
      go_upto_region 13 with fail
      go_cut [73] (fun s73 wx=>s73 = .bool G∧wx=w5)
      case first=>
       have hg:=HG.out;cases dd
       ·go_wp2_with fail
        go_meet;exact ⟨by rw [←hg];rfl,rfl⟩
       ·by_cases hb0:ba=0
        ·go_wp2_with fail
         go_meet;exact ⟨by rw [←hg];simp [hb0],rfl⟩
        ·go_wp2_with fail
         go_meet;exact ⟨by rw [←hg];simp [hb0],rfl⟩
      case rest=>
       obtain ⟨rfl,rfl⟩:=hcut
       go_upto_if 73 with fail
       go_cut [] (fun wx=>St w0 NB pb mb db lb hb ⟨sizes,if G then p1.leave.1 else p1,⟨last,l,js⟩,goals⟩ (k+j) wx∧Kept (Own0 w0 NB) wc wx)
       case first=>
        cases G
        ·go_wp2_with fail
         go_meet;exact ⟨HS5.out.ext (by simp (maxDischargeDepth:=60)),Kept.of_ext (by simp (maxDischargeDepth:=60))⟩
        ·go_wp2_with (go_at_call 33;refine (leave_val (HS5.out.ext (by simp (maxDischargeDepth:=60)))).mono ?_;rintro r w6 ⟨rfl,hs6,hk6⟩;have HS6:=Lib.hid hs6;have HK6:Hid (Kept (Own0 w0 NB) wc w6):=(Kept.of_ext (by simp (maxDischargeDepth:=60)):Kept (Own0 w0 NB) wc _).trans hk6;clear hs6 hk6)
         go_meet;exact ⟨HS6.out.ext (by simp (maxDischargeDepth:=60)),HK6.out.trans (Kept.of_ext (by simp (maxDischargeDepth:=60)))⟩
       case rest=>
        obtain ⟨hsd,hkd⟩:=hcut;replace a2:=cell_kept hkd a2 HNA3.out;replace a4:=cell_kept hkd a4 HNA3.out;replace a5:=cell_kept hkd a5 HNA3.out;replace b2:=cell_kept hkd b2 HNB3.out;generalize hp2:(if G then p1.leave.1 else p1)=p2 at hsd HPRE HE2;have HSD:=Lib.hid hsd;have HKD:Hid (Kept (Own0 w0 N) w wc):=HK5.out.trans (hkd.wide (Own0.less (fun i hi=>hsub3 i (hsub2 i hi))));clear hsd hkd hp2 hA5 hB5;have hA5:=cell_lt a2;have hB5:=cell_lt b2
        go_upto_region 15 with fail
        go_cut [8,106] (fun s8 s106 wx=>s106 = .bool Q∧Ext wc wx)
        case first=>
         have hg:=HQ.out;cases dd
         ·go_wp2_with fail
          go_meet;exact ⟨by rw [←hg];rfl,(by simp (maxDischargeDepth:=60))⟩
         ·by_cases q1:ba=0
          ·by_cases q2:li=0
           ·by_cases q3:js.length=0
            ·by_cases q4:goals.length=0
             ·have q4e:goals=[]:=List.eq_nil_of_length_eq_zero q4
              have q3e:js=[]:=List.eq_nil_of_length_eq_zero q3
              by_cases q5:100<(j:Int)
              ·go_wp2_with (go_at_call 20;refine (st_goals (HSD.out.ext (by simp (maxDischargeDepth:=60)))).mono ?_;rintro r w8 ⟨ga,gc,rfl,-,hx8⟩;obtain ⟨o8,n8,rfl⟩:=hx8)
               go_meet;exact ⟨by rw [←hg];simp [q1,q2,q3e,q4e];omega,(by simp (maxDischargeDepth:=60))⟩
              ·go_wp2_with (go_at_call 20;refine (st_goals (HSD.out.ext (by simp (maxDischargeDepth:=60)))).mono ?_;rintro r w8 ⟨ga,gc,rfl,-,hx8⟩;obtain ⟨o8,n8,rfl⟩:=hx8)
               go_meet;exact ⟨by rw [←hg];simp [q1,q2,q3e,q4e];omega,(by simp (maxDischargeDepth:=60))⟩
             ·have q4e:goals.isEmpty=false:=by cases goals;simp at q4;rfl
              go_wp2_with (go_at_call 20;refine (st_goals (HSD.out.ext (by simp (maxDischargeDepth:=60)))).mono ?_;rintro r w8 ⟨ga,gc,rfl,-,hx8⟩;obtain ⟨o8,n8,rfl⟩:=hx8);go_meet;exact ⟨by rw [←hg];simp [q4e],(by simp (maxDischargeDepth:=60))⟩
            ·have q3e:js.isEmpty=false:=by cases js;simp at q3;rfl
             go_wp2_with fail;go_meet;exact ⟨by rw [←hg];simp [q3e],(by simp (maxDischargeDepth:=60))⟩
           ·go_wp2_with fail
            go_meet;exact ⟨by rw [←hg];simp [q2],(by simp (maxDischargeDepth:=60))⟩
          ·go_wp2_with fail
           go_meet;exact ⟨by rw [←hg];simp [q1],(by simp (maxDischargeDepth:=60))⟩
        case rest=>
         obtain ⟨rfl,hxq⟩:=hcut;have HSE:=Lib.hid (HSD.out.ext hxq);have HKE:Hid (Kept (Own0 w0 N) w wc):=HKD.out.trans (Kept.of_ext hxq);clear hxq a2 a4 a5 b2 HSD HKD;cases Q
         ·rw [if_neg (by decide)] at HE2
          go_wp2_with (go_at_call 14;refine (st_tick (HSE.out.ext (by simp (maxDischargeDepth:=60))) hk2 HT.out).mono ?_;rintro r w7 ⟨rfl,hk7,hs7⟩;have HK7:Hid (Kept (Own0 w0 N) w w7):=HKE.out.trans ((Kept.of_ext (by simp (maxDischargeDepth:=60)):Kept (Own0 w0 N) wc _).trans (hk7.wide (Own0.less (fun i hi=>hsub3 i (hsub2 i hi)))));have HS7:=Lib.hid hs7;clear hk7 hs7);go_roundw
          case rel=>exact ⟨j+1,_,by go_num,by unfold Hid;omega,HE2.out,HK7.out.trans (Kept.of_ext (by simp (maxDischargeDepth:=60))),(HS7.out.ext (by simp (maxDischargeDepth:=60))).drop (fun i hi=>hsub3 i (hsub2 i hi))⟩
          case measure=>simp [intOf];omega
         ·rw [if_pos rfl] at HE2
          go_wp2_with fail
          (try simp only [Exit.inBlock,Exit.then])
          refine bodyPost_ret (results_none rfl _ _ _) rfl ?_;refine ⟨rfl,HKE.out.trans (Kept.of_ext (by simp (maxDischargeDepth:=60))),?_⟩;rw [←HE2.out];exact ((HSE.out.ext (by simp (maxDischargeDepth:=60))).drop (fun i hi=>hsub3 i (hsub2 i hi))).more (by omega)
  ·have h2:¬ (j:Int)<2500:=by omega
   go_wp2
   go_end0
   obtain rfl:j=2500:=by omega
   exact ⟨rfl,HKR.out.trans (Kept.of_ext (by simp (maxDischargeDepth:=60))),by rw [←show Ch.Live.settleN (2500 - 2500) 2500 h'=_ from HE.out];exact HSR.out.ext (by simp (maxDischargeDepth:=60))⟩
end Go.Proofs.YtplomeacjbkgnadGreatDoor
