import Derived.Test.YtplomeacjbkgnabGreatDoorZ13
import Derived.Deep.DeepCutAuto
set_option linter.all false
set_option maxRecDepth 100000
set_option maxHeartbeats 16000000
namespace Go.Proofs.YtplomeacjbkgnabGreatDoor
open Go.RowKit
def pcond (a b c:Int) (s:Ch.Stay):Bool:=s.home.level==a&&(s.home.side==b&&(s.home.depth==c || s.home.depth==0))
def wjob (a b:Int) (s:Ch.Stay) (j:Ch.Job):Bool:=!j.fetch&&(j.ticket==s.ticket&&(s.home.level==a&&(s.home.side==b&&s.home.depth==1)))
def rfreeJ (js:List Ch.Job) (a b:Int) (s:Ch.Stay) (f:Bool) (n:Nat):Bool:=f&&!(js.take n).any (wjob a b s)
def sF (js:List Ch.Job) (a b c:Int) (f:Bool) (l:List Ch.Stay) (k:Nat):Bool:=f&&!(l.take k).any (fun s=>pcond a b c s || js.any (wjob a b s))
theorem any_take {α:Type} {l:List α} {k:Nat} {x:α} (p:α→Bool) (h:l[k]? = some x):(l.take (k+1)).any p=((l.take k).any p || p x):=by
 rw [List.take_add_one,h,List.any_append];simp
theorem rfreeJ_step {js:List Ch.Job} {a b:Int} {s:Ch.Stay} {f:Bool} {n:Nat} {j:Ch.Job} (h:js[n]? = some j):rfreeJ js a b s f (n+1)=(rfreeJ js a b s f n&&!wjob a b s j):=by
 unfold rfreeJ;rw [any_take _ h,Bool.not_or,Bool.and_assoc]
theorem rfreeTo_step {js:List Ch.Job} {a b c:Int} {f:Bool} {l:List Ch.Stay} {k:Nat} {s:Ch.Stay} (h:l[k]? = some s):sF js a b c f l (k+1)=rfreeJ js a b s (sF js a b c f l k&&!pcond a b c s) js.length:=by
 unfold sF rfreeJ;rw [any_take _ h,List.take_length];simp only [Bool.not_or,Bool.and_assoc]
theorem blk_eq {a b c:Int} {js:List Ch.Job} {s:Ch.Stay} (hd:s.home.depth=0∨s.home.depth=1) (hc:c=0∨c=1):
  (pcond a b c s || js.any (wjob a b s))=(decide (s.home=⟨a,b,c⟩) || decide (s.home=⟨a,b,0⟩) || uI js a b c s):=by
 obtain ⟨t,cr,⟨h0,h1,h2⟩⟩:=s;dsimp only at hd
 have hw:∀ x:Bool,(js.any (fun j:Ch.Job=>!j.fetch&&(j.ticket==t&&x)))=(x&&decide ((⟨t,false⟩:Ch.Job)∈js)):=by
  intro x;cases x
  ·simp
  ·rw [Bool.eq_iff_iff]
   simp only [List.any_eq_true,Bool.and_eq_true,Bool.not_eq_true',beq_iff_eq,decide_eq_true_eq,true_and,and_true];constructor
   ·rintro ⟨⟨jt,jf⟩,hm,h1,h2⟩
    dsimp only at h1 h2;subst h1 h2;exact hm
   ·intro hm
    exact ⟨_,hm,rfl,rfl⟩
 unfold pcond uI;have e:js.any (wjob a b ⟨t,cr,⟨h0,h1,h2⟩⟩)=((h0==a&&(h1==b&&h2==1))&&decide ((⟨t,false⟩:Ch.Job)∈js)):=hw _;rw [e];have hf:Ch.front ⟨h0,h1,h2⟩=⟨h0,h1,0⟩:=rfl;dsimp only;rw [hf]
 by_cases e0:h0=a
 ·by_cases e1:h1=b
  ·subst e0 e1
   rcases hd with rfl|rfl <;> rcases hc with rfl|rfl <;> simp
  ·simp [e1]
 ·simp [e0]
theorem rfree_do {js:List Ch.Job} {l:List Ch.Stay} {ls:List Ch.Size} {z:Ch.Size} {a b c:Int} {f:Bool} (hd:∀ s∈l,s.home.depth=0∨s.home.depth=1) (hc:c=0∨c=1) (hf:f=Ch.fits z (ls.getD (a - 1).toNat default)):
  sF js a b c f l l.length=doP l js ls z ⟨a,b,c⟩:=by
 unfold sF doP;rw [List.take_length,hf]
 have e:l.any (fun s=>pcond a b c s || js.any (wjob a b s))=(hasB l a b c || hasB l a b 0 || waitsB l js a b c):=by
  unfold hasB waitsB
  induction l with
  | nil=>rfl
  | cons s l ih=>
   simp only [List.any_cons];rw [ih (fun x hx=>hd x (by simp [hx])),blk_eq (hd s (by simp)) hc]
   cases decide (s.home=(⟨a,b,c⟩:Ch.Place)) <;> cases decide (s.home=(⟨a,b,0⟩:Ch.Place)) <;> cases uI js a b c s <;> simp
 rw [e];simp only [Bool.not_or,Bool.and_assoc]
theorem rfits_at (F:Bool) (a b c a' b' c':Int) (w:World) (hf:Hid (Ch.fits ⟨a,b,c⟩ ⟨a',b',c'⟩=F)):Calls Tryz.prog 38 #[.agg #[vi a,vi b,vi c],.agg #[vi a',vi b',vi c']] w fun e w'=>e = .returned (.bool F)∧Ext w w':=by
 have:=rfits_f a b c a' b' c' w;rw [hf.out] at this;exact this
theorem rpicked_any (last id lo hi he:Int) (a1:Option Addr) (m1 c1:Nat) (a2:Option Addr) (m2 c2:Nat) (aL:Option Addr) (nL cL:Nat) (l:List Ch.Stay) (js:List Ch.Job) (ls:List Ch.Size) (w:World)
  (h:Sl w 8 gA l a1 m1 c1) (h2:Sl w 2 jA js a2 m2 c2) (hL:Sl w 3 lB ls aL nL cL) (n1':1≤nL) (n4:nL≤4) (hdp:∀ s∈l,s.home.depth=0∨s.home.depth=1):
  Calls Tryz.prog 101 #[rB last a1 m1 c1 a2 m2 c2,.slice aL nL cL,.agg #[vi id,vi lo,vi hi,vi he]] w fun e w'=>e = .returned (pickV (Ch.pick ⟨last,l,js⟩ ls ⟨id,⟨lo,hi,he⟩⟩))∧Ext w w':=by
 have b1:=hL.bound;have bs0:=h.bound;have bj0:=h2.bound;have HDEP:=aA hdp;have HF:=aA h;have HJ:=aA h2;have HL:=aA hL;have E3:=aA hL.len
 have i1:(1:Int)≤(nL:Int):=by omega
 have i4:(nL:Int)≤4:=by omega
 clear h h2 hL hdp;go_enter Tryz.func101,Tryz.ntmps101
 go_upto_region 2 with (go_at_call 162;refine (rplaces_any _ _ i1 i4).mono ?_;rintro e w1 hh;obtain ⟨pa,pn,pc,rfl,hpl,oP,nP,rfl⟩:=dE.sl hh;clear hh)
 generalize hW:World.plus _ _ _=wB at hpl ⊢
 have kc0:wB.cell? ⟨w.heap.size,0,none⟩=some (vi last):=by rw [←hW,yA _ _ _ _ _ _ (by first|(simp;done)|(simp;omega))];simp [go_sem]
 have kc1:wB.cell? ⟨w.heap.size,1,none⟩=some (.slice a1 m1 c1):=by rw [←hW,yA _ _ _ _ _ _ (by first|(simp;done)|(simp;omega))];simp [go_sem]
 have kc2:wB.cell? ⟨w.heap.size,2,none⟩=some (.slice a2 m2 c2):=by rw [←hW,yA _ _ _ _ _ _ (by first|(simp;done)|(simp;omega))];simp [go_sem]
 have qc1:wB.cell? ⟨w.heap.size+1,1,none⟩=some (vi lo):=by rw [←hW,yA _ _ _ _ _ _ (by first|(simp;done)|(simp;omega))];simp [go_sem]
 have qc2:wB.cell? ⟨w.heap.size+1,2,none⟩=some (vi hi):=by rw [←hW,yA _ _ _ _ _ _ (by first|(simp;done)|(simp;omega))];simp [go_sem]
 have qc3:wB.cell? ⟨w.heap.size+1,3,none⟩=some (vi he):=by rw [←hW,yA _ _ _ _ _ _ (by first|(simp;done)|(simp;omega))];simp [go_sem]
 have tc0:wB.cell? ⟨w.heap.size+1+1,0,none⟩=some (vi 0):=by rw [←hW,yA _ _ _ _ _ _ (by first|(simp;done)|(simp;omega))];simp [go_sem]
 have tc1:wB.cell? ⟨w.heap.size+1+1,1,none⟩=some (vi 0):=by rw [←hW,yA _ _ _ _ _ _ (by first|(simp;done)|(simp;omega))];simp [go_sem]
 have tc2:wB.cell? ⟨w.heap.size+1+1,2,none⟩=some (vi 0):=by rw [←hW,yA _ _ _ _ _ _ (by first|(simp;done)|(simp;omega))];simp [go_sem]
 have fz:∀ i,wB.frozen? ⟨w.heap.size+1+1,i,none⟩=false:=by intro i;rw [←hW,iI _ _ _ _ _ _ (by first|(simp;done)|(simp;omega))];simp [go_sem]
 have hx:Ext w wB:=xQ hW;have HXC:=aA hx;have zc1:=dA kc0;have zc2:=dA qc1;have zc3:=dA tc0;have hpb:=hpl.bound;have HPN:=aA hpl.len;have HPL0:=aA hpl;have HSC:=aA (Sl.below HF.out hx.below);have HKC:=aA (Sl.below HJ.out hx.below);have HZC:=aA (Sl.below HL.out hx.below);have FZ:=aA fz
 have HPK:Hid (Ch.pick ⟨last,l,js⟩ ls ⟨id,⟨lo,hi,he⟩⟩=(Ch.places (nL:Int)).find? (doP l js ls ⟨lo,hi,he⟩)):=by unfold Hid;rw [pick_doP,E3.out]
 clear hW hx hpl fz;go_wp2
 go_loopw [9] (fun i wr=>∃ k:Nat,k≤pn∧i = .int .i64 k∧Hid ((Ch.places (nL:Int)).find? (doP l js ls ⟨lo,hi,he⟩)=((Ch.places (nL:Int)).drop k).find? (doP l js ls ⟨lo,hi,he⟩))∧Ext wB wr) (fun i _=>pn - (intOf i).toNat)
 case atStart=>exact ⟨0,by omega,rfl,by simp [Hid],eX⟩
 case round=>
  obtain ⟨k,hk,rfl,HT,o,m,rfl⟩:=hrel
  by_cases hlt:k<pn
  ·obtain ⟨b,q,x,rfl,hx,dx⟩:=HPL0.out.get hlt
   have dx:=at3 dx;have hq:=dA dx.1;have HXX:=aA hx;have hok:=Ch.places_ok (n:=(nL:Int)) i4 x (List.mem_of_getElem? hx);have hokk:=Ch.placeFault_iff.1 hok;obtain ⟨u,v,z⟩:=x;dsimp only at dx hokk
   obtain ⟨j,rfl⟩:∃ j:Nat,u=(j:Int)+1:=⟨(u - 1).toNat,by omega⟩
   have hz01:z=0∨z=1:=by omega
   have hjl:j<nL:=by omega
   have hj0:(0:Int)≤(j:Int):=by omega
   have hj1:(j:Int)<(nL:Int):=by omega
   have hw1:IntKind.i64.wrap (j:Int)=(j:Int):=IntWalk.i64_in _ (by omega)
   have hw2:IntKind.i64.wrap ((j:Int)+1 - 1)=(j:Int):=by rw [show (j:Int)+1 - 1=j by omega];exact hw1
   have hkp:(k:Int)<(pn:Int):=by omega
   obtain ⟨lb,lq,s,rfl,hs,ds⟩:=HZC.out.get hjl;have ds:=at3 ds;have hlb:=dA ds.1;obtain ⟨s0,s1,s2⟩:=s;dsimp only at ds;generalize hF:Ch.fits ⟨lo,hi,he⟩ ⟨s0,s1,s2⟩=F
   have HD:Hid (sF js ((j:Int)+1) v z F l l.length=doP l js ls ⟨lo,hi,he⟩ ⟨(j:Int)+1,v,z⟩):=by
    unfold Hid;refine rfree_do HDEP.out hz01 ?_;rw [←hF,show ((j:Int)+1 - 1).toNat=j by omega,List.getD_eq_getElem?_getD,hs];rfl
   have HFF:=aA hF;clear hx hok hokk hs hF
   go_upto_region 5 with fail
   (refine fA kR kR ?_;(repeat (first|go_big_quiet_step ((first|(intro _;go_at_call 38;exact qC (rfits_at F _ _ _ _ _ _ _ HFF))))|quiet_step (fail)));refine wpQuiet_nil ?_;rintro _ ⟨oq,nq,rfl⟩)
   go_wp2
   go_loopw [10,11] (fun fv i wk=>∃ kk:Nat,kk≤m1∧i = .int .i64 kk∧fv = .bool (sF js ((j:Int)+1) v z F l kk)∧Ext wB wk) (fun _ i _=>m1 - (intOf i).toNat)
   case atStart=>exact ⟨0,by omega,rfl,by simp [sF],eX⟩
   case round=>
    obtain ⟨kk,hkk,rfl,rfl,o',m',rfl⟩:=hrel
    by_cases hlk:kk<m1
    ·obtain ⟨sb,sq,st,rfl,hst,dst⟩:=HSC.out.get hlk
     have dst:=at8 dst;have hsb:=dA dst.1;obtain ⟨t,⟨ci,⟨cx,cy,cz⟩⟩,⟨h0,h1,h2⟩⟩:=st;dsimp only at dst;have HSS:=aA hst
     have hkj:(kk:Int)<(m1:Int):=by omega
     clear hst;generalize hFK:sF js ((j:Int)+1) v z F l kk=FK;have HFK:=aA hFK;clear hFK
     obtain ⟨G,HG⟩:∃ G,Hid (pcond ((j:Int)+1) v z ⟨t,⟨ci,⟨cx,cy,cz⟩⟩,⟨h0,h1,h2⟩⟩=G):=⟨_,rfl⟩
     go_upto_region 10 with fail
     generalize hW:World.alloc _ _=wd;generalize hDD:wB.heap.size+o'.size=DD;have hxd:Ext wB wd:=xQ hW;have hd0:wd.cell? ⟨DD,0,none⟩=some (vi h0):=cR hW hDD;have hd1:wd.cell? ⟨DD,1,none⟩=some (vi h1):=cR hW hDD;have hd2:wd.cell? ⟨DD,2,none⟩=some (vi h2):=cR hW hDD;have HXD:=aA hxd;have kd0:=iA hxd kc0;have kd1:=iA hxd kc1;have kd2:=iA hxd kc2;have dp0:=iA hxd dx.1;have dp1:=iA hxd dx.2.1;have dp2:=iA hxd dx.2.2;have ds0:=iA hxd dst.1;have zd0:=dA hd0;have zd1:=dA kd0;have zd2:=dA dp0;have zd3:=dA ds0;clear hW hDD hxd
     go_cut [81] (fun c wx=>c = .bool G∧Ext wd wx)
     case first=>
      have hg:=HG.out;unfold pcond at hg;dsimp only at hg
      cases e1:(h0==(j:Int)+1)
      ·(refine fA kR kR ?_;(repeat (first|go_big_quiet_step (fail)|quiet_step (fail)));refine wpQuiet_nil ?_;rintro _ ⟨oq,nq,rfl⟩)
       go_wp2_with fail;go_meet;exact ⟨congrArg Value.bool (by rw [←hg];simp [e1]),eX⟩
      cases e2:(h1==v)
      ·(refine fA kR kR ?_;(repeat (first|go_big_quiet_step (fail)|quiet_step (fail)));refine wpQuiet_nil ?_;rintro _ ⟨oq,nq,rfl⟩)
       go_wp2_with fail;go_meet;exact ⟨congrArg Value.bool (by rw [←hg];simp [e1,e2]),eX⟩
      cases e3:(h2==z)
      ·cases e4:(h2==0)
       ·(refine fA kR kR ?_;(repeat (first|go_big_quiet_step (fail)|quiet_step (fail)));refine wpQuiet_nil ?_;rintro _ ⟨oq,nq,rfl⟩)
        go_wp2_with fail;go_meet;exact ⟨congrArg Value.bool (by rw [←hg];simp [e1,e2,e3,e4]),eX⟩
       (refine fA kR kR ?_;(repeat (first|go_big_quiet_step (fail)|quiet_step (fail)));refine wpQuiet_nil ?_;rintro _ ⟨oq,nq,rfl⟩)
       go_wp2_with fail;go_meet;exact ⟨congrArg Value.bool (by rw [←hg];simp [e1,e2,e3,e4]),eX⟩
      (refine fA kR kR ?_;(repeat (first|go_big_quiet_step (fail)|quiet_step (fail)));refine wpQuiet_nil ?_;rintro _ ⟨oq,nq,rfl⟩)
      go_wp2_with fail;go_meet;exact ⟨congrArg Value.bool (by rw [←hg];simp [e1,e2,e3]),eX⟩
     case rest=>
      obtain ⟨rfl,o5,n5,rfl⟩:=hcut
      go_upto_if 81 with fail
      go_cut [10] (fun c wx=>c = .bool (FK&&!G)∧Ext wd wx)
      case first=>
       cases G
       all_goals
        go_wp2_with fail;go_meet;exact ⟨congrArg Value.bool (by simp),eX⟩
      case rest=>
       obtain ⟨rfl,o6,n6,rfl⟩:=hcut;generalize hFG:(FK&&!G)=FG;have HFG:=aA hFG;clear hFG;go_wp2
       go_loopw [10,13] (fun fv i wj=>∃ nn:Nat,nn≤m2∧i = .int .i64 nn∧fv = .bool (rfreeJ js ((j:Int)+1) v ⟨t,⟨ci,⟨cx,cy,cz⟩⟩,⟨h0,h1,h2⟩⟩ FG nn)∧Ext wd wj) (fun _ i _=>m2 - (intOf i).toNat)
       case atStart=>exact ⟨0,by omega,rfl,congrArg Value.bool (by simp [rfreeJ]),eX⟩
       case round=>
        obtain ⟨nn,hnn,rfl,rfl,o2,m2',rfl⟩:=hrel
        by_cases hln:nn<m2
        ·obtain ⟨jb,jq,jj,rfl,hjj,dj⟩:=HKC.out.get hln
         have dj:=at2 dj;obtain ⟨jt,jf⟩:=jj;dsimp only at dj;have dj0:=iA HXD.out dj.1;have dj1:=iA HXD.out dj.2;have zj:=dA dj0;have HST:=aA (rfreeJ_step (a:=(j:Int)+1) (b:=v) (s:=⟨t,⟨ci,⟨cx,cy,cz⟩⟩,⟨h0,h1,h2⟩⟩) (f:=FG) hjj)
         have hnj:(nn:Int)<(m2:Int):=by omega
         obtain ⟨W,HW⟩:∃ W,Hid (wjob ((j:Int)+1) v ⟨t,⟨ci,⟨cx,cy,cz⟩⟩,⟨h0,h1,h2⟩⟩ ⟨jt,jf⟩=W):=⟨_,rfl⟩
         clear hjj dj
         go_upto_region 16 with fail
         generalize hW:World.alloc _ _=we;generalize hDE:wd.heap.size+o2.size=DE;have hxe:Ext wd we:=xQ hW;have he0:we.cell? ⟨DE,0,none⟩=some (vi jt):=cR hW hDE;have he1:we.cell? ⟨DE,1,none⟩=some (.bool jf):=cR hW hDE;have HXE:=aA hxe;have ge0:=iA hxe hd0;have ge1:=iA hxe hd1;have ge2:=iA hxe hd2;have ke0:=iA hxe kd0;have ke1:=iA hxe kd1;have ke2:=iA hxe kd2;have pe0:=iA hxe dp0;have pe1:=iA hxe dp1;have pe2:=iA hxe dp2;have se0:=iA hxe ds0;have ze0:=dA he0;have ze1:=dA ge0;have ze2:=dA ke0;have ze3:=dA pe0;have ze4:=dA se0;clear hW hDE hxe
         go_cut [132] (fun c wx=>c = .bool W∧Ext we wx)
         case first=>
          have hg:=HW.out;unfold wjob at hg;dsimp only at hg;cases jf
          rotate_left
          ·(refine fA kR kR ?_;(repeat (first|go_big_quiet_step (fail)|quiet_step (fail)));refine wpQuiet_nil ?_;rintro _ ⟨oq,nq,rfl⟩)
           go_wp2_with fail;go_meet;exact ⟨congrArg Value.bool (by rw [←hg];simp),eX⟩
          cases e5:(jt==t)
          ·(refine fA kR kR ?_;(repeat (first|go_big_quiet_step (fail)|quiet_step (fail)));refine wpQuiet_nil ?_;rintro _ ⟨oq,nq,rfl⟩)
           go_wp2_with fail;go_meet;exact ⟨congrArg Value.bool (by rw [←hg];simp [e5]),eX⟩
          cases e1:(h0==(j:Int)+1)
          ·(refine fA kR kR ?_;(repeat (first|go_big_quiet_step (fail)|quiet_step (fail)));refine wpQuiet_nil ?_;rintro _ ⟨oq,nq,rfl⟩)
           go_wp2_with fail;go_meet;exact ⟨congrArg Value.bool (by rw [←hg];simp [e5,e1]),eX⟩
          cases e2:(h1==v)
          ·(refine fA kR kR ?_;(repeat (first|go_big_quiet_step (fail)|quiet_step (fail)));refine wpQuiet_nil ?_;rintro _ ⟨oq,nq,rfl⟩)
           go_wp2_with fail;go_meet;exact ⟨congrArg Value.bool (by rw [←hg];simp [e5,e1,e2]),eX⟩
          cases e3:(h2==1)
          ·(refine fA kR kR ?_;(repeat (first|go_big_quiet_step (fail)|quiet_step (fail)));refine wpQuiet_nil ?_;rintro _ ⟨oq,nq,rfl⟩)
           go_wp2_with fail;go_meet;exact ⟨congrArg Value.bool (by rw [←hg];simp [e5,e1,e2,e3]),eX⟩
          (refine fA kR kR ?_;(repeat (first|go_big_quiet_step (fail)|quiet_step (fail)));refine wpQuiet_nil ?_;rintro _ ⟨oq,nq,rfl⟩)
          go_wp2_with fail;go_meet;exact ⟨congrArg Value.bool (by rw [←hg];simp [e5,e1,e2,e3]),eX⟩
         case rest=>
          obtain ⟨rfl,o7,n7,rfl⟩:=hcut;cases W
          all_goals
           go_wp2;go_roundw
           case rel=>first|exact ⟨nn+1,by omega,by go_num,congrArg Value.bool (by rw [HST.out,HW.out];simp),HXE.out.trans eX⟩|(repeat apply Exists.intro;refine ⟨?_,rfl⟩;exact ⟨nn+1,by omega,by go_num,congrArg Value.bool (by rw [HST.out,HW.out];simp),HXE.out.trans eX⟩)
           case measure=>simp [intOf];omega
        ·have hnm:nn=js.length:=by have:=HKC.out.len;omega
         have HST2:Hid (sF js ((j:Int)+1) v z F l (kk+1)=rfreeJ js ((j:Int)+1) v ⟨t,⟨ci,⟨cx,cy,cz⟩⟩,⟨h0,h1,h2⟩⟩ FG js.length):=by unfold Hid;rw [rfreeTo_step HSS.out,HG.out,HFK.out,HFG.out]
         subst hnm;go_wp2;go_roundw
         case rel=>first|exact ⟨kk+1,by omega,by go_num,congrArg Value.bool HST2.out.symm,HXD.out.trans eX⟩|(repeat apply Exists.intro;refine ⟨?_,rfl⟩;exact ⟨kk+1,by omega,by go_num,congrArg Value.bool HST2.out.symm,HXD.out.trans eX⟩)
         case measure=>simp [intOf];omega
    ·have hkm:kk=l.length:=by have:=HSC.out.len;omega
     subst hkm;cases hv:doP l js ls ⟨lo,hi,he⟩ ⟨(j:Int)+1,v,z⟩
     ·have hv3:sF js ((j:Int)+1) v z F l l.length=false:=by rw [HD.out];exact hv
      have HV:=aA hv;rw [hv3];clear hv hv3;go_wp2;go_roundw
      case rel=>first|exact ⟨k+1,by omega,by go_num,by unfold Hid;rw [HT.out];exact tG HXX.out HV.out,eX⟩|(repeat apply Exists.intro;refine ⟨?_,rfl⟩;exact ⟨k+1,by omega,by go_num,by unfold Hid;rw [HT.out];exact tG HXX.out HV.out,eX⟩)
      case measure=>simp [intOf];omega
     ·have hv3:sF js ((j:Int)+1) v z F l l.length=true:=by rw [HD.out];exact hv
      have HR:Hid (Ch.pick ⟨last,l,js⟩ ls ⟨id,⟨lo,hi,he⟩⟩=some ⟨(j:Int)+1,v,z⟩):=by unfold Hid;rw [HPK.out,HT.out,find_yes HXX.out hv]
      rw [hv3];clear hv hv3
      go_upto_region 19 with fail
      generalize hZ:World.plus _ _ _=wz;have hxz:Ext wB wz:=xQ hZ;clear hZ;have y0:=kA hxz zc3 (FZ.out 0);have y1:=kA hxz zc3 (FZ.out 1);have y2:=kA hxz zc3 (FZ.out 2);have t0:=iA hxz tc0;have t1:=iA hxz tc1;have t2:=iA hxz tc2;have x0:=iA hxz dx.1;have x1:=iA hxz dx.2.1;have x2:=iA hxz dx.2.2;have HXZ:=aA (HXC.out.trans hxz);clear hxz tc0 tc1 tc2 dx kc0 kc1 kc2 qc1 qc2 qc3;go_wp2;obtain ⟨p0,p1,p2,px⟩:=put3 (w:=w) (x:=vi ((j:Int)+1)) (y:=vi v) (z:=vi z) HXZ.out (show w.heap.size≤w.heap.size+1+1 by omega) t0 t1 t2;exact bodyPost_ret (v:=.tuple #[.agg #[vi ((j:Int)+1),vi v,vi z],.bool true]) (by simp [results,Tryz.results101,go_sem,p0,p1,p2]) rfl ⟨by rw [HR.out];rfl,px⟩
  ·have hkq:k=pn:=by omega
   subst hkq
   go_upto_region 20 with fail
   generalize hZ:World.plus _ _ _=wz;have hxz:Ext wB wz:=xQ hZ;clear hZ;have y0:=kA hxz zc3 (FZ.out 0);have y1:=kA hxz zc3 (FZ.out 1);have y2:=kA hxz zc3 (FZ.out 2);have t0:=iA hxz tc0;have t1:=iA hxz tc1;have t2:=iA hxz tc2;have HXZ:=aA (HXC.out.trans hxz);clear hxz tc0 tc1 tc2 kc0 kc1 kc2 qc1 qc2 qc3;go_wp2;obtain ⟨p0,p1,p2,px⟩:=put3 (w:=w) (x:=vi 0) (y:=vi 0) (z:=vi 0) HXZ.out (show w.heap.size≤w.heap.size+1+1 by omega) t0 t1 t2;refine bodyPost_ret (v:=.tuple #[.agg #[vi 0,vi 0,vi 0],.bool false]) (by simp [results,Tryz.results101,go_sem,p0,p1,p2]) rfl ⟨?_,px⟩;rw [HPK.out,HT.out,List.drop_of_length_le (by have:=HPN.out;omega)];rfl
