import Derived.Test.YtplomeacjbkgnabGreatDoorZ40
set_option linter.all false
set_option maxRecDepth 100000
set_option maxHeartbeats 16000000
namespace Go.Proofs.YtplomeacjbkgnabGreatDoor
open Go.RowKit Tryz Ch
theorem tick_turn {Z:Nat->Prop} {pb mb db lb hb n:Nat} {x:Live.HD} {w:World} (hZ:∀ k,w.heap.size<=k->Z k) (h:HN Z pb mb db lb hb n x w) (hi:x.h.Inv') (he:x.e+1<4294967296) (hw:x.d.wait.length<=1000) (hT:Tab w) (hg:x.h.goals=[]):
  Calls prog 20 #[.pointer (some ⟨hb,0,none⟩)] w fun r w'=>r = .returned (aC x.tick.2)/\fA Z w w'/\HN Z pb mb db lb hb n x.tick.1 w':=by
 obtain ⟨Y,la,ln,lc,ga,gn,gc,hs,hz,hy⟩:=h.open_ hZ;obtain ⟨⟨sizes,p,⟨last,l,js⟩,goals⟩,e0,d⟩:=x;have hln:=hs.lv.len;have hgn:=hs.go.len;have hcore:=hi.core;have hlen:=jD hi.lv;dsimp only at hln hgn hlen he hw hg
 have l1:(1:Int)<=(ln:Int):=om
 have l4:(ln:Int)<=4:=om
 have hn:Hid ((⟨sizes,p,⟨last,l,js⟩,goals⟩:House).n=(ln:Int)):=by show ((sizes.length:Nat):Int)=_;rw [hln]
 have hc2:Core (ln:Int) ⟨last,l,js⟩ p:=by have h1:=hcore;rw [show House.n _=(ln:Int) from hn.out] at h1;exact h1
 have HWF:p.WF:=hc2.safe.wf;have h4:p.levels<=4:=HWF.lv2;have HJF:Hid (∀ j∈js,∃ s∈l,s.ticket=j.ticket):=hc2.book.found
 have HPF:Hid (∀ s∈l,uA s.home (ln:Int)=0):=fun s hs=>(hc2.book.stays.1 s hs).2.1
 have hm1:l.length<=16:=hc2.book.s16;have hm2:js.length<=8:=hc2.book.j8;obtain ⟨c0,c1,c2,c3,cf⟩:=hs.cells;have hbl:=hs.lt;have HS0:=aA hs;have HC2:=aA hc2;have HZZ:=aA hz;have HYY:=aA hy;have gbd:=hs.go.bound;have lbd:=hs.lv.bound;clear hs hcore hlen hc2 hz hy h hi;have hTT:=aA hT;clear hT;subst hg
 have hg0:gn=0:=by simpa using hgn.symm
 subst hg0
 obtain ⟨⟨jg,jo⟩,HTO⟩:∃ r,Hid (xA ⟨last,l,js⟩ (ln:Int) p=r):=⟨_,rfl⟩
 obtain ⟨⟨bl,bs,bj⟩,HBO⟩:∃ v,Hid (jo.getD ⟨0,[],[]⟩=v):=⟨_,rfl⟩
 obtain ⟨oc,HOC⟩:∃ v,Hid (jo.isSome=v):=⟨_,rfl⟩
 go_enter func20,ntmps20
 go_upto_region 2 with fail
 go_cut [3,4,5] (fun s3 s4 s5 wx=>∃ (v:Option Addr) (v' A:Nat) (i1:Option Addr) (k1:Nat) (i2:Option Addr) (k2:Nat),s3 = .slice v jg.length v'/\s4 = .pointer (some ⟨A,0,none⟩)/\s5 = .bool oc/\Ext w wx/\w.heap.size<=A/\cI wx A 0 bl/\wx.cell? ⟨A,1,none⟩=some (.slice i1 bs.length k1)/\wx.cell? ⟨A,2,none⟩=some (.slice i2 bj.length k2) /\
  wx.ownsRow w.heap.size 135 2 (.slice v jg.length v') jg.length (jg.flatMap jC)/\mF w wx bl bs bj (.slice i1 bs.length k1) (.slice i2 bj.length k2))
 case first=>
  go_region_held3 (fun w'=>w'.cell? ⟨hb,0,none⟩=some (.slice la ln lc)/\w'.cell? ⟨hb,1,none⟩=some (.pointer (some ⟨pb,0,none⟩))/\w'.cell? ⟨hb,2,none⟩=some (.pointer (some ⟨lb,0,none⟩))) (first|((try dsimp only);(repeat' apply And.intro) <;> exact xC (w:=w)))
   (first
    | (go_at_call 51;refine (book_now (HS0.out.led.ext eX) (show l.length<=1000 by omega) (show js.length<=1000 by omega)).mono ?_;rintro e w8 ⟨z1,f1,z2,f2,rfl,s8,s9,⟨o8,n8,rfl⟩⟩;dsimp only at s8 s9 ⊢;have S8:=aA s8;have S9:=aA s9;clear s8 s9)
    | (go_at_call 65;refine (turnNext_val jg jo bl bs bj oc last z1 l.length f1 z2 js.length f2 (ln:Int) pb mb l js p _ (Sl.below S8.out (Ext.below eX)) (Sl.below S9.out (Ext.below eX)) (HS0.out.pl.ext eX) HWF HJF HPF l1 l4 h4 om om HTO HBO HOC).mono ?_;rintro e w9 ⟨v,v',i1,k1,i2,k2,rfl,hown,hob,⟨o9,n9,rfl⟩⟩;have HOWN:=aA hown;have HOB:=aA hob;clear hown hob))
  ·go_wp2_with fail
   generalize hW:World.alloc _ _=w2;generalize hA:w.heap.size+_=A;have hx2:Ext w w2:=xQ hW;have q0:cI w2 A 0 bl:=cR hW hA;have q1:cV w2 A 1 (.slice i1 bs.length k1):=cR hW hA;have q2:cV w2 A 2 (.slice i2 bj.length k2):=cR hW hA
   have hA2:w.heap.size<=A:=by rw [<-hA];omega
   have HO1:=HOWN.out;have HO2:=HOB.out;simp only [lE] at HO1 HO2
   have ho2:w2.ownsRow w.heap.size 135 2 (.slice v jg.length v') jg.length (jg.flatMap jC):=by rw [<-hW];exact mA (iB HO1 _) so
   have hb2:mF w w2 bl bs bj (.slice i1 bs.length k1) (.slice i2 bj.length k2):=by rw [<-hW];exact (HO2.ext (show Ext _ (World.alloc _ _) from (Ext.refl _).alloc _)).weak so
   clear hW hA HO1 HO2;go_meet;exact ⟨v,v',A,i1,k1,i2,k2,rfl,rfl,rfl,hx2,hA2,q0,q1,q2,ho2,hb2⟩
  ·go_wp2_with fail
   have HO1:=HOWN.out;have HO2:=HOB.out
   try simp only [lE] at HO1 HO2
   generalize hW:World.setCell _ _ _=w2;obtain ⟨q0,q1,q2,hx2⟩:=put3b (w:=w) hW eX sp (by rw [dB _ _ _ _ sp];exact pA _ _ _ sp) rfl
   have ho2:w2.ownsRow w.heap.size 135 2 (.slice v jg.length v') jg.length (jg.flatMap jC):=by rw [<-hW];exact mA (dC HO1 so) so
   have hb2:mF w w2 bl bs bj (.slice i1 bs.length k1) (.slice i2 bj.length k2):=by rw [<-hW];exact (HO2.put3 so).weak so
   clear hW;go_meet;exact ⟨v,v',_,i1,k1,i2,k2,rfl,rfl,rfl,hx2,sp,q0,q1,q2,ho2,hb2⟩
  ·go_wp2_with fail
   have HO1:=HOWN.out;have HO2:=HOB.out
   try simp only [lE] at HO1 HO2
   generalize hW:World.setCell _ _ _=w2;obtain ⟨q0,q1,q2,hx2⟩:=put3b (w:=w) hW eX sp (by rw [dB _ _ _ _ sp];first|exact pA _ _ _ sp|(rw [dB _ _ _ _ sp];exact pA _ _ _ sp)) rfl
   have ho2:w2.ownsRow w.heap.size 135 2 (.slice v jg.length v') jg.length (jg.flatMap jC):=by rw [<-hW];exact mA (dC HO1 so) so
   have hb2:mF w w2 bl bs bj (.slice i1 bs.length k1) (.slice i2 bj.length k2):=by rw [<-hW];exact (HO2.put3 so).weak so
   clear hW;go_meet;exact ⟨v,v',_,i1,k1,i2,k2,rfl,rfl,rfl,hx2,sp,q0,q1,q2,ho2,hb2⟩
 case rest=>
  obtain ⟨v,v',A,i1,k1,i2,k2,rfl,rfl,rfl,hxc,hA,p0,p1,p2,hown,hob⟩:=hcut;have HSC:=aA (HS0.out.ext hxc);have HXC:=aA hxc;have HOB:=aA hob;have HOW:=aA hown;have zA:=cA p0;obtain ⟨d0,d1,d2,d3⟩:=xe4 hxc c0 c1 c2 c3;have df3:=kA hxc hbl (cf 3);have zh:=cA d0;clear hxc hob hown c0 c1 c2 c3 cf;cases oc
  ·go_upto_region 6 with fail
   generalize hW:World.setCell _ _ _=wl
   have HGL:Hid (HS Y Z pb mb db lb hb n la ln lc v jg.length v' ⟨⟨sizes,p,⟨last,l,js⟩,jg⟩,e0,d⟩ wl/\fA (Is hb) wc wl):=by
    rw [<-hW];refine HSC.out.goals ?_ ?_
    ·obtain ⟨a',c',e',hs'⟩:=Sl.of_owns (c:=2) (enc:=jC) HOW.out dc (fun _=>rfl)
     cases e';exact hs'
    ·intro h0 b o e
     have h1:=rH HOW.out b o e;refine ⟨fun hh=>?_,hZ b om⟩
     rcases hh with hh|rfl|rfl|rfl
     ·have:=HYY.out b hh;omega
     ·have:=HS0.out.pl.lt.1;omega
     ·have:=HS0.out.pl.lt.2;omega
     ·omega
   have HL0:=aA HGL.out.1;have HK0:Hid (fA Z w wl):=(fA.of_ext HXC.out).trans (HGL.out.2.wide (fun i hi=>by cases hi;exact HZZ.out _ (Or.inr (Or.inr (Or.inr rfl)))))
   have HJN:Hid (jo=none):=by have:=HOC.out;cases jo;rfl;cases this
   clear hW HGL p0 p1 p2 d0 d1 d2 d3 df3 HSC zA zh
   have HTK:Hid (Live.HD.tick ⟨⟨sizes,p,⟨last,l,js⟩,[]⟩,e0,d⟩=(⟨⟨sizes,(pF p jg).1,⟨last,l,js⟩,(pF p jg).2⟩,e0,d⟩,0)):=by unfold Hid Live.HD.tick;rw [if_pos rfl];dsimp only;rw [show xA ⟨last,l,js⟩ (House.n _) p=(jg,none) by rw [show House.n _=(ln:Int) from hn.out,HTO.out,HJN.out]];rfl
   go_upto_region 6 with fail
   go_loopw [2] (fun s2 wr=>∃ (r:List aG) (ga2:Option Addr) (k gc2:Nat),s2 = .nilIface/\Hid (HS Y Z pb mb db lb hb n la ln lc ga2 k gc2 ⟨⟨sizes,p,⟨last,l,js⟩,r⟩,e0,d⟩ wr)/\Hid (fA Z w wr)/\Hid (pF p jg=pF p r)) (fun _ wr=>goalsLeft hb wr)
   case atStart=>exact ⟨jg,v,jg.length,v',rfl,HL0,HK0,rfl⟩
   case round=>
    obtain ⟨r,ga2,gk,gc2,rfl,HR,HKR,HDR⟩:=hrel;obtain ⟨b0,b1,b2,b3,bf⟩:=HR.out.cells;have hbr:=HR.out.lt;have gbr:=HR.out.go.bound;have fr3:=bf 3
    rcases r with _|⟨⟨kd,nn⟩,r⟩
    ·have hg0:gk=0:=by have:=HR.out.go.len;simpa using this.symm
     subst hg0;go_wp2;go_ret
     have hd:pF p jg=(p,[]):=by rw [HDR.out];rfl
     rw [HTK.out,hd];exact ⟨rfl,HKR.out.trans (fA.of_ext eX),Y,la,ln,lc,ga2,0,gc2,HR.out.ext eX,HZZ.out⟩
    ·obtain ⟨k0,rfl⟩:∃ k0,gk=k0+1:=⟨gk - 1,by have:=HR.out.go.len;simp at this;omega⟩
     obtain ⟨b,q,g',rfl,hg',dg⟩:=HR.out.go.get (show 0<k0+1 by omega);simp only [List.getElem?_cons_zero,Option.some.injEq] at hg';subst hg';have dg:=at2 dg;simp only [Nat.zero_mul,Nat.add_zero] at dg;have hgb:=cA dg.1
     have hk1:(0:Int)<(k0:Int)+1:=om
     have hk2:(1:Int)<=(k0:Int)+1:=om
     have hk3:(k0:Int)+1<=(gc2:Int):=om
     obtain ⟨⟨cc,dn⟩,HNX⟩:∃ v,Hid (pG ⟨kd,nn⟩ p.sense=v):=⟨_,rfl⟩
     go_upto_region 8 with (go_at_call 22;with_reducible refine mo (sense_any (HR.out.pl.ext eX) HWF) fun o1 n1=>?_)
     generalize hW:World.alloc _ _=w2;generalize hA:wr.heap.size+_=A;have hx2:Ext wr w2:=xQ hW;have s0:cI w2 A 0 p.height:=cR hW hA;have s1:cI w2 A 1 p.ext:=cR hW hA;have s2:cV w2 A 2 (.bool p.door):=cR hW hA;have s3:cI w2 A 3 p.people:=cR hW hA;have s4:cI w2 A 4 p.lift:=cR hW hA;have s5:cI w2 A 5 p.bay:=cR hW hA;have s6:cV w2 A 6 (.bool (p.full p.ext)):=cR hW hA;have s7:cV w2 A 7 (.bool (p.full (p.ext - 1))):=cR hW hA;have s8:cV w2 A 8 (.bool (p.full (p.ext+1))):=cR hW hA;obtain ⟨a0,a1,a2,a3⟩:=xe4 hx2 b0 b1 b2 b3;have af3:=kA hx2 hbr fr3;have e0':=gA hx2 dg.1;have e1':=gA hx2 dg.2;have u1:=cA s0;have u2:=cA a0;have u3:=cA e0';have HR2:=aA (HR.out.ext hx2);have HK2:=aA (HKR.out.trans (fA.of_ext hx2));clear hW hA hx2 b0 b1 b2 b3 bf fr3 hbr dg hgb HKR;have HNV:Hid (pG ⟨kd,nn⟩ ⟨p.height,p.ext,p.door,p.people,p.lift,p.bay,p.full p.ext,p.full (p.ext - 1),p.full (p.ext+1)⟩=(cc,dn)):=HNX.out
     (refine rA kR kR ?_;(repeat (first|go_big_quiet_step ((intro _;go_at_call 66;exact qC (goalNext_val cc dn kd nn _ _ _ _ _ _ _ _ _ _ HNV)))|quiet_step (fail)));refine wpQuiet_nil ?_;rintro _ ⟨oq,nq,rfl⟩)
     cases dn
     ·obtain ⟨mb',HMB⟩:∃ v,Hid (may cc ⟨p.height,p.ext,p.door,p.people,p.lift,p.bay,p.full p.ext,p.full (p.ext - 1),p.full (p.ext+1)⟩=v):=⟨_,rfl⟩
      have hdr:pF p (⟨kd,nn⟩ :: r)=if may cc p.sense then (p.step cc,⟨kd,nn⟩ :: r) else (p,[]):=by
       unfold pF;rw [HNX.out];simp
      have hdr2:=HDR.out.trans hdr;rw [show may cc p.sense=mb' from HMB.out] at hdr2;have HD2:=aA hdr2;clear hdr hdr2;cases mb'
      ·go_wp2_with (go_at_call 67;with_reducible refine mo (may_val false cc _ _ _ _ _ _ _ _ _ _ HMB) fun o1 n1=>?_)
       go_ret;rw [HTK.out,HD2.out];exact ⟨rfl,HK2.out.trans ((fA.of_ext eX).setCell (a:=⟨hb,3,none⟩) (Or.inl (HZZ.out _ (Or.inr (Or.inr (Or.inr rfl))))) _),Y,la,ln,lc,none,0,0,((HR2.out.ext eX).goals (Sl.nilT _ _ _ _) (fun h0=>absurd h0 om)).1,HZZ.out⟩
      ·go_wp2_with (first
        | (go_at_call 67;with_reducible refine mo (may_val true cc _ _ _ _ _ _ _ _ _ _ HMB) fun o1 n1=>?_)
        | (go_at_call 56;refine (step_any (HR2.out.pl.ext eX) HWF cc).mono ?_;rintro e w4 ⟨rfl,hp4,hk4⟩;have HP4:=aA hp4;have HK4:=aA ((fA.of_ext eX:fA (Own pb mb) w2 _).trans hk4);clear hp4 hk4))
       go_ret;rw [HTK.out,HD2.out];exact ⟨rfl,HK2.out.trans (HK4.out.wide (fun i hi=>HZZ.out i (by rcases hi with rfl|rfl;exact Or.inr (Or.inl rfl);exact Or.inr (Or.inr (Or.inl rfl))))),Y,la,ln,lc,_,_,_,HR2.out.plant HK4.out HP4.out,HZZ.out⟩
     ·have hdr:pF p jg=pF p r:=by
       rw [HDR.out]
       conv=>lhs;unfold pF
       rw [HNX.out];simp
      have hdr:=aA hdr
      have HGO:∀ w3,Ext w2 w3->Hid (HS Y Z pb mb db lb hb n la ln lc (some ⟨b,q,none⟩) (k0+1) gc2 ⟨⟨sizes,p,⟨last,l,js⟩,⟨kd,nn⟩ :: r⟩,e0,d⟩ w3):=fun w3 hx=>HR2.out.ext hx
      by_cases hc1:gc2=1
      ·subst hc1
       obtain rfl:k0=0:=om
       obtain rfl:r=[]:=by
        have:=HR.out.go.len
        cases r with
        | nil=>rfl
        | cons _ _=>simp at this
       go_wp2;go_roundw
       case rel=>
        exact ⟨[],some ⟨b,q,none⟩,0,0,rfl,((HGO _ eX).out.goals (Sl.nilT _ _ _ _) (fun h0=>absurd h0 om)).1,HK2.out.trans ((fA.of_ext eX).setCell (a:=⟨hb,3,none⟩) (Or.inl (HZZ.out _ (Or.inr (Or.inr (Or.inr rfl))))) _),hdr⟩
       case measure=>
        rw [kG HR.out.blk,kG ((HGO _ eX).out.goals (Sl.nilT _ _ _ _) (fun h0=>absurd h0 om)).1.blk];omega
      ·have hc2:¬ (gc2:Int)=1:=om
       have hc3:¬ (1:Int)=(gc2:Int):=om
       have hfar:0<k0->∀ b' o',(some ⟨b,q+2,none⟩:Option Addr)=some ⟨b',o',none⟩->¬ HB Y pb mb hb b'/\Z b':=fun h0 b' o' e=>by cases e;exact HR2.out.far2 om b q rfl
       go_wp2;go_roundw
       case rel=>
        exact ⟨r,some ⟨b,q+2,none⟩,k0,gc2 - 1,rfl,((HGO _ eX).out.goals (Sl.tailT (HGO _ eX).out.go) hfar).1,HK2.out.trans ((fA.of_ext eX).setCell (a:=⟨hb,3,none⟩) (Or.inl (HZZ.out _ (Or.inr (Or.inr (Or.inr rfl))))) _),hdr⟩
       case measure=>
        rw [kG HR.out.blk,kG ((HGO _ eX).out.goals (Sl.tailT (HGO _ eX).out.go) hfar).1.blk];omega
  ·have HJN:∃ b',jo=some b':=by have:=HOC.out;cases jo;cases this;exact ⟨_,rfl⟩
   obtain ⟨b',rfl⟩:=HJN;obtain rfl:b'=⟨bl,bs,bj⟩:=HBO.out;have HBF:Hid (fC ⟨bl,bs,bj⟩ (ln:Int)=0):=uF.2 (turn_book HC2.out HTO.out).1.book
   obtain ⟨⟨d',f⟩,HKP⟩:∃ v,Hid (aB.keep d (e0+1) ⟨bl,bs,bj⟩=v):=⟨_,rfl⟩
   have HYN:Hid (HS (fun k=>Y k\/wc.heap.size<=k) Z pb mb db lb hb n la ln lc ga 0 gc ⟨⟨sizes,p,⟨last,l,js⟩,[]⟩,e0,d⟩ wc):=HSC.out.move (fun k hk=>⟨fun h=>h.elim id (fun h=>absurd hk om),Or.inl⟩)
   have HS1:Hid (Sl wc 8 iA bs i1 bs.length k1/\∀ b o,i1=some ⟨b,o,none⟩->w.heap.size<=b):=by
    obtain ⟨a',c',e',hs'⟩:=Sl.of_owns (c:=8) (enc:=iA) HOB.out.stays dc (fun _=>rfl);cases e';exact ⟨hs',rH HOB.out.stays⟩
   have HS2:Hid (Sl wc 2 jA bj i2 bj.length k2/\∀ b o,i2=some ⟨b,o,none⟩->w.heap.size<=b):=by
    obtain ⟨a',c',e',hs'⟩:=Sl.of_owns (c:=2) (enc:=jA) HOB.out.jobs dc (fun _=>rfl);cases e';exact ⟨hs',rH HOB.out.jobs⟩
   have HLN:Hid (LN (fun k=>Y k\/wc.heap.size<=k) db lb n (ln:Int) e0 ⟨last,l,js⟩ d wc):=by
    have h1:=HYN.out.led;rw [show House.n _=(ln:Int) from hn.out] at h1;exact h1
   have HNB:Hid (∀ b o,(0<bs.length/\i1=some ⟨b,o,none⟩)\/(0<bj.length/\i2=some ⟨b,o,none⟩)->¬ (Y b\/wc.heap.size<=b)):=by
    intro b o hh hz
    have h1:w.heap.size<=b:=by
     rcases hh with hh|hh
     ·exact HS1.out.2 b o hh.2
     ·exact HS2.out.2 b o hh.2
    have h2:b<wc.heap.size:=by
     rcases hh with ⟨hp,e⟩|⟨hp,e⟩
     ·subst e
      exact Sl.block_ltC HS1.out.1 hp (by intro s;simp [iA])
     ·subst e
      exact Sl.block_ltC HS2.out.1 hp (by intro s;simp [jA])
    rcases hz with hz|hz
    ·have:=HYY.out b hz
     omega
    ·omega
   have HWZ:Hid (∀ k,HB (fun k=>Y k\/wc.heap.size<=k) pb mb hb k->Z k):=by
    intro k hk
    rcases hk with (hk|hk)|hk
    ·exact HZZ.out k (Or.inl hk)
    ·exact hZ k (Nat.le_trans HXC.out.below.size hk)
    ·exact HZZ.out k (Or.inr hk)
   have HTK:Hid (Live.HD.tick ⟨⟨sizes,p,⟨last,l,js⟩,[]⟩,e0,d⟩=Live.HD.keep ⟨⟨sizes,p,⟨last,l,js⟩,[]⟩,e0,d⟩ ⟨bl,bs,bj⟩):=by
    unfold Hid Live.HD.tick;rw [if_pos rfl];dsimp only;rw [show xA ⟨last,l,js⟩ (House.n _) p=(jg,some ⟨bl,bs,bj⟩) by rw [show House.n _=(ln:Int) from hn.out,HTO.out]]
   have HNH:Hid (¬ (Y hb\/wc.heap.size<=hb)):=by
    intro hh
    rcases hh with hh|hh
    ·exact HS0.out.yh hh
    ·omega
   have HNA:Hid (¬ (Y A\/wc.heap.size<=A)):=by
    intro hh
    rcases hh with hh|hh
    ·have:=HYY.out A hh
     omega
    ·omega
   go_upto_region 4 with fail
   go_region_held3 (fun w'=>w'.cell? ⟨hb,2,none⟩=some (.pointer (some ⟨lb,0,none⟩))/\w'.cell? ⟨A,0,none⟩=some (vi bl)/\w'.cell? ⟨A,1,none⟩=some (.slice i1 bs.length k1)/\w'.cell? ⟨A,2,none⟩=some (.slice i2 bj.length k2)) (first|(first|((try dsimp only);(repeat' apply And.intro) <;> exact xC (w:=wc)))|((try dsimp only);(repeat' apply And.intro) <;> assumption))
    (first
     | (go_at_call 52;refine (keep_led (Z:=fun k=>Y k\/wc.heap.size<=k) (fun k hk=>Or.inr (Nat.le_trans (Ext.below eX:Below wc.heap.size wc _).size hk)) (HLN.out.ext eX) hw l4 he (hTT.out.ext (HXC.out.trans eX)) bl i1 bs.length k1 i2 bj.length k2 bs bj (Sl.below HS1.out.1 (Ext.below eX)) (Sl.below HS2.out.1 (Ext.below eX)) HNB.out HBF.out).mono ?_;rintro e w9 ⟨he9,hk9,hr9⟩;have HK9:Hid (fA (fun k=>Y k\/wc.heap.size<=k) wc w9):=(fA.of_ext eX:fA (fun k=>Y k\/wc.heap.size<=k) wc _).trans hk9;rw [HKP.out] at he9 hr9;dsimp only at he9 hr9;have HR9:=aA hr9;have nd2:=qB HK9.out d2 HNH.out;have np0:=qB HK9.out p0 HNA.out;have np1:=qB HK9.out p1 HNA.out;have np2:=qB HK9.out p2 HNA.out;clear hk9 hr9;subst he9))
   all_goals
    go_wp2;go_ret;have hkz:fA Z w w9:=(fA.of_ext HXC.out).trans (HK9.out.wide (fun i hi=>HWZ.out i (Or.inl hi)));rw [HTK.out];unfold Live.HD.keep;dsimp only;rw [HKP.out];dsimp only
    rcases HR9.out with ⟨h0,hl⟩|⟨h0,hl⟩
    ·rw [if_pos h0,h0]
     exact ⟨rfl,hkz.trans (fA.of_ext eX),fun k=>Y k\/wc.heap.size<=k,la,ln,lc,ga,0,gc,(HYN.out.ledger HK9.out (by rw [hn.out];exact hl)).ext eX,HWZ.out⟩
    ·rw [if_neg h0]
     exact ⟨rfl,hkz.trans (fA.of_ext eX),fun k=>Y k\/wc.heap.size<=k,la,ln,lc,ga,0,gc,(HYN.out.ledger HK9.out (by rw [hn.out];exact hl)).ext eX,HWZ.out⟩
