import Derived.Test.YtplomeacjbkgnadGreatDoorZ35
import Derived.Test.YtplomeacjbkgnadGreatDoorZ33
import Derived.Test.YtplomeacjbkgnadGreatDoorZ34
import Derived.Test.YtplomeacjbkgnadGreatDoorZ36
set_option linter.all false
set_option maxRecDepth 100000
set_option maxHeartbeats 16000000
namespace Go.Proofs.YtplomeacjbkgnadGreatDoor
open Go.RowKit
theorem turnNext_val (jg:List Ch.Goal) (jo:Option Ch.Book) (bl:Int) (bs:List Ch.Stay) (bj:List Ch.Job) (oc:Bool) (last:Int) (a1:Option Addr) (m1 c1:Nat) (a2:Option Addr) (m2 c2:Nat) (lv:Int) (pb mb:Nat) (l:List Ch.Stay) (js:List Ch.Job) (p:Ch.Plant) (w:World)
  (h:Sl w 8 stayCells l a1 m1 c1) (h2:Sl w 2 jobCells js a2 m2 c2) (hp:PlantAt w pb mb p) (hwf:p.WF) (hj:Hid (∀ j∈js,∃ s∈l,s.ticket=j.ticket)) (hpl:Hid (∀ s∈l,Ch.placeFault s.home lv=0)) (l1:1≤lv) (l4:lv≤4) (h4:p.levels≤4) (hm1:m1≤100) (hm2:m2≤100)
  (hv:Hid (Ch.turnOf ⟨last,l,js⟩ lv p=(jg,jo))) (hb:Hid (jo.getD ⟨0,[],[]⟩=⟨bl,bs,bj⟩)) (ho:Hid (jo.isSome=oc)):
  Calls Tryz.prog 39 #[bookA last a1 m1 c1 a2 m2 c2,vi lv,.pointer (some ⟨pb,0,none⟩)] w fun e w'=>∃ v v' i1 i1' i2 i2',e = .returned (.tuple #[.slice v jg.length v',.agg #[vi bl,.slice i1 bs.length i1',.slice i2 bj.length i2'],.bool oc]) ∧
   w'.ownsRow w.heap.size 92 2 (.slice v jg.length v') jg.length (jg.flatMap goalCells)∧OwnBook w w' bl bs bj (.slice i1 bs.length i1') (.slice i2 bj.length i2')∧Ext w w':=by
 have:=turnNext_any last a1 m1 c1 a2 m2 c2 lv pb mb l js p w h h2 hp hwf hj hpl l1 l4 h4 hm1 hm2;rw [hv.out] at this;refine this.mono ?_;rintro e w' ⟨v,v1,v2,he,hg,hob,hx⟩;rw [hb.out] at he hob;rw [ho.out] at he;obtain ⟨g1,g1',rfl,-⟩:=Sl.of_owns (c:=2) (enc:=goalCells) hg (by decide) (fun _=>rfl);obtain ⟨i1,i1',rfl,-⟩:=Sl.of_owns (c:=8) (enc:=stayCells) hob.stays (by decide) (fun _=>rfl);obtain ⟨i2,i2',rfl,-⟩:=Sl.of_owns (c:=2) (enc:=jobCells) hob.jobs (by decide) (fun _=>rfl);exact ⟨g1,g1',i1,i1',i2,i2',he,hg,hob,hx⟩
theorem put3b {w a w2:World} {R:Nat} {v0 v1 v2:Value} (hW:(((a.setCell ⟨R,0,none⟩ v0).setCell ⟨R,1,none⟩ v1).setCell ⟨R,2,none⟩ v2)=w2)
  (hx:Ext w a) (hR:w.heap.size≤R) {cs:Array Value} {t:TypeId} (hb:a.heap[R]? = some (.cells cs t (0,0))) (hn:cs.size=3):
  w2.cell? ⟨R,0,none⟩=some v0∧w2.cell? ⟨R,1,none⟩=some v1∧w2.cell? ⟨R,2,none⟩=some v2∧Ext w w2:=by
 subst hW
 have old:∀ i,i<3→∃ x,a.cell? ⟨R,i,none⟩=some x:=fun i hi=>⟨cs[i],block_cell hb (by simp)⟩
 obtain ⟨x0,h0⟩:=old 0 (by decide);obtain ⟨x1,h1⟩:=old 1 (by decide);obtain ⟨x2,h2⟩:=old 2 (by decide);exact put3w hx hR h0 h1 h2
theorem Sl.tailT {α:Type} {w:World} {c:Nat} {enc:α→List Value} {x:α} {l:List α} {b o:Nat} {n cap:Nat} (h:Sl w c enc (x :: l) (some ⟨b,o,none⟩) (n+1) cap):Sl w c enc l (some ⟨b,o+c,none⟩) n (cap - 1):=by
 obtain ⟨h1,h2,h3,h4⟩:=h;refine ⟨by simpa using h1,by omega,by omega,fun h0=>⟨b,o+c,rfl,?_⟩⟩;obtain ⟨b',o',e,f⟩:=h4 (by omega);cases e;intro i y hy j z hz;have:=f (i+1) y (by simpa using hy) j z hz;rw [show o+(i+1) * c+j=o+c+i * c+j by rw [Nat.add_mul,Nat.one_mul];omega] at this;exact this
theorem Sl.nilT {α:Type} (w:World) (c:Nat) (enc:α→List Value) (a:Option Addr):Sl w c enc [] a 0 0:=⟨rfl,Nat.le_refl _,Nat.zero_le _,fun h=>absurd h (by omega)⟩
theorem Sl.block_ltC {α:Type} {w:World} {c:Nat} {enc:α→List Value} {l:List α} {n cap b o:Nat} (h:Sl w c enc l (some ⟨b,o,none⟩) n cap) (hn:0<n) (he:∀ x,enc x≠[]):b<w.heap.size:=by
 obtain ⟨b',o',x,e,_,f⟩:=h.get hn;cases e
 cases hh:enc x with
 | nil=>exact absurd hh (he x)
 | cons y r=>exact cell_lt (f 0 y (by rw [hh];rfl))
def goalsLeft (hb:Nat) (w:World):Nat:=match w.cell? ⟨hb,3,none⟩ with|some (.slice _ n _)=>n|_=>0
theorem goalsLeft_is {w:World} {hb:Nat} {la:Option Addr} {ln lc pb lb:Nat} {ga:Option Addr} {gn gc:Nat} (h:w.heap[hb]? = some (.cells (houseCells la ln lc pb lb ga gn gc) 83 (0,0))):goalsLeft hb w=gn:=by
 unfold goalsLeft;rw [blk_cell (i:=3) h rfl];rfl
theorem Kept.wide {S T:Nat→Prop} {w w':World} (h:Kept S w w') (hs:∀ i,S i→T i):Kept T w w':=⟨h.os,h.tape,h.output,h.size,fun k hk hn=>h.block k hk (fun e=>hn (hs k e))⟩
theorem goalNext_val (c:Int) (dn:Bool) (k n h x p l b:Int) (d e f g:Bool) (w:World) (hv:Hid (Ch.nextOf ⟨k,n⟩ ⟨h,x,d,p,l,b,e,f,g⟩=(c,dn))):
  Calls Tryz.prog 40 #[.agg #[vi k,vi n],.agg #[vi h,vi x,.bool d,vi p,vi l,vi b,.bool e,.bool f,.bool g]] w fun e' w'=>e' = .returned (.tuple #[.int .u8 c,.bool dn])∧Ext w w':=by
 have:=next_f k n h x p l b d e f g w;rw [hv.out] at this;exact this
theorem may_val (m:Bool) (c h x p l b:Int) (d e f g:Bool) (w:World) (hv:Hid (Ch.may c ⟨h,x,d,p,l,b,e,f,g⟩=m)):
  Calls Tryz.prog 41 #[.int .u8 c,.agg #[vi h,vi x,.bool d,vi p,vi l,vi b,.bool e,.bool f,.bool g]] w fun e' w'=>e' = .returned (.bool m)∧Ext w w':=by
 have:=may_f c h x p l b d e f g w;rw [hv.out] at this;exact this
theorem tick_goals {Z:Nat→Prop} {pb mb db lb hb n:Nat} {x:Ch.Live.HD} {w:World} (hZ:∀ k,w.heap.size≤k→Z k) (h:HN Z pb mb db lb hb n x w) (hi:x.h.Inv') (he:x.e+1<4294967296) (hw:x.d.wait.length≤1000) (hT:Tab w) (hg:x.h.goals≠[]):
  Calls Tryz.prog 14 #[.pointer (some ⟨hb,0,none⟩)] w fun r w'=>r = .returned (errV x.tick.2)∧Kept Z w w'∧HN Z pb mb db lb hb n x.tick.1 w':=by
 obtain ⟨Y,la,ln,lc,ga,gn,gc,hs,hz,hy⟩:=h.open_ hZ;obtain ⟨⟨sizes,p,⟨last,l,js⟩,goals⟩,e0,d⟩:=x;have hln:=hs.lv.len;have hgn:=hs.go.len;have hcore:=hi.core;have hlen:=Ch.levels_len hi.lv;dsimp only at hln hgn hlen he hw hg
 have l1:(1:Int)≤(ln:Int):=by omega
 have l4:(ln:Int)≤4:=by omega
 have hn:Hid ((⟨sizes,p,⟨last,l,js⟩,goals⟩:Ch.House).n=(ln:Int)):=by show ((sizes.length:Nat):Int)=_;rw [hln]
 have hc2:Ch.Core (ln:Int) ⟨last,l,js⟩ p:=by have h1:=hcore;rw [show Ch.House.n _=(ln:Int) from hn.out] at h1;exact h1
 have HWF:p.WF:=hc2.safe.wf;have h4:p.levels≤4:=HWF.lv2;have HJF:Hid (∀ j∈js,∃ s∈l,s.ticket=j.ticket):=hc2.book.found
 have HPF:Hid (∀ s∈l,Ch.placeFault s.home (ln:Int)=0):=fun s hs=>(hc2.book.stays.1 s hs).2.1
 have hm1:l.length≤16:=hc2.book.s16;have hm2:js.length≤8:=hc2.book.j8;obtain ⟨c0,c1,c2,c3,cf⟩:=hs.cells;have hbl:=hs.lt;have HS0:=Lib.hid hs;have HC2:=Lib.hid hc2;have HZZ:=Lib.hid hz;have HYY:=Lib.hid hy;have gbd:=hs.go.bound;have lbd:=hs.lv.bound;clear hs hcore hlen hc2 hz hy h hi;have hTT:=Lib.hid hT;clear hT
 have hg0:0<gn:=by rw [←hgn];exact List.length_pos_iff.2 hg
 have hg1:¬ (gn:Int)=0:=by omega
 have HL0:=HS0;have HK0:Hid (Kept Z w w):=Kept.refl Z w;have HG:=Lib.hid hg;clear hg;go_enter Tryz.func14,Tryz.ntmps14
 have HTK:Hid (Ch.Live.HD.tick ⟨⟨sizes,p,⟨last,l,js⟩,goals⟩,e0,d⟩=(⟨⟨sizes,(Ch.drive p goals).1,⟨last,l,js⟩,(Ch.drive p goals).2⟩,e0,d⟩,0)):=by unfold Hid Ch.Live.HD.tick;rw [if_neg (show ¬ goals=[] from HG.out)];rfl
 go_upto_region 6 with fail
 rw [show ((gn:Int)==0)=false by simp;omega]
 go_loopw [2] (fun s2 wr=>∃ (r:List Ch.Goal) (ga2:Option Addr) (k gc2:Nat),s2 = .nilIface∧Hid (HS Y Z pb mb db lb hb n la ln lc ga2 k gc2 ⟨⟨sizes,p,⟨last,l,js⟩,r⟩,e0,d⟩ wr)∧Hid (Kept Z w wr)∧Hid (Ch.drive p goals=Ch.drive p r)) (fun _ wr=>goalsLeft hb wr)
 case atStart=>exact ⟨goals,ga,gn,gc,rfl,HL0,HK0,rfl⟩
 case round=>
  obtain ⟨r,ga2,gk,gc2,rfl,HR,HKR,HDR⟩:=hrel;obtain ⟨b0,b1,b2,b3,bf⟩:=HR.out.cells;have hbr:=HR.out.lt;have gbr:=HR.out.go.bound;have fr3:=bf 3
  rcases r with _|⟨⟨kd,nn⟩,r⟩
  ·have hg0:gk=0:=by have:=HR.out.go.len;simpa using this.symm
   subst hg0;go_wp2;go_ret
   have hd:Ch.drive p goals=(p,[]):=by rw [HDR.out];rfl
   rw [HTK.out,hd];exact ⟨rfl,HKR.out.trans (Kept.of_ext (by simp (maxDischargeDepth:=60))),Y,la,ln,lc,ga2,0,gc2,HR.out.ext (by simp (maxDischargeDepth:=60)),HZZ.out⟩
  ·obtain ⟨k0,rfl⟩:∃ k0,gk=k0+1:=⟨gk - 1,by have:=HR.out.go.len;simp at this;omega⟩
   obtain ⟨b,q,g',rfl,hg',dg⟩:=HR.out.go.get (show 0<k0+1 by omega);simp only [List.getElem?_cons_zero,Option.some.injEq] at hg';subst hg';have dg:=at2 dg;simp only [Nat.zero_mul,Nat.add_zero] at dg;have hgb:=cell_lt dg.1
   have hk1:(0:Int)<(k0:Int)+1:=by omega
   have hk2:(1:Int)≤(k0:Int)+1:=by omega
   have hk3:(k0:Int)+1≤(gc2:Int):=by omega
   obtain ⟨⟨cc,dn⟩,HNX⟩:∃ v,Hid (Ch.nextOf ⟨kd,nn⟩ p.sense=v):=⟨_,rfl⟩
   go_upto_region 8 with (go_at_call 15;(with_reducible refine (sense_any (HR.out.pl.ext (by simp (maxDischargeDepth:=60))) HWF).mono ?_);rintro e w1 ⟨rfl,o1,n1,rfl⟩)
   generalize hW:World.alloc _ _=w2;generalize hA:wr.heap.size+_=A
   have hx2:Ext wr w2:=by rw [←hW];exact (by simp (maxDischargeDepth:=60))
   have s0:w2.cell? ⟨A,0,none⟩=some (vi p.height):=by rw [←hW,←hA];simp [go_sem]
   have s1:w2.cell? ⟨A,1,none⟩=some (vi p.ext):=by rw [←hW,←hA];simp [go_sem]
   have s2:w2.cell? ⟨A,2,none⟩=some (.bool p.door):=by rw [←hW,←hA];simp [go_sem]
   have s3:w2.cell? ⟨A,3,none⟩=some (vi p.people):=by rw [←hW,←hA];simp [go_sem]
   have s4:w2.cell? ⟨A,4,none⟩=some (vi p.lift):=by rw [←hW,←hA];simp [go_sem]
   have s5:w2.cell? ⟨A,5,none⟩=some (vi p.bay):=by rw [←hW,←hA];simp [go_sem]
   have s6:w2.cell? ⟨A,6,none⟩=some (.bool (p.full p.ext)):=by rw [←hW,←hA];simp [go_sem]
   have s7:w2.cell? ⟨A,7,none⟩=some (.bool (p.full (p.ext - 1))):=by rw [←hW,←hA];simp [go_sem]
   have s8:w2.cell? ⟨A,8,none⟩=some (.bool (p.full (p.ext+1))):=by rw [←hW,←hA];simp [go_sem]
   have a0:=xcell hx2 b0;have a1:=xcell hx2 b1;have a2:=xcell hx2 b2;have a3:=xcell hx2 b3;have af3:=xfree hx2 hbr fr3;have e0':=xcell hx2 dg.1;have e1':=xcell hx2 dg.2;have u1:=cell_lt s0;have u2:=cell_lt a0;have u3:=cell_lt e0';have HR2:=Lib.hid (HR.out.ext hx2);have HK2:=Lib.hid (HKR.out.trans (Kept.of_ext hx2));clear hW hA hx2 b0 b1 b2 b3 bf fr3 hbr dg hgb HKR;have HNV:Hid (Ch.nextOf ⟨kd,nn⟩ ⟨p.height,p.ext,p.door,p.people,p.lift,p.bay,p.full p.ext,p.full (p.ext - 1),p.full (p.ext+1)⟩=(cc,dn)):=HNX.out
   (refine wp_region_ext (by kernel_rfl) (by kernel_rfl) ?_;(repeat (first|go_big_quiet_step ((intro _;go_at_call 40;exact ext_callG (goalNext_val cc dn kd nn _ _ _ _ _ _ _ _ _ _ HNV) (by rintro w' ⟨o',n',rfl⟩;exact ⟨_,n',by first|(simp only [plus_plus];rfl)|(simp only [plus_plus,Array.append_assoc];rfl)|rfl⟩)))|quiet_step ((intro _;go_at_call 40;exact ext_callG (goalNext_val cc dn kd nn _ _ _ _ _ _ _ _ _ _ HNV) (by rintro w' ⟨o',n',rfl⟩;exact ⟨_,n',by first|(simp only [plus_plus];rfl)|(simp only [plus_plus,Array.append_assoc];rfl)|rfl⟩)))));refine wpQuiet_nil ?_;intro _ hw';obtain ⟨oq,nq,hw''⟩:=hw';subst hw'')
   cases dn
   ·obtain ⟨mb',HMB⟩:∃ v,Hid (Ch.may cc ⟨p.height,p.ext,p.door,p.people,p.lift,p.bay,p.full p.ext,p.full (p.ext - 1),p.full (p.ext+1)⟩=v):=⟨_,rfl⟩
    have hdr:Ch.drive p (⟨kd,nn⟩ :: r)=if Ch.may cc p.sense then (p.step cc,⟨kd,nn⟩ :: r) else (p,[]):=by
     unfold Ch.drive;rw [HNX.out];simp
    have hdr2:=HDR.out.trans hdr;rw [show Ch.may cc p.sense=mb' from HMB.out] at hdr2;have HD2:=Lib.hid hdr2;clear hdr hdr2;cases mb'
    ·go_wp2_with (go_at_call 41;(with_reducible refine (may_val false cc _ _ _ _ _ _ _ _ _ _ HMB).mono ?_);rintro e w1 ⟨rfl,o1,n1,rfl⟩)
     go_ret;rw [HTK.out,HD2.out];exact ⟨rfl,HK2.out.trans ((Kept.of_ext (by simp (maxDischargeDepth:=60))).setCell (a:=⟨hb,3,none⟩) (Or.inl (HZZ.out _ (Or.inr (Or.inr (Or.inr rfl))))) _),Y,la,ln,lc,none,0,0,((HR2.out.ext (by simp (maxDischargeDepth:=60))).goals (Sl.nilT _ _ _ _) (fun h0=>absurd h0 (by omega))).1,HZZ.out⟩
    ·go_wp2_with (first
      | (go_at_call 41;(with_reducible refine (may_val true cc _ _ _ _ _ _ _ _ _ _ HMB).mono ?_);rintro e w1 ⟨rfl,o1,n1,rfl⟩)
      | (go_at_call 42;refine (step_any (HR2.out.pl.ext (by simp (maxDischargeDepth:=60))) HWF cc).mono ?_;rintro e w4 ⟨rfl,hp4,hk4⟩;have HP4:=Lib.hid hp4;have HK4:=Lib.hid ((Kept.of_ext (by simp (maxDischargeDepth:=60)):Kept (Own pb mb) w2 _).trans hk4);clear hp4 hk4))
     go_ret;rw [HTK.out,HD2.out];exact ⟨rfl,HK2.out.trans (HK4.out.wide (fun i hi=>HZZ.out i (by rcases hi with rfl|rfl;exact Or.inr (Or.inl rfl);exact Or.inr (Or.inr (Or.inl rfl))))),Y,la,ln,lc,_,_,_,HR2.out.plant HK4.out HP4.out,HZZ.out⟩
   ·have hdr:Ch.drive p goals=Ch.drive p r:=by
     rw [HDR.out]
     conv=>lhs;unfold Ch.drive
     rw [HNX.out];simp
    have hdr:=Lib.hid hdr
    have HGO:∀ w3,Ext w2 w3→Hid (HS Y Z pb mb db lb hb n la ln lc (some ⟨b,q,none⟩) (k0+1) gc2 ⟨⟨sizes,p,⟨last,l,js⟩,⟨kd,nn⟩ :: r⟩,e0,d⟩ w3):=fun w3 hx=>HR2.out.ext hx
    by_cases hc1:gc2=1
    ·subst hc1
     obtain rfl:k0=0:=by omega
     obtain rfl:r=[]:=by
      have:=HR.out.go.len
      cases r with
      | nil=>rfl
      | cons _ _=>simp at this
     go_wp2;go_roundw
     case rel=>
      exact ⟨[],some ⟨b,q,none⟩,0,0,rfl,((HGO _ (by simp (maxDischargeDepth:=60))).out.goals (Sl.nilT _ _ _ _) (fun h0=>absurd h0 (by omega))).1,HK2.out.trans ((Kept.of_ext (by simp (maxDischargeDepth:=60))).setCell (a:=⟨hb,3,none⟩) (Or.inl (HZZ.out _ (Or.inr (Or.inr (Or.inr rfl))))) _),hdr⟩
     case measure=>
      rw [goalsLeft_is HR.out.blk,goalsLeft_is ((HGO _ (by simp (maxDischargeDepth:=60))).out.goals (Sl.nilT _ _ _ _) (fun h0=>absurd h0 (by omega))).1.blk];omega
    ·have hc2:¬ (gc2:Int)=1:=by omega
     have hc3:¬ (1:Int)=(gc2:Int):=by omega
     have hfar:0<k0→∀ b' o',(some ⟨b,q+2,none⟩:Option Addr)=some ⟨b',o',none⟩→¬ HB Y pb mb hb b'∧Z b':=fun h0 b' o' e=>by cases e;exact HR2.out.far2 (by omega) b q rfl
     go_wp2;go_roundw
     case rel=>
      exact ⟨r,some ⟨b,q+2,none⟩,k0,gc2 - 1,rfl,((HGO _ (by simp (maxDischargeDepth:=60))).out.goals (Sl.tailT (HGO _ (by simp (maxDischargeDepth:=60))).out.go) hfar).1,HK2.out.trans ((Kept.of_ext (by simp (maxDischargeDepth:=60))).setCell (a:=⟨hb,3,none⟩) (Or.inl (HZZ.out _ (Or.inr (Or.inr (Or.inr rfl))))) _),hdr⟩
     case measure=>
      rw [goalsLeft_is HR.out.blk,goalsLeft_is ((HGO _ (by simp (maxDischargeDepth:=60))).out.goals (Sl.tailT (HGO _ (by simp (maxDischargeDepth:=60))).out.go) hfar).1.blk];omega
end Go.Proofs.YtplomeacjbkgnadGreatDoor
