import Derived.Test.YtplomeacjbkgnabGreatDoorZ47
set_option linter.all false
set_option maxRecDepth 100000
set_option maxHeartbeats 16000000
namespace Go.Proofs.YtplomeacjbkgnabGreatDoor
open Go.RowKit Tryz Ch
abbrev xN (F:Nat->Prop) (w w':World):Nat->Prop:=fun i=>F i\/(w.heap.size<=i/\i<w'.heap.size)
theorem fA.is2 {hb rb:Nat} {w w':World} (k:fA (Is hb) w w'):fA (rN hb rb) w w':=k.wide (fun i hi=>Or.inl hi)
theorem want_errne {b:gB} {t g:Int} (h:want b t = .error g):¬ g=0:=by
 unfold want at h
 repeat' split at h
 all_goals first|(cases h;decide)|cases h
theorem park_errne {b:gB} {ls:List dD} {c:Car} {g:Int} (h:park b ls c = .error g):¬ g=0:=by
 unfold park at h
 repeat' split at h
 all_goals first|(cases h;assumption)|(cases h;decide)|cases h
def TurnW (w:World) (gl:List aG) (bl:Int) (bs:List sA) (bj:List Job) (oc:Bool) (e:Ending) (w':World):Prop:=
 ∃ g gc i1 i1' i2 i2',e = .returned (.tuple #[.slice g gl.length gc,.agg #[vi bl,.slice i1 bs.length i1',.slice i2 bj.length i2'],.bool oc])/\Sl w' 2 jC gl g gl.length gc/\Sl w' 8 iA bs i1 bs.length i1'/\Sl w' 2 jA bj i2 bj.length i2'/\Ext w w' /\
  (∀ b o,g=some ⟨b,o,none⟩->w.heap.size<=b)/\(∀ b o,i1=some ⟨b,o,none⟩->w.heap.size<=b)/\(∀ b o,i2=some ⟨b,o,none⟩->w.heap.size<=b)
theorem rhnext_new (gl:List aG) (ob:Option gB) (bl:Int) (bs:List sA) (bj:List Job) (oc:Bool) {w:World} {hb rb:Nat} {la:Option Addr} {ln lc:Nat} {last:Int} {a1:Option Addr} {m1 c1:Nat} {a2:Option Addr} {m2 c2:Nat} {gv:Value} {l:List sA} {js:List Job} {p:dA} (hh:eL w hb rb (.slice la ln lc) last a1 m1 c1 a2 m2 c2 gv l js p)
  (hwf:p.WF) (hj:Hid (∀ j∈js,∃ s∈l,s.ticket=j.ticket)) (h0:Hid (∀ s∈l,s.ticket≠0)) (hpl:Hid (∀ s∈l,uA s.home (ln:Int)=0)) (l1:1<=ln) (l4:ln<=4) (hlc:ln<=lc) (hlm:lc<=maxLen) (hm1:m1<=100) (hm2:m2<=100)
  (hT:Hid (xA ⟨last,l,js⟩ (ln:Int) p=(gl,ob))) (hB:Hid (ob.getD ⟨0,[],[]⟩=⟨bl,bs,bj⟩)) (hO:Hid (ob.isSome=oc)):
  Calls prog 68 #[.pointer (some ⟨hb,0,none⟩)] w (TurnW w gl bl bs bj oc):=by
 refine (rhnext_any hh hwf hj h0 hpl l1 l4 hlc hlm hm1 hm2).mono ?_;rintro e w' ⟨v,v1,v2,he,hg,hob,hx⟩;rw [hT.out] at he hg hob;dsimp only at he hg hob;rw [hB.out] at he hob;rw [hO.out] at he;obtain ⟨g,gc,rfl,hs⟩:=Sl.of_owns (c:=2) (enc:=jC) hg dc (fun _=>rfl);obtain ⟨i1,i1',rfl,hs1⟩:=Sl.of_owns (c:=8) (enc:=iA) hob.stays dc (fun _=>rfl);obtain ⟨i2,i2',rfl,hs2⟩:=Sl.of_owns (c:=2) (enc:=jA) hob.jobs dc (fun _=>rfl);exact ⟨g,gc,i1,i1',i2,i2',he,hs,hs1,hs2,hx,rH hg,rH hob.stays,rH hob.jobs⟩
theorem rnextOf_val (c:Int) (dn:Bool) (k n h x p l b:Int) (d e f g:Bool) (w:World) (hv:Hid (pG ⟨k,n⟩ ⟨h,x,d,p,l,b,e,f,g⟩=(c,dn))):
  Calls prog 69 #[.agg #[vi k,vi n],.agg #[vi h,vi x,.bool d,vi p,vi l,vi b,.bool e,.bool f,.bool g]] w fun e' w'=>e' = .returned (.tuple #[.int .u8 c,.bool dn])/\Ext w w':=by
 have:=rnext_f k n h x p l b d e f g w;rw [hv.out] at this;exact this
theorem rmay_val (m:Bool) (c h x p l b:Int) (d e f g:Bool) (w:World) (h0:-9223372036854775808<=x) (h1:x<=9223372036854775807) (hv:Hid (may c ⟨h,x,d,p,l,b,e,f,g⟩=m)):
  Calls prog 70 #[.int .u8 c,.agg #[vi h,vi x,.bool d,vi p,vi l,vi b,.bool e,.bool f,.bool g]] w fun e' w'=>e' = .returned (.bool m)/\Ext w w':=by
 have:=rmay_f c h x p l b d e f g w h0 h1;rw [hv.out] at this;exact this
def goalsLeftR (hb:Nat) (w:World):Nat:=match w.cell? ⟨hb,5,none⟩ with|some (.slice _ n _)=>n|_=>0
theorem rK {hb:Nat} {w:World} {a:Option Addr} {n c:Nat} (h:w.cell? ⟨hb,5,none⟩=some (.slice a n c)):goalsLeftR hb w=n:=by
 unfold goalsLeftR;rw [h]
theorem rsense_is {rb:Nat} {p:dA} {w:World} (h:bB w rb p) (hp:p.WF):
  Calls prog 23 #[.pointer (some ⟨rb,0,none⟩)] w fun r w'=>r = .returned (.agg #[vi p.height,vi p.ext,.bool p.door,vi p.people,vi p.lift,vi p.bay,.bool (p.full p.ext),.bool (p.full (p.ext - 1)),.bool (p.full (p.ext+1))])/\Ext w w':=rsense_any h hp
theorem rwanted_now {F:Nat->Prop} {hb rb:Nat} {h:House} {w:World} (r:RN F hb rb h w) (hi:h.Inv') (t:Int):
  Calls prog 18 #[.pointer (some ⟨hb,0,none⟩),vi t] w fun e w'=>e = .returned (vi (h.want t).2)/\fA (rN hb rb) w w'/\RN (xN F w w') hb rb (h.want t).1 w':=by
 obtain ⟨la,ln,lc,a1,m1,c1,a2,m2,c2,ga,gn,gc,hs⟩:=r;obtain ⟨sizes,p,⟨last,l,js⟩,goals⟩:=h;have hln:=hs.lv.len;have hgn:=hs.go.len;have h1l:=hs.st.len;have h2l:=hs.jb.len;have hlen:=jD hi.lv;dsimp only at hln hgn hlen h1l h2l
 have l1:1<=ln:=om
 have l4:ln<=4:=om
 have hn:Hid ((⟨sizes,p,⟨last,l,js⟩,goals⟩:House).n=(ln:Int)):=by show ((sizes.length:Nat):Int)=_;rw [hln]
 have hc2:Core (ln:Int) ⟨last,l,js⟩ p:=by have h1:=hi.core;rw [show House.n _=(ln:Int) from hn.out] at h1;exact h1
 have HWF:p.WF:=hc2.safe.wf;have HJF:Hid (∀ j∈js,∃ s∈l,s.ticket=j.ticket):=hc2.book.found
 have H0F:Hid (∀ s∈l,s.ticket≠0):=fun s hs=>by have:=(hc2.book.stays.1 s hs).2.2.1;omega
 have HPF:Hid (∀ s∈l,uA s.home (ln:Int)=0):=fun s hs=>(hc2.book.stays.1 s hs).2.1
 have hm1:m1<=100:=by have:l.length<=16:=hc2.book.s16;omega
 have hm2:m2<=100:=by have:js.length<=8:=hc2.book.j8;omega
 have l0:0<=last:=hc2.book.l1;have l9:last<=999999:=hc2.book.l2;have hbl:=hs.lth;have hrl:=hs.pl.lt;have lbd:=hs.lv.bound;have gbd:=hs.go.bound;have b0:w.cell? ⟨hb,0,none⟩=some (.slice la ln lc):=hs.at_.cells.1;have b1:w.cell? ⟨hb,1,none⟩=some (.pointer (some ⟨rb,0,none⟩)):=hs.at_.cells.2.1;have b2:w.cell? ⟨hb,2,none⟩=some (vi last):=hs.at_.cells.2.2.1;have b3:w.cell? ⟨hb,3,none⟩=some (.slice a1 m1 c1):=hs.at_.cells.2.2.2.1;have b4:w.cell? ⟨hb,4,none⟩=some (.slice a2 m2 c2):=hs.at_.cells.2.2.2.2.1;have b5:w.cell? ⟨hb,5,none⟩=some (.slice ga gn gc):=hs.at_.cells.2.2.2.2.2;have HS0:=aA hs;have HII:=aA hi;clear hs hi hlen hc2
 obtain ⟨⟨⟨bl,bs,bj⟩,f⟩,HWR⟩:∃ x,Hid (wantR (want ⟨last,l,js⟩ t)=x):=⟨_,rfl⟩
 go_enter func18,ntmps18
 go_upto_region 2 with (go_at_call 55;(with_reducible refine (rwant_back last t a1 m1 c1 a2 m2 c2 l js _ (Sl.below HS0.out.st (Ext.below eX)) (Sl.below HS0.out.jb (Ext.below eX)) hm2 ⟨bl,bs,bj⟩ f HWR).mono ?_);rintro e w1 ⟨y1,d1,y2,d2,rfl,s1,s2,hx,n1',n2'⟩;dsimp only at s1 s2 ⊢;have HX1:Hid (Ext w w1):=Ext.trans eX hx;have T1:=aA s1;have T2:=aA s2;have M1:Hid (∀ b o,y1=some ⟨b,o,none⟩->w.heap.size<=b\/y1=a1):=fun b o e=>(n1' b o e).imp_left (fun h=>Nat.le_trans (Ext.below eX:Below w.heap.size w _).size h);have M2:Hid (∀ b o,y2=some ⟨b,o,none⟩->w.heap.size<=b):=fun b o e=>Nat.le_trans (Ext.below eX:Below w.heap.size w _).size (n2' b o e);clear s1 s2 hx n1' n2')
 generalize hW:World.alloc _ _=w2;generalize hA:w1.heap.size=A;have hx2:Ext w1 w2:=xQ hW;have x0:cI w2 A 0 bl:=cR hW hA;have x1:cV w2 A 1 (.slice y1 bs.length d1):=cR hW hA;have x2:cV w2 A 2 (.slice y2 bj.length d2):=cR hW hA;have xz:=cA x0;have HX2:=aA (HX1.out.trans hx2);have S1:=aA (Sl.below T1.out hx2.below);have S2:=aA (Sl.below T2.out hx2.below);have HR2:=aA ((HS0.out.ext HX2.out).mono (F':=xN F w w2) (fun i h=>Or.inl h));have hbz:=HR2.out.lth
 have hbf:∀ i,w2.frozen? ⟨hb,i,none⟩=false:=vA HR2.out.blk
 have bf2:=hbf 2;have bf3:=hbf 3;have bf4:=hbf 4;have n2:w2.cell? ⟨hb,2,none⟩=some (vi last):=HR2.out.at_.cells.2.2.1;have n3:w2.cell? ⟨hb,3,none⟩=some (.slice a1 m1 c1):=HR2.out.at_.cells.2.2.2.1;have n4:w2.cell? ⟨hb,4,none⟩=some (.slice a2 m2 c2):=HR2.out.at_.cells.2.2.2.2.1;have n5:w2.cell? ⟨hb,5,none⟩=some (.slice ga gn gc):=HR2.out.at_.cells.2.2.2.2.2;have Q2:Hid (zI (xN F w w2) hb rb y2 bj.length):=zI.new S2.out (by intro s;simp [jA]) M2.out hbl hrl;clear hW hA hx2 T1 T2 HX1
 have HWM:Hid ((⟨sizes,p,⟨last,l,js⟩,goals⟩:House).want t=(if f=0 then ((⟨sizes,p,⟨bl,bs,bj⟩,goals⟩:House),0) else (⟨sizes,p,⟨last,l,js⟩,goals⟩,f))/\(f=0->y1=a1->bs.length=m1)):=by
  have e:=HWR.out;unfold Hid House.want
  cases hw:want ⟨last,l,js⟩ t with
  | error g=>
   rw [hw] at e;simp only [wantR,Prod.mk.injEq] at e;obtain ⟨e1,rfl⟩:=e;have hg:¬ g=0:=want_errne hw;exact ⟨by rw [if_neg hg],fun h=>absurd h hg⟩
  | ok x=>
   rw [hw] at e;simp only [wantR,Prod.mk.injEq] at e;obtain ⟨rfl,rfl⟩:=e;refine ⟨by rw [if_pos rfl],fun _ _=>?_⟩;have:=(want_ok (n:=(ln:Int)) (by have h1:=HII.out.core.book;rw [show House.n _=(ln:Int) from hn.out] at h1;exact h1) hw).1;simp only [gB.mk.injEq] at this;rw [this.2.1,h1l]
 by_cases h0:f=0
 ·have Q1:Hid (zI (xN F w w2) hb rb y1 bs.length):=by
   intro h0' b o e
   rcases M1.out b o e with hn'|ha
   ·exact zI.new S1.out (by intro s;simp [iA]) (fun b' o' e'=>by rw [e] at e';cases e';exact hn') hbl hrl h0' b o e
   ·have:=HR2.out.f1
    exact this (by rw [<-HWM.out.2 h0 ha];exact h0') b o (by rw [<-ha];exact e)
  subst h0
  go_upto_region 4 with fail
  generalize hW:World.setCell _ _ _=w9;obtain ⟨hs9,hk9⟩:=HR2.out.book S1.out S2.out Q1.out Q2.out hW;clear hW;go_wp2;go_ret;rw [HWM.out.1]
  first|rw [if_pos rfl]|rw [if_pos trivial]
  have hsz:=hk9.size;exact ⟨rfl,(fA.of_ext HX2.out).trans (hk9.is2.trans (fA.of_ext eX)),RN.mono ⟨_,_,_,_,_,_,_,_,_,_,_,_,hs9.ext eX⟩ (fun i hh=>hh.imp_right fun q=>⟨q.1,Nat.lt_of_lt_of_le q.2 (Nat.le_trans hsz (Ext.below eX:Below w9.heap.size w9 _).size)⟩)⟩
 ·go_wp2
  go_ret;rw [HWM.out.1,if_neg h0];exact ⟨rfl,fA.of_ext (HX2.out.trans eX),RN.mono ⟨_,_,_,_,_,_,_,_,_,_,_,_,HR2.out.ext eX⟩ (fun i hh=>hh.imp_right fun q=>⟨q.1,Nat.lt_of_lt_of_le q.2 (Ext.below eX:Below w2.heap.size w2 _).size⟩)⟩
theorem rparked_now {F:Nat->Prop} {hb rb:Nat} {h:House} {w:World} (r:RN F hb rb h w) (hi:h.Inv') (id lo hi' he:Int):
  Calls prog 16 #[.pointer (some ⟨hb,0,none⟩),.agg #[vi id,vi lo,vi hi',vi he]] w fun e w'=>e = .returned (.tuple #[vi (h.park ⟨id,⟨lo,hi',he⟩⟩).2.1,vi (h.park ⟨id,⟨lo,hi',he⟩⟩).2.2])/\fA (rN hb rb) w w'/\RN (xN F w w') hb rb (h.park ⟨id,⟨lo,hi',he⟩⟩).1 w':=by
 obtain ⟨la,ln,lc,a1,m1,c1,a2,m2,c2,ga,gn,gc,hs⟩:=r;obtain ⟨sizes,p,⟨last,l,js⟩,goals⟩:=h;have hln:=hs.lv.len;have hgn:=hs.go.len;have h1l:=hs.st.len;have h2l:=hs.jb.len;have hlen:=jD hi.lv;dsimp only at hln hgn hlen h1l h2l
 have l1:1<=ln:=om
 have l4:ln<=4:=om
 have hn:Hid ((⟨sizes,p,⟨last,l,js⟩,goals⟩:House).n=(ln:Int)):=by show ((sizes.length:Nat):Int)=_;rw [hln]
 have hc2:Core (ln:Int) ⟨last,l,js⟩ p:=by have h1:=hi.core;rw [show House.n _=(ln:Int) from hn.out] at h1;exact h1
 have HWF:p.WF:=hc2.safe.wf;have HJF:Hid (∀ j∈js,∃ s∈l,s.ticket=j.ticket):=hc2.book.found
 have H0F:Hid (∀ s∈l,s.ticket≠0):=fun s hs=>by have:=(hc2.book.stays.1 s hs).2.2.1;omega
 have HPF:Hid (∀ s∈l,uA s.home (ln:Int)=0):=fun s hs=>(hc2.book.stays.1 s hs).2.1
 have hm1:m1<=100:=by have:l.length<=16:=hc2.book.s16;omega
 have hm2:m2<=100:=by have:js.length<=8:=hc2.book.j8;omega
 have l0:0<=last:=hc2.book.l1;have l9:last<=999999:=hc2.book.l2;have hbl:=hs.lth;have hrl:=hs.pl.lt;have lbd:=hs.lv.bound;have gbd:=hs.go.bound;have b0:w.cell? ⟨hb,0,none⟩=some (.slice la ln lc):=hs.at_.cells.1;have b1:w.cell? ⟨hb,1,none⟩=some (.pointer (some ⟨rb,0,none⟩)):=hs.at_.cells.2.1;have b2:w.cell? ⟨hb,2,none⟩=some (vi last):=hs.at_.cells.2.2.1;have b3:w.cell? ⟨hb,3,none⟩=some (.slice a1 m1 c1):=hs.at_.cells.2.2.2.1;have b4:w.cell? ⟨hb,4,none⟩=some (.slice a2 m2 c2):=hs.at_.cells.2.2.2.2.1;have b5:w.cell? ⟨hb,5,none⟩=some (.slice ga gn gc):=hs.at_.cells.2.2.2.2.2;have HS0:=aA hs;have HII:=aA hi;clear hs hi hlen hc2
 have HDP:∀ s∈l,s.home.depth=0\/s.home.depth=1:=fun s hs=>by have:=uC.1 (HPF.out s hs);omega
 have HTK:∀ s∈l,1<=s.ticket:=fun s hs=>by
  have h1:=HII.out.core.book;rw [show House.n _=(ln:Int) from hn.out] at h1;exact (h1.stays.1 s hs).2.2.1
 have HDPH:=aA HDP;have HTKH:=aA HTK;clear HDP HTK
 obtain ⟨ba,hba⟩:∃ x,Hid (p.bay=x):=⟨_,rfl⟩
 have b6:w.cell? ⟨rb,6,none⟩=some (vi ba):=by rw [<-hba.out];exact HS0.out.pl.cells.2.2.2.2.2.2.1
 obtain ⟨⟨⟨bl,bs,bj⟩,kk,f⟩,HPR⟩:∃ x,Hid (parkR (park ⟨last,l,js⟩ sizes ⟨id,⟨lo,hi',he⟩⟩)=x):=⟨_,rfl⟩
 have hf0:0<=f:=by have:=park_nn ⟨last,l,js⟩ sizes ⟨id,⟨lo,hi',he⟩⟩;rw [HPR.out] at this;exact this
 have HPM:Hid ((⟨sizes,p,⟨last,l,js⟩,goals⟩:House).park ⟨id,⟨lo,hi',he⟩⟩=if ba=id then (if f=0 then ((⟨sizes,p,⟨bl,bs,bj⟩,goals⟩:House),kk,0) else (⟨sizes,p,⟨last,l,js⟩,goals⟩,0,f)) else (⟨sizes,p,⟨last,l,js⟩,goals⟩,0,7)):=by
  have e:=HPR.out;unfold Hid House.park;dsimp only;rw [hba.out]
  by_cases hb':ba=id
  ·rw [if_neg (by simp [hb']),if_pos hb']
   cases hw:park ⟨last,l,js⟩ sizes ⟨id,⟨lo,hi',he⟩⟩ with
   | error g=>
    rw [hw] at e;simp only [parkR,Prod.mk.injEq] at e;obtain ⟨-,-,rfl⟩:=e;rw [if_neg (park_errne hw)]
   | ok x=>
    rw [hw] at e;simp only [parkR,Prod.mk.injEq] at e;obtain ⟨h1,h2,rfl⟩:=e;obtain ⟨xb,xk⟩:=x;dsimp only at h1 h2;subst h1;subst h2;rw [if_pos rfl]
  ·rw [if_pos (by simp [hb']),if_neg hb']
 go_enter func16,ntmps16
 go_upto_region 1 with fail
 generalize hW0:World.alloc _ _=wA;have hxA:Ext w wA:=xQ hW0;have k0:cI wA w.heap.size 0 id:=cQ hW0;have k1:cI wA w.heap.size 1 lo:=cQ hW0;have k2:cI wA w.heap.size 2 hi':=cQ hW0;have k3:cI wA w.heap.size 3 he:=cQ hW0;obtain ⟨b0,b1,b2,b3,b4,b5,b6⟩:=xe7 hxA b0 b1 b2 b3 b4 b5 b6;have HXA:=aA hxA;have zb:=cA b0;have zr:=cA b6;have zk:=cA k0;clear hW0 hxA
 by_cases hid:ba=id
 rotate_left
 ·(refine qF ?_;rintro _ ⟨oq,nq,rfl⟩)
  go_wp2
  go_ret2
  rw [HPM.out,if_neg hid];exact ⟨rfl,fA.of_ext (HXA.out.trans eX),⟨_,_,_,_,_,_,_,_,_,_,_,_,(HS0.out.ext (HXA.out.trans eX)).mono (fun i h=>Or.inl h)⟩⟩
 (refine qF ?_;rintro _ ⟨oq,nq,rfl⟩)
 go_upto_region 3 with fail
 generalize hWq:World.plus wA oq nq=wq;have hxq:Ext wA wq:=xQ hWq;obtain ⟨b0,b1,b2,b3,b4,b5,k0,k1,k2,k3⟩:=xe10 hxq b0 b1 b2 b3 b4 b5 k0 k1 k2 k3;have HXQ:=aA (HXA.out.trans hxq);clear hWq hxq zb zr zk b6 HXA;have zb:=cA b0;have zk:=cA k0
 go_cut [6,7,8] (fun s6 s7 s8 wx=>∃ (A:Nat) (y1:Option Addr) (d1:Nat) (y2:Option Addr) (d2:Nat),s6 = .pointer (some ⟨A,0,none⟩)/\s7=vi kk/\s8=vi f/\Ext wq wx/\cI wx A 0 bl/\wx.cell? ⟨A,1,none⟩=some (.slice y1 bs.length d1)/\wx.cell? ⟨A,2,none⟩=some (.slice y2 bj.length d2)/\Sl wx 8 iA bs y1 bs.length d1/\Sl wx 2 jA bj y2 bj.length d2/\(∀ b o,y1=some ⟨b,o,none⟩->wq.heap.size<=b)/\(∀ b o,y2=some ⟨b,o,none⟩->wq.heap.size<=b))
 case first=>
  go_region_held3 (fun w'=>w'.cell? ⟨hb,0,none⟩=some (.slice la ln lc)/\w'.cell? ⟨hb,2,none⟩=some (vi last)/\w'.cell? ⟨hb,3,none⟩=some (.slice a1 m1 c1)/\w'.cell? ⟨hb,4,none⟩=some (.slice a2 m2 c2)/\w'.cell? ⟨w.heap.size,0,none⟩=some (vi id)/\w'.cell? ⟨w.heap.size,1,none⟩=some (vi lo)/\w'.cell? ⟨w.heap.size,2,none⟩=some (vi hi')/\w'.cell? ⟨w.heap.size,3,none⟩=some (vi he)) (first|((try dsimp only);(repeat' apply And.intro) <;> exact xC (w:=wq))) (first
    | (go_at_call 53;(with_reducible refine (rpark_back last id lo hi' he a1 m1 c1 a2 m2 c2 la ln lc l js sizes _ (Sl.below HS0.out.st (HXQ.out.trans eX).below) (Sl.below HS0.out.jb (HXQ.out.trans eX).below) (Sl.below HS0.out.lv (HXQ.out.trans eX).below) l1 l4 HDPH.out HTKH.out hm1 hm2 l0 l9 ⟨bl,bs,bj⟩ kk f HPR).mono ?_);rintro e w9 ⟨y1,d1,y2,d2,rfl,s1,s2,⟨o9,n9,rfl⟩,m1',m2'⟩;dsimp only at s1 s2 ⊢;have T1:=aA s1;have T2:=aA s2;have M1:=aA m1';have M2:=aA m2';clear s1 s2 m1' m2'))
  ·go_wp2_with fail
   have hm1':∀ b o,y1=some ⟨b,o,none⟩->wq.heap.size<=b:=fun b o e=>by
    rcases M1.out b o e with h|h
    ·exact Nat.le_trans (by first|exact Nat.le_refl _|(simp;done)|(simp;omega)) h
    ·rw [h] at e;cases e
   have hm2':∀ b o,y2=some ⟨b,o,none⟩->wq.heap.size<=b:=fun b o e=>Nat.le_trans (by first|exact Nat.le_refl _|(simp;done)|(simp;omega)) (M2.out b o e)
   generalize hW:World.alloc _ _=w2;generalize hA:wq.heap.size+_=A;have hx2:Ext wq w2:=xQ hW;have p0:cI w2 A 0 bl:=cR hW hA;have p1:cV w2 A 1 (.slice y1 bs.length d1):=cR hW hA;have p2:cV w2 A 2 (.slice y2 bj.length d2):=cR hW hA
   have hl1:Sl w2 8 iA bs y1 bs.length d1:=by rw [<-hW];exact Sl.below T1.out (Ext.below eX)
   have hl2:Sl w2 2 jA bj y2 bj.length d2:=by rw [<-hW];exact Sl.below T2.out (Ext.below eX)
   clear hW hA;go_meet;exact ⟨A,y1,d1,y2,d2,rfl,rfl,rfl,hx2,p0,p1,p2,hl1,hl2,hm1',hm2'⟩
  ·go_wp2_with fail
   have HO1:=T1.out;have HO2:=T2.out
   try simp only [lE] at HO1 HO2
   generalize hW:World.setCell _ _ _=w2;obtain ⟨p0,p1,p2,hx2⟩:=put3b (w:=wq) hW eX sp (by rw [dB _ _ _ _ sp];first|exact pA _ _ _ sp|(rw [dB _ _ _ _ sp];exact pA _ _ _ sp)) rfl
   have hl1:Sl w2 8 iA bs y1 bs.length d1:=by rw [<-hW];exact Sl.kept (Sl.kept (Sl.kept HO1 ((fA.refl _ _).put 0 _) (fun _ b o e=>by rcases M1.out b o e with h|h;(simp at h;omega);(rw [h] at e;cases e))) ((fA.refl _ _).put 1 _) (fun _ b o e=>by rcases M1.out b o e with h|h;(simp at h;omega);(rw [h] at e;cases e))) ((fA.refl _ _).put 2 _) (fun _ b o e=>by rcases M1.out b o e with h|h;(simp at h;omega);(rw [h] at e;cases e))
   have hl2:Sl w2 2 jA bj y2 bj.length d2:=by rw [<-hW];exact Sl.kept (Sl.kept (Sl.kept HO2 ((fA.refl _ _).put 0 _) (fun _ b o e=>by have h:=M2.out b o e;simp at h;omega)) ((fA.refl _ _).put 1 _) (fun _ b o e=>by have h:=M2.out b o e;simp at h;omega)) ((fA.refl _ _).put 2 _) (fun _ b o e=>by have h:=M2.out b o e;simp at h;omega)
   have hm1':∀ b o,y1=some ⟨b,o,none⟩->wq.heap.size<=b:=fun b o e=>by
    rcases M1.out b o e with h|h
    ·exact Nat.le_trans (by first|exact Nat.le_refl _|(simp;done)|(simp;omega)) h
    ·rw [h] at e;cases e
   have hm2':∀ b o,y2=some ⟨b,o,none⟩->wq.heap.size<=b:=fun b o e=>Nat.le_trans (by first|exact Nat.le_refl _|(simp;done)|(simp;omega)) (M2.out b o e)
   clear hW;go_meet;exact ⟨_,y1,d1,y2,d2,rfl,rfl,rfl,hx2,p0,p1,p2,hl1,hl2,hm1',hm2'⟩
 case rest=>
  obtain ⟨A,y1,d1,y2,d2,rfl,rfl,rfl,hxc,x0,x1,x2,S1',S2',M1,M2⟩:=hcut;have HX2:=aA (HXQ.out.trans hxc);have S1:=aA S1';have S2:=aA S2';have xz:=cA x0;have HR2:=aA ((HS0.out.ext HX2.out).mono (F':=xN F w wc) (fun i h=>Or.inl h));have hbz:=HR2.out.lth
  have hbf:∀ i,wc.frozen? ⟨hb,i,none⟩=false:=vA HR2.out.blk
  have bf2:=hbf 2;have bf3:=hbf 3;have bf4:=hbf 4;have n2:wc.cell? ⟨hb,2,none⟩=some (vi last):=HR2.out.at_.cells.2.2.1;have n3:wc.cell? ⟨hb,3,none⟩=some (.slice a1 m1 c1):=HR2.out.at_.cells.2.2.2.1;have n4:wc.cell? ⟨hb,4,none⟩=some (.slice a2 m2 c2):=HR2.out.at_.cells.2.2.2.2.1;have n5:wc.cell? ⟨hb,5,none⟩=some (.slice ga gn gc):=HR2.out.at_.cells.2.2.2.2.2;have hwq:=HXQ.out.below.size;have Q1:Hid (zI (xN F w wc) hb rb y1 bs.length):=zI.new S1.out (by intro s;simp [iA]) (fun b o e=>Nat.le_trans hwq (M1 b o e)) hbl hrl;have Q2:Hid (zI (xN F w wc) hb rb y2 bj.length):=zI.new S2.out (by intro s;simp [jA]) (fun b o e=>Nat.le_trans hwq (M2 b o e)) hbl hrl;clear hxc S1' S2' M1 M2
  by_cases h0:f=0
  ·subst h0
   go_upto_region 7 with fail
   generalize hW:World.setCell _ _ _=w9;obtain ⟨hs9,hk9⟩:=HR2.out.book S1.out S2.out Q1.out Q2.out hW;clear hW;go_wp2
   go_ret2
   rw [HPM.out,if_pos hid]
   first|rw [if_pos rfl]|rw [if_pos trivial]
   have hsz:=hk9.size;exact ⟨rfl,(fA.of_ext HX2.out).trans (hk9.is2.trans (fA.of_ext eX)),RN.mono ⟨_,_,_,_,_,_,_,_,_,_,_,_,hs9.ext eX⟩ (fun i hh=>hh.imp_right fun q=>⟨q.1,Nat.lt_of_lt_of_le q.2 (Nat.le_trans hsz (Ext.below eX:Below w9.heap.size w9 _).size)⟩)⟩
  ·have hfp:0<f:=om
   go_wp2
   go_ret2
   rw [HPM.out,if_pos hid,if_neg h0];exact ⟨rfl,fA.of_ext (HX2.out.trans eX),RN.mono ⟨_,_,_,_,_,_,_,_,_,_,_,_,HR2.out.ext eX⟩ (fun i hh=>hh.imp_right fun q=>⟨q.1,Nat.lt_of_lt_of_le q.2 ((Ext.below eX:Below wc.heap.size wc _).size)⟩)⟩
theorem rticked_now {F:Nat->Prop} {hb rb:Nat} {h:House} {w:World} (r:RN F hb rb h w) (hi:h.Inv'):
  Calls prog 21 #[.pointer (some ⟨hb,0,none⟩)] w fun e w'=>e = .returned (.tuple #[])/\fA (rN hb rb) w w'/\RN (xN F w w') hb rb h.tick w':=by
 obtain ⟨la,ln,lc,a1,m1,c1,a2,m2,c2,ga,gn,gc,hs⟩:=r;obtain ⟨sizes,p,⟨last,l,js⟩,goals⟩:=h;have hln:=hs.lv.len;have hgn:=hs.go.len;have h1l:=hs.st.len;have h2l:=hs.jb.len;have hlen:=jD hi.lv;dsimp only at hln hgn hlen h1l h2l
 have l1:1<=ln:=om
 have l4:ln<=4:=om
 have hn:Hid ((⟨sizes,p,⟨last,l,js⟩,goals⟩:House).n=(ln:Int)):=by show ((sizes.length:Nat):Int)=_;rw [hln]
 have hc2:Core (ln:Int) ⟨last,l,js⟩ p:=by have h1:=hi.core;rw [show House.n _=(ln:Int) from hn.out] at h1;exact h1
 have HWF:p.WF:=hc2.safe.wf;have HJF:Hid (∀ j∈js,∃ s∈l,s.ticket=j.ticket):=hc2.book.found
 have H0F:Hid (∀ s∈l,s.ticket≠0):=fun s hs=>by have:=(hc2.book.stays.1 s hs).2.2.1;omega
 have HPF:Hid (∀ s∈l,uA s.home (ln:Int)=0):=fun s hs=>(hc2.book.stays.1 s hs).2.1
 have hm1:m1<=100:=by have:l.length<=16:=hc2.book.s16;omega
 have hm2:m2<=100:=by have:js.length<=8:=hc2.book.j8;omega
 have l0:0<=last:=hc2.book.l1;have l9:last<=999999:=hc2.book.l2;have hbl:=hs.lth;have hrl:=hs.pl.lt;have lbd:=hs.lv.bound;have gbd:=hs.go.bound;have b0:w.cell? ⟨hb,0,none⟩=some (.slice la ln lc):=hs.at_.cells.1;have b1:w.cell? ⟨hb,1,none⟩=some (.pointer (some ⟨rb,0,none⟩)):=hs.at_.cells.2.1;have b2:w.cell? ⟨hb,2,none⟩=some (vi last):=hs.at_.cells.2.2.1;have b3:w.cell? ⟨hb,3,none⟩=some (.slice a1 m1 c1):=hs.at_.cells.2.2.2.1;have b4:w.cell? ⟨hb,4,none⟩=some (.slice a2 m2 c2):=hs.at_.cells.2.2.2.2.1;have b5:w.cell? ⟨hb,5,none⟩=some (.slice ga gn gc):=hs.at_.cells.2.2.2.2.2;have HS0:=aA hs;have HII:=aA hi;clear hs hi hlen hc2
 have hbf:∀ i,w.frozen? ⟨hb,i,none⟩=false:=vA HS0.out.blk
 have hx1:-9223372036854775808<=p.ext:=by have:=HWF.ex1;omega
 have hx2:p.ext<=9223372036854775807:=by have:=HWF.ex2;omega
 go_enter func21,ntmps21
 go_upto_if 14 with fail
 go_cut [] (fun wx=>∃ (gl:List aG) (ga2:Option Addr) (k gc2:Nat),Hid (RHS (xN F w wx) hb rb la ln lc a1 m1 c1 a2 m2 c2 ga2 k gc2 ⟨sizes,p,⟨last,l,js⟩,gl⟩ wx)/\Hid (fA (rN hb rb) w wx)/\Hid ((⟨sizes,p,⟨last,l,js⟩,goals⟩:House).tick=(⟨sizes,p,⟨last,l,js⟩,goals⟩:House).go gl))
 case first=>
  by_cases hg:goals=[]
  ·subst hg
   obtain rfl:gn=0:=by simpa using hgn.symm
   obtain ⟨⟨gl,ob⟩,HTO⟩:∃ r,Hid (xA ⟨last,l,js⟩ (ln:Int) p=r):=⟨_,rfl⟩
   obtain ⟨⟨bl,bs,bj⟩,HBO⟩:∃ r,Hid (ob.getD ⟨0,[],[]⟩=r):=⟨_,rfl⟩
   have HTM:Hid ((⟨sizes,p,⟨last,l,js⟩,[]⟩:House).tick=ob.elim ((⟨sizes,p,⟨last,l,js⟩,[]⟩:House).go gl) (fun b=>(⟨sizes,p,b,[]⟩:House))):=by
    unfold Hid House.tick;rw [if_pos rfl,hn.out];dsimp only;rw [HTO.out]
    cases ob <;> rfl
   obtain ⟨oc,HOO⟩:∃ r,Hid (ob.isSome=r):=⟨_,rfl⟩
   have hlm:lc<=maxLen:=by unfold maxLen;omega
   go_upto_region 2 with (go_at_call 68;(with_reducible refine (rhnext_new gl ob bl bs bj oc (HS0.out.at_.ext eX) HWF HJF H0F HPF l1 l4 lbd.1 hlm hm1 hm2 HTO HBO HOO).mono ?_);rintro e w1 ⟨g,gc',i1,i1',i2,i2',rfl,s1,s2,s3,hx7,n1',n2',n3'⟩;have HX1:Hid (Ext w w1):=Ext.trans eX hx7;have T1:=aA s1;have T2:=aA s2;have T3:=aA s3;have M1:=aA n1';have M2:=aA n2';have M3:=aA n3';clear s1 s2 s3 hx7 n1' n2' n3')
   generalize hW:World.alloc _ _=w2;generalize hA:w1.heap.size=A;have hx3:Ext w1 w2:=xQ hW;have x0:cI w2 A 0 bl:=cR hW hA;have x1:cV w2 A 1 (.slice i1 bs.length i1'):=cR hW hA;have x2:cV w2 A 2 (.slice i2 bj.length i2'):=cR hW hA;have xz:=cA x0;have HX2:=aA (HX1.out.trans hx3);have S0:=aA (Sl.below T1.out hx3.below);have S1:=aA (Sl.below T2.out hx3.below);have S2:=aA (Sl.below T3.out hx3.below);have HR2:=aA ((HS0.out.ext HX2.out).mono (F':=xN F w w2) (fun i h=>Or.inl h));have hbz:=HR2.out.lth
   have hbf2:∀ i,w2.frozen? ⟨hb,i,none⟩=false:=vA HR2.out.blk
   have bf2:=hbf2 2;have bf3:=hbf2 3;have bf4:=hbf2 4;have bf5:=hbf2 5;have n2:w2.cell? ⟨hb,2,none⟩=some (vi last):=HR2.out.at_.cells.2.2.1;have n3:w2.cell? ⟨hb,3,none⟩=some (.slice a1 m1 c1):=HR2.out.at_.cells.2.2.2.1;have n4:w2.cell? ⟨hb,4,none⟩=some (.slice a2 m2 c2):=HR2.out.at_.cells.2.2.2.2.1;have n5:w2.cell? ⟨hb,5,none⟩=some (.slice ga 0 gc):=HR2.out.at_.cells.2.2.2.2.2;have Q0:Hid (zI (xN F w w2) hb rb g gl.length):=zI.new S0.out (by intro s;simp [jC]) M1.out hbl hrl;have Q1:Hid (zI (xN F w w2) hb rb i1 bs.length):=zI.new S1.out (by intro s;simp [iA]) M2.out hbl hrl;have Q2:Hid (zI (xN F w w2) hb rb i2 bj.length):=zI.new S2.out (by intro s;simp [jA]) M3.out hbl hrl;clear hW hA hx3 T1 T2 T3 M1 M2 M3 HX1 hbf2;cases oc
   ·obtain rfl:ob=none:=by have:=HOO.out;cases ob <;> simp_all
    go_wp2;generalize hW:World.setCell _ _ _=w9;obtain ⟨hs9,hk9⟩:=HR2.out.goals S0.out Q0.out hW;clear hW;go_meet;have hsz:=hk9.size;exact ⟨gl,g,gl.length,gc',hs9.mono (fun i hh=>hh.imp_right fun q=>⟨q.1,Nat.lt_of_lt_of_le q.2 (hsz)⟩),(fA.of_ext HX2.out).trans hk9.is2,HTM.out⟩
   ·obtain ⟨b',rfl⟩:∃ b',ob=some b':=by have:=HOO.out;cases ob <;> simp_all
    have hb':b'=⟨bl,bs,bj⟩:=HBO.out
    go_upto_region 4 with fail
    generalize hW:World.setCell _ _ _=w9;obtain ⟨hs9,hk9⟩:=HR2.out.book S1.out S2.out Q1.out Q2.out hW;clear hW;go_wp2
    first|(refine bodyPost_ret (results_none rfl _ _ _) rfl ?_)|(refine bodyPost_end (results_none rfl _ _ _) rfl ?_)
    rw [HTM.out,hb'];have hsz:=hk9.size;exact ⟨rfl,(fA.of_ext HX2.out).trans (hk9.is2.trans (fA.of_ext eX)),RN.mono ⟨_,_,_,_,_,_,_,_,_,_,_,_,hs9.ext eX⟩ (fun i hh=>hh.imp_right fun q=>⟨q.1,Nat.lt_of_lt_of_le q.2 (Nat.le_trans hsz (Ext.below eX:Below w9.heap.size w9 _).size)⟩)⟩
  ·have hg1:¬ (gn:Int)=0:=by
    have:=List.length_pos_iff.2 hg;omega
   go_wp2;go_meet;exact ⟨goals,ga,gn,gc,(HS0.out.ext eX).mono (fun i h=>Or.inl h),fA.of_ext eX,by unfold Hid House.tick;rw [if_neg hg]⟩
 case rest=>
  obtain ⟨gl,ga0,k0,gc0,HR0,HK0,HTG⟩:=hcut;clear HS0 b0 b1 b2 b3 b4 b5 hbf
  go_upto_region 5 with fail
  go_loopw [] (fun wr=>∃ (r:List aG) (ga2:Option Addr) (k gc2:Nat),Hid (RHS (xN F w wr) hb rb la ln lc a1 m1 c1 a2 m2 c2 ga2 k gc2 ⟨sizes,p,⟨last,l,js⟩,r⟩ wr)/\Hid (fA (rN hb rb) w wr)/\Hid (pF p gl=pF p r)) (fun wr=>goalsLeftR hb wr)
  case atStart=>exact ⟨gl,ga0,k0,gc0,HR0,HK0,rfl⟩
  case round=>
   obtain ⟨r,ga2,gk,gc2,HR,HKR,HDR⟩:=hrel;have b1:wr.cell? ⟨hb,1,none⟩=some (.pointer (some ⟨rb,0,none⟩)):=HR.out.at_.cells.2.1;have b5:wr.cell? ⟨hb,5,none⟩=some (.slice ga2 gk gc2):=HR.out.at_.cells.2.2.2.2.2;have hbr:=HR.out.lth;have gbr:=HR.out.go.bound;have fr5:wr.frozen? ⟨hb,5,none⟩=false:=vA HR.out.blk 5
   rcases r with _|⟨⟨kd,nn⟩,r⟩
   ·have hg0:gk=0:=by have:=HR.out.go.len;simpa using this.symm
    subst hg0;go_wp2
    first|(refine bodyPost_ret (results_none rfl _ _ _) rfl ?_)|(refine bodyPost_end (results_none rfl _ _ _) rfl ?_)
    have hd:(⟨sizes,p,⟨last,l,js⟩,goals⟩:House).go gl=⟨sizes,p,⟨last,l,js⟩,[]⟩:=by unfold House.go;rw [HDR.out];rfl
    rw [HTG.out,hd];exact ⟨rfl,HKR.out.trans (fA.of_ext eX),RN.mono ⟨_,_,_,_,_,_,_,_,_,_,_,_,HR.out.ext eX⟩ (fun i hh=>hh.imp_right fun q=>⟨q.1,Nat.lt_of_lt_of_le q.2 ((Ext.below eX:Below wr.heap.size wr _).size)⟩)⟩
   ·obtain ⟨k0',rfl⟩:∃ k0',gk=k0'+1:=⟨gk - 1,by have:=HR.out.go.len;simp at this;omega⟩
    obtain ⟨b,q,g',rfl,hg',dg⟩:=HR.out.go.get (show 0<k0'+1 by omega);simp only [List.getElem?_cons_zero,Option.some.injEq] at hg';subst hg';have dg:=at2 dg;simp only [Nat.zero_mul,Nat.add_zero] at dg;have hgb:=cA dg.1
    have hk1:(0:Int)<(k0':Int)+1:=om
    have hk2:(1:Int)<=(k0':Int)+1:=om
    have hk3:(k0':Int)+1<=(gc2:Int):=om
    obtain ⟨⟨cc,dn⟩,HNX⟩:∃ v,Hid (pG ⟨kd,nn⟩ p.sense=v):=⟨_,rfl⟩
    go_upto_region 7 with (go_at_call 23;with_reducible refine mo (rsense_is (HR.out.pl.ext eX) HWF) fun o1 n1=>?_)
    generalize hW:World.alloc _ _=w2;generalize hA:wr.heap.size+_=A;have hx2':Ext wr w2:=xQ hW;have s0:cI w2 A 0 p.height:=cR hW hA;have s1:cI w2 A 1 p.ext:=cR hW hA;have s2:cV w2 A 2 (.bool p.door):=cR hW hA;have s3:cI w2 A 3 p.people:=cR hW hA;have s4:cI w2 A 4 p.lift:=cR hW hA;have s5:cI w2 A 5 p.bay:=cR hW hA;have s6:cV w2 A 6 (.bool (p.full p.ext)):=cR hW hA;have s7:cV w2 A 7 (.bool (p.full (p.ext - 1))):=cR hW hA;have s8:cV w2 A 8 (.bool (p.full (p.ext+1))):=cR hW hA;have a1':=gA hx2' b1;have a5':=gA hx2' b5;have af5:=kA hx2' hbr fr5;have e0':=gA hx2' dg.1;have e1':=gA hx2' dg.2;have u1:=cA s0;have u2:=cA a1';have u3:=cA e0';have hsz2:=hx2'.below.size;have HR2:=aA ((HR.out.ext hx2').mono (F':=xN F w w2) (fun i hh=>hh.imp_right fun q=>⟨q.1,Nat.lt_of_lt_of_le q.2 (hsz2)⟩));have HK2:=aA (HKR.out.trans (fA.of_ext hx2'));clear hW hA hx2' b1 fr5 hbr dg hgb HKR hsz2;have HNV:Hid (pG ⟨kd,nn⟩ ⟨p.height,p.ext,p.door,p.people,p.lift,p.bay,p.full p.ext,p.full (p.ext - 1),p.full (p.ext+1)⟩=(cc,dn)):=HNX.out
    (refine rA kR kR ?_;(repeat (first|go_big_quiet_step ((intro _;go_at_call 69;exact qC (rnextOf_val cc dn kd nn _ _ _ _ _ _ _ _ _ _ HNV)))|quiet_step (fail)));refine wpQuiet_nil ?_;rintro _ ⟨oq,nq,rfl⟩)
    have HGO:∀ w3,Ext w2 w3->Hid (RHS (xN F w w3) hb rb la ln lc a1 m1 c1 a2 m2 c2 (some ⟨b,q,none⟩) (k0'+1) gc2 ⟨sizes,p,⟨last,l,js⟩,⟨kd,nn⟩ :: r⟩ w3):=fun w3 hx=>(HR2.out.ext hx).mono (fun i hh=>hh.imp_right fun q=>⟨q.1,Nat.lt_of_lt_of_le q.2 (hx.below.size)⟩)
    cases dn
    ·obtain ⟨mb',HMB⟩:∃ v,Hid (may cc ⟨p.height,p.ext,p.door,p.people,p.lift,p.bay,p.full p.ext,p.full (p.ext - 1),p.full (p.ext+1)⟩=v):=⟨_,rfl⟩
     have hdr:pF p (⟨kd,nn⟩ :: r)=if may cc p.sense then (p.step cc,⟨kd,nn⟩ :: r) else (p,[]):=by
      unfold pF;rw [HNX.out];simp
     have hdr2:=HDR.out.trans hdr;rw [show may cc p.sense=mb' from HMB.out] at hdr2
     have HD2:Hid ((⟨sizes,p,⟨last,l,js⟩,goals⟩:House).go gl=if mb' then ⟨sizes,p.step cc,⟨last,l,js⟩,⟨kd,nn⟩ :: r⟩ else ⟨sizes,p,⟨last,l,js⟩,[]⟩):=by
      unfold Hid House.go;rw [hdr2]
      cases mb' <;> rfl
     clear hdr hdr2;cases mb'
     ·go_upto_region 13 with (go_at_call 70;with_reducible refine mo (rmay_val false cc _ _ _ _ _ _ _ _ _ _ hx1 hx2 HMB) fun o1 n1=>?_)
      generalize hWp:World.plus _ _ _=w3;have hx3:Ext w2 w3:=xQ hWp;have c5:=gA hx3 a5';have cf5:=kA hx3 u2 af5;have cz:=cA c5;have HR3:=HGO w3 hx3;have HX3:=aA hx3;clear hWp hx3;go_wp2;generalize hW:World.setCell _ _ _=w9;obtain ⟨hs9,hk9⟩:=HR3.out.goals (Sl.nilT _ _ _ none) (fun h0=>absurd h0 om) hW;clear hW
      first|(refine bodyPost_ret (results_none rfl _ _ _) rfl ?_)|(refine bodyPost_end (results_none rfl _ _ _) rfl ?_)
      rw [HTG.out,HD2.out];have hsz:=hk9.size;exact ⟨rfl,HK2.out.trans ((fA.of_ext HX3.out).trans (hk9.is2.trans (fA.of_ext eX))),RN.mono ⟨_,_,_,_,_,_,_,_,_,_,_,_,hs9.ext eX⟩ (fun i hh=>hh.imp_right fun q=>⟨q.1,Nat.lt_of_lt_of_le q.2 (Nat.le_trans hsz (Ext.below eX:Below w9.heap.size w9 _).size)⟩)⟩
     ·go_wp2_with (first
       | (go_at_call 70;with_reducible refine mo (rmay_val true cc _ _ _ _ _ _ _ _ _ _ hx1 hx2 HMB) fun o1 n1=>?_)
       | (go_at_call 57;refine (rstep_any (HR2.out.pl.ext eX) HWF cc).mono ?_;rintro e w4 ⟨rfl,hp4,hk4⟩;have HP4:=aA hp4;have HK4:=aA ((fA.of_ext eX:fA (Is rb) w2 _).trans hk4);clear hp4 hk4))
      first|(refine bodyPost_ret (results_none rfl _ _ _) rfl ?_)|(refine bodyPost_end (results_none rfl _ _ _) rfl ?_)
      rw [HTG.out,HD2.out];have hsz:=HK4.out.size;exact ⟨rfl,HK2.out.trans ((HK4.out.wide (fun i hi=>Or.inr hi)).trans (fA.of_ext eX)),RN.mono ⟨_,_,_,_,_,_,_,_,_,_,_,_,(HR2.out.plant HK4.out HP4.out).ext eX⟩ (fun i hh=>hh.imp_right fun q=>⟨q.1,Nat.lt_of_lt_of_le q.2 (Nat.le_trans hsz (Ext.below eX:Below w4.heap.size w4 _).size)⟩)⟩
    ·have hdr:pF p gl=pF p r:=by
      rw [HDR.out]
      conv=>lhs;unfold pF
      rw [HNX.out];simp
     have hdr:=aA hdr
     by_cases hc1:gc2=1
     ·subst hc1
      obtain rfl:k0'=0:=om
      obtain rfl:r=[]:=by
       have:=HR.out.go.len
       cases r with
       | nil=>rfl
       | cons _ _=>simp at this
      go_wp2;generalize hWp:World.plus _ _ _=w3;have hx3:Ext w2 w3:=xQ hWp;have HR3:=HGO w3 hx3;have HX3:=aA hx3;clear hWp hx3;generalize hW:World.setCell _ _ _=w9;obtain ⟨hs9,hk9⟩:=HR3.out.goals (Sl.nilT _ _ _ _) (fun h0=>absurd h0 om) hW;clear hW;have hsz:=hk9.size;go_roundw
      case rel=>exact ⟨[],some ⟨b,q,none⟩,0,0,hs9.mono (fun i hh=>hh.imp_right fun q=>⟨q.1,Nat.lt_of_lt_of_le q.2 hsz⟩),HK2.out.trans ((fA.of_ext HX3.out).trans hk9.is2),hdr⟩
      case measure=>
       rw [rK hs9.at_.cells.2.2.2.2.2,rK b5];omega
     ·have hc2:¬ (gc2:Int)=1:=om
      have hc3:¬ (1:Int)=(gc2:Int):=om
      have hfar:∀ w3,Ext w2 w3->zI (xN F w w3) hb rb (some ⟨b,q+2,none⟩) k0':=fun w3 hx h0 b' o' e=>by cases e;exact (HGO w3 hx).out.f3 om b q rfl
      go_wp2;generalize hWp:World.plus _ _ _=w3;have hx3:Ext w2 w3:=xQ hWp;have HR3:=HGO w3 hx3;have HX3:=aA hx3;clear hWp hx3;generalize hW:World.setCell _ _ _=w9;obtain ⟨hs9,hk9⟩:=HR3.out.goals (Sl.tailT HR3.out.go) (hfar w3 HX3.out) hW;clear hW;have hsz:=hk9.size;go_roundw
      case rel=>exact ⟨r,some ⟨b,q+2,none⟩,k0',gc2 - 1,hs9.mono (fun i hh=>hh.imp_right fun q=>⟨q.1,Nat.lt_of_lt_of_le q.2 hsz⟩),HK2.out.trans ((fA.of_ext HX3.out).trans hk9.is2),hdr⟩
      case measure=>
       rw [rK hs9.at_.cells.2.2.2.2.2,rK b5];omega
