import Derived.Test.YtplomeacjbkgnabGreatDoorZ35
import Derived.Test.YtplomeacjbkgnabGreatDoorZ24
import Derived.Test.YtplomeacjbkgnabGreatDoorZ12
set_option linter.all false
set_option maxRecDepth 100000
set_option maxHeartbeats 16000000
namespace Go.Proofs.YtplomeacjbkgnabGreatDoor
open Go.RowKit Tryz Ch
def RPark (w:World) (r:Except Int (gB×Int)) (e:Ending) (w':World):Prop:=
 match r with
 | .error f=>e = .returned (.tuple #[lC 0 none 0 0 none 0 0,vi 0,vi f])/\Ext w w'
 | .ok x=>∃ v1 v2,e = .returned (.tuple #[.agg #[vi x.1.last,v1,v2],vi x.2,vi 0])/\w'.ownsRow w.heap.size 141 8 v1 x.1.stays.length (x.1.stays.flatMap iA)/\w'.ownsRow w.heap.size 143 2 v2 x.1.jobs.length (x.1.jobs.flatMap jA)/\Ext w w'
theorem stayOf_car {l:List sA} (ht:∀ s∈l,1<=s.ticket) (id:Int):l.find? (rD 0 id)=l.find? (fun s=>s.car.id==id):=by
 induction l with
 | nil=>rfl
 | cons s l ih=>
  have h1:=ht s sp
  have e:rD 0 id s=(s.car.id==id):=by
   unfold rD
   have:(s.ticket==0)=false:=by simp;omega
   rw [this];simp
  rw [List.find?_cons,List.find?_cons,e,ih (fun x hx=>ht x (by simp [hx]))]
theorem stayOf_at (V:Value) (last ticket car:Int) (a1:Option Addr) (m1 c1:Nat) (a2:Option Addr) (m2 c2:Nat) (l:List sA) (w:World) (h:Sl w 8 iA l a1 m1 c1) (hv:Hid (stayV (l.find? (rD ticket car))=V)):
  Calls prog 100 #[lC last a1 m1 c1 a2 m2 c2,vi ticket,vi car] w fun e w'=>e = .returned V/\Ext w w':=by
 have:=bO last ticket car a1 m1 c1 a2 m2 c2 l w h;rw [hv.out] at this;exact this
theorem rpicked_at (V:Value) (last id lo hi he:Int) (a1:Option Addr) (m1 c1:Nat) (a2:Option Addr) (m2 c2:Nat) (aL:Option Addr) (nL cL:Nat) (l:List sA) (js:List Job) (ls:List dD) (w:World)
  (h:Sl w 8 iA l a1 m1 c1) (h2:Sl w 2 jA js a2 m2 c2) (hL:Sl w 3 yB ls aL nL cL) (n1':1<=nL) (n4:nL<=4) (hdp:∀ s∈l,s.home.depth=0\/s.home.depth=1) (hv:Hid (pickV (pick ⟨last,l,js⟩ ls ⟨id,⟨lo,hi,he⟩⟩)=V)):
  Calls prog 101 #[lC last a1 m1 c1 a2 m2 c2,.slice aL nL cL,.agg #[vi id,vi lo,vi hi,vi he]] w fun e w'=>e = .returned V/\Ext w w':=by
 have:=rpicked_any last id lo hi he a1 m1 c1 a2 m2 c2 aL nL cL l js ls w h h2 hL n1' n4 hdp;rw [hv.out] at this;exact this
theorem put3_farP {a:World} {R b o:Nat} {x y z v:Value} (h:b≠R) (c:a.cell? ⟨b,o,none⟩=some v):(((a.setCell ⟨R,0,none⟩ x).setCell ⟨R,1,none⟩ y).setCell ⟨R,2,none⟩ z).cell? ⟨b,o,none⟩=some v:=by
 have n:∀ i,(⟨R,i,none⟩:Addr)≠⟨b,o,none⟩:=by intro i e;cases e;exact h rfl
 rw [World.cell?_setCell_other (h:=n 2),World.cell?_setCell_other (h:=n 1),World.cell?_setCell_other (h:=n 0)];exact c
theorem owns_apart {W Y w8:World} {base e size H:Nat} {v v3:Value} {n:Nat} {xs:List Value} (h:W.ownsRow base e size v n xs) (hx:Ext W Y) (hg:Y.grownBy w8 v3.ownBlock) (hat:v3.ownBlock=(Value.slice none 0 0).ownBlock\/v3.ownBlock=some H) (hH:W.heap.size<=H):w8.ownsRow base e size v n xs:=by
 refine World.ownsRow.kept (zC h hx) hg ?_
 cases hv:v.ownBlock with
 | none=>exact Or.inl rfl
 | some k=>
  refine Or.inr ?_;intro e
  rcases hat with q|q
  ·rw [q] at e;simp [Value.ownBlock] at e
  ·rw [q] at e
   have hh:=(h.lt k hv).2;have hi:=Option.some.inj e;omega
theorem not_block {W:World} {base e size H B:Nat} {v:Value} {n:Nat} {xs:List Value} (h:W.ownsRow base e size v n xs) (hat:v.ownBlock=(Value.slice none 0 0).ownBlock\/v.ownBlock=some H) (hB:B<H\/W.heap.size<=B):v.ownBlock≠some B:=by
 intro e;have hl:=rE h e
 rcases hat with q|q
 ·rw [q] at e;simp [Value.ownBlock] at e
 ·rw [q] at e
  have hi:=Option.some.inj e;omega
theorem news2 {W:World} {B:Nat} {x0 x1:Value} (h0:W.cell? ⟨B,0,none⟩=some x0) (h1:W.cell? ⟨B,1,none⟩=some x1):∀ j u,([x0,x1]:List Value)[j]? = some u->W.cell? ((⟨B,0,none⟩:Addr).add j)=some u:=by
 intro j u hj
 have hadd:(⟨B,0,none⟩:Addr).add j=⟨B,j,none⟩:=by unfold Addr.add;split <;> simp_all
 rw [hadd]
 match j,hj with
 | 0,hj=>cases hj;exact h0
 | 1,hj=>cases hj;exact h1
theorem owns_put3P {w8:World} {base base' e size n R:Nat} {v x y z:Value} {xs:List Value} (h:w8.ownsRow base e size v n xs) (hb:base'<=base) (hne:v.ownBlock≠some R):
  (((w8.setCell ⟨R,0,none⟩ x).setCell ⟨R,1,none⟩ y).setCell ⟨R,2,none⟩ z).ownsRow base' e size v n xs:=
 mA (lA (lA (lA h _ hne) _ hne) _ hne) hb
theorem rpark_any (last id lo hi he:Int) (a1:Option Addr) (m1 c1:Nat) (a2:Option Addr) (m2 c2:Nat) (aL:Option Addr) (nL cL:Nat) (l:List sA) (js:List Job) (ls:List dD) (w:World)
  (h:Sl w 8 iA l a1 m1 c1) (h2:Sl w 2 jA js a2 m2 c2) (hL:Sl w 3 yB ls aL nL cL) (n1':1<=nL) (n4:nL<=4) (hdp:∀ s∈l,s.home.depth=0\/s.home.depth=1) (htk:∀ s∈l,1<=s.ticket)
  (l0:0<=last) (l9:last<=999999) (hm1:m1<=100) (hm2:m2<=100):
  Calls prog 53 #[lC last a1 m1 c1 a2 m2 c2,.slice aL nL cL,.agg #[vi id,vi lo,vi hi,vi he]] w (RPark w (park ⟨last,l,js⟩ ls ⟨id,⟨lo,hi,he⟩⟩)):=by
 obtain ⟨i0,hi0,hz0,hz1,hz2⟩:=info_parts infoStay;obtain ⟨j0,hj0,hy0,hy1,hy2⟩:=info_parts kO;have b1:=h.bound;have b2:=h2.bound;have HF:=aA h;have HJ:=aA h2;have HL:=aA hL;have E1:=aA h.len;have E2:=aA h2.len;have HDP:=aA hdp;have HTK:=aA htk;have hw1:IntKind.i64.wrap (last+1)=last+1:=IntWalk.i64_in _ om;clear h h2 hL hdp htk;go_enter func53,ntmps53
 go_upto_region 1 with fail
 generalize hW:World.alloc _ _=w0;have k0:cI w0 w.heap.size 0 last:=cQ hW;have k1:cV w0 w.heap.size 1 (.slice a1 m1 c1):=cQ hW;have k2:cV w0 w.heap.size 2 (.slice a2 m2 c2):=cQ hW;have q0:cI w0 (w.heap.size+1) 0 id:=cQ hW;have q1:cI w0 (w.heap.size+1) 1 lo:=cQ hW;have q2:cI w0 (w.heap.size+1) 2 hi:=cQ hW;have q3:cI w0 (w.heap.size+1) 3 he:=cQ hW;have r0:w0.cell? ⟨w.heap.size+1+1,0,none⟩=some (vi 0):=cQ hW;have r1:w0.cell? ⟨w.heap.size+1+1,1,none⟩=some (.slice none 0 0):=cQ hW;have r2:w0.cell? ⟨w.heap.size+1+1,2,none⟩=some (.slice none 0 0):=cQ hW
 have fz:∀ i,w0.frozen? ⟨w.heap.size+1+1,i,none⟩=false:=by intro i;rw [<-hW];simp [go_sem]
 have hx:Ext w w0:=xQ hW;have HX:=aA hx;have FZ:=aA fz;have z0:=cA k0;have zq:=cA q0;have hR0:=cA r0;have HS:=aA (Sl.below HF.out hx.below);have HK:=aA (Sl.below HJ.out hx.below);have HZ:=aA (Sl.below HL.out hx.below);clear hW hx fz
 by_cases hcf:gC ⟨id,⟨lo,hi,he⟩⟩=0
 ·have HC0:=aA hcf
  cases ho:((⟨last,l,js⟩:gB).of id).isSome
  ·obtain ⟨u0,u1,u2,u3,u4,u5,u6,u7,HSV⟩:∃ u0 u1 u2 u3 u4 u5 u6 u7,Hid (stayV (l.find? (rD 0 id)) = .tuple #[.agg #[vi u0,vi u1,vi u2,vi u3,vi u4,vi u5,vi u6,vi u7],.bool false]):=by
    have e:(l.find? (rD 0 id)).isSome=false:=by rw [stayOf_car HTK.out];exact ho
    exact ⟨_,_,_,_,_,_,_,_,by unfold Hid stayV;rw [e]⟩
   obtain ⟨px,py,pz,bb,HPV⟩:∃ px py pz bb,Hid (pickV (pick ⟨last,l,js⟩ ls ⟨id,⟨lo,hi,he⟩⟩) = .tuple #[.agg #[vi px,vi py,vi pz],.bool bb]):=⟨_,_,_,_,rfl⟩
   have HPK:Hid (pick ⟨last,l,js⟩ ls ⟨id,⟨lo,hi,he⟩⟩=if bb then some ⟨px,py,pz⟩ else none):=by
    have e:=HPV.out;unfold Hid
    cases hp:pick ⟨last,l,js⟩ ls ⟨id,⟨lo,hi,he⟩⟩ with
    | none=>rw [hp] at e;unfold pickV at e;simp only [Value.tuple.injEq,Array.mk.injEq,List.cons.injEq,Value.bool.injEq,and_true] at e;rw [<-e.2];rfl
    | some x=>
     obtain ⟨x0,x1,x2⟩:=x;rw [hp] at e;simp [pickV] at e;obtain ⟨⟨rfl,rfl,rfl⟩,rfl⟩:=e;rfl
   have HPRE:Hid (park ⟨last,l,js⟩ ls ⟨id,⟨lo,hi,he⟩⟩=match (if bb then some (⟨px,py,pz⟩:pB) else none) with|none=>.error 8|some p=>if last=999999\/js.length=8 then .error 8 else .ok (⟨last+1,l++[⟨last+1,⟨id,⟨lo,hi,he⟩⟩,p⟩],js++[⟨last+1,false⟩]⟩,last+1)):=by
    unfold Hid park;rw [if_neg (by rw [hcf];simp),if_neg (by rw [ho];simp),HPK.out]
    cases bb <;> rfl
   clear hcf ho
   go_upto_region 8 with (first
    | (go_at_call 99;(with_reducible refine (eO 0 _ _ _ _ _ HC0).mono ?_);rintro e w1 ⟨rfl,oA,nA,rfl⟩)
    | (go_at_call 100;(with_reducible refine (stayOf_at _ last 0 id a1 m1 c1 a2 m2 c2 l _ (Sl.below HS.out (Ext.below eX)) HSV).mono ?_);rintro e w1 ⟨rfl,oB,nB,rfl⟩)
    | (go_at_call 101;(with_reducible refine (rpicked_at _ last id lo hi he a1 m1 c1 a2 m2 c2 aL nL cL l js ls _ (Sl.below HS.out (Ext.below eX)) (Sl.below HK.out (Ext.below eX)) (Sl.below HZ.out (Ext.below eX)) n1' n4 HDP.out HPV).mono ?_);rintro e w1 ⟨rfl,oC,nC,rfl⟩))
   generalize hW:World.alloc _ _=wa;generalize hD:w0.heap.size+(oA.size+oB.size)+1+oC.size=D;have hxa:Ext w0 wa:=xQ hW;have d0:cI wa D 0 px:=cR hW hD;have d1:cI wa D 1 py:=cR hW hD;have d2:cI wa D 2 pz:=cR hW hD
   have hD0:w0.heap.size<=D:=om
   have HXA:=aA hxa;obtain ⟨ka0,ka1,ka2⟩:=xe3 hxa k0 k1 k2;have za0:=cA ka0;clear hW hD;cases bb
   ·have HW:Hid (park ⟨last,l,js⟩ ls ⟨id,⟨lo,hi,he⟩⟩ = .error 8):=HPRE.out
    clear hxa;have y0:=kA (w:=w0) (w':=wa) HXA.out hR0 (FZ.out 0);have y1:=kA (w:=w0) (w':=wa) HXA.out hR0 (FZ.out 1);have y2:=kA (w:=w0) (w':=wa) HXA.out hR0 (FZ.out 2);have t0:=gA (w:=w0) (w':=wa) HXA.out r0;have t1:=gA (w:=w0) (w':=wa) HXA.out r1;have t2:=gA (w:=w0) (w':=wa) HXA.out r2;go_wp2
    all_goals
     obtain ⟨p0,p1,p2,px⟩:=put3r (w:=w) (R:=w.heap.size+1+1) (x:=vi 0) (y:=.slice none 0 0) (z:=.slice none 0 0) (HX.out.trans (c:=wa) HXA.out) om t0 t1 t2;refine bodyPost_ret (v:=.tuple #[lC 0 none 0 0 none 0 0,vi 0,vi 8]) (by simp [results,results53,go_sem,p0,p1,p2]) rfl ?_;unfold RPark;rw [HW.out];exact ⟨rfl,px⟩
   ·by_cases hl:last=999999
    ·have hl1:(last==999999)=true:=by simp [hl]
     have HW:Hid (park ⟨last,l,js⟩ ls ⟨id,⟨lo,hi,he⟩⟩ = .error 8):=by unfold Hid;rw [HPRE.out];exact if_pos (Or.inl hl)
     clear hl hxa;have y0:=kA (w:=w0) (w':=wa) HXA.out hR0 (FZ.out 0);have y1:=kA (w:=w0) (w':=wa) HXA.out hR0 (FZ.out 1);have y2:=kA (w:=w0) (w':=wa) HXA.out hR0 (FZ.out 2);have t0:=gA (w:=w0) (w':=wa) HXA.out r0;have t1:=gA (w:=w0) (w':=wa) HXA.out r1;have t2:=gA (w:=w0) (w':=wa) HXA.out r2;go_wp2
     all_goals
      obtain ⟨p0,p1,p2,px⟩:=put3r (w:=w) (R:=w.heap.size+1+1) (x:=vi 0) (y:=.slice none 0 0) (z:=.slice none 0 0) (HX.out.trans (c:=wa) HXA.out) om t0 t1 t2;refine bodyPost_ret (v:=.tuple #[lC 0 none 0 0 none 0 0,vi 0,vi 8]) (by simp [results,results53,go_sem,p0,p1,p2]) rfl ?_;unfold RPark;rw [HW.out];exact ⟨rfl,px⟩
    ·have hl1:(last==999999)=false:=by simp [hl]
     by_cases h8:m2=8
     ·have h8i:((m2:Int)==8)=true:=by simp;omega
      have HW:Hid (park ⟨last,l,js⟩ ls ⟨id,⟨lo,hi,he⟩⟩ = .error 8):=by unfold Hid;rw [HPRE.out];exact if_pos (Or.inr (by rw [E2.out];exact h8))
      clear hl h8 hxa;have y0:=kA (w:=w0) (w':=wa) HXA.out hR0 (FZ.out 0);have y1:=kA (w:=w0) (w':=wa) HXA.out hR0 (FZ.out 1);have y2:=kA (w:=w0) (w':=wa) HXA.out hR0 (FZ.out 2);have t0:=gA (w:=w0) (w':=wa) HXA.out r0;have t1:=gA (w:=w0) (w':=wa) HXA.out r1;have t2:=gA (w:=w0) (w':=wa) HXA.out r2;go_wp2
      all_goals
       obtain ⟨p0,p1,p2,px⟩:=put3r (w:=w) (R:=w.heap.size+1+1) (x:=vi 0) (y:=.slice none 0 0) (z:=.slice none 0 0) (HX.out.trans (c:=wa) HXA.out) om t0 t1 t2;refine bodyPost_ret (v:=.tuple #[lC 0 none 0 0 none 0 0,vi 0,vi 8]) (by simp [results,results53,go_sem,p0,p1,p2]) rfl ?_;unfold RPark;rw [HW.out];exact ⟨rfl,px⟩
     ·have h8i:((m2:Int)==8)=false:=by simp;omega
      have HW:Hid (park ⟨last,l,js⟩ ls ⟨id,⟨lo,hi,he⟩⟩ = .ok (⟨last+1,l++[⟨last+1,⟨id,⟨lo,hi,he⟩⟩,⟨px,py,pz⟩⟩],js++[⟨last+1,false⟩]⟩,last+1)):=by unfold Hid;rw [HPRE.out];exact if_neg (by rintro (e|e);exact hl e;rw [E2.out] at e;exact h8 e)
      clear hl h8;obtain ⟨qa0,qa1,qa2,qa3⟩:=xe4 hxa q0 q1 q2 q3;have zq3:=cA qa0;have zdd:=cA d0
      have nd1:¬ D=w.heap.size+1+1:=om
      have nd2:¬ w.heap.size+1+1=D:=om
      go_upto_region 11 with fail
      generalize hW2:wa=wz at *;have z0:wz.cell? ⟨w.heap.size,0,none⟩=some (vi last):=ka0;have z1:wz.cell? ⟨w.heap.size,1,none⟩=some (.slice a1 m1 c1):=ka1;have z2:wz.cell? ⟨w.heap.size,2,none⟩=some (.slice a2 m2 c2):=ka2;have z3:wz.cell? ⟨w.heap.size+1,0,none⟩=some (vi id):=qa0;have z4:wz.cell? ⟨w.heap.size+1,1,none⟩=some (vi lo):=qa1;have z5:wz.cell? ⟨w.heap.size+1,2,none⟩=some (vi hi):=qa2;have z6:wz.cell? ⟨w.heap.size+1,3,none⟩=some (vi he):=qa3;have z7:wz.cell? ⟨D,0,none⟩=some (vi px):=d0;have z8:wz.cell? ⟨D,1,none⟩=some (vi py):=d1;have z9:wz.cell? ⟨D,2,none⟩=some (vi pz):=d2;have t0:=gA (w:=w0) hxa r0;have t1:=gA (w:=w0) hxa r1;have t2:=gA (w:=w0) hxa r2;have y0:=kA (w:=w0) hxa hR0 (FZ.out 0);have y1:=kA (w:=w0) hxa hR0 (FZ.out 1);have y2:=kA (w:=w0) hxa hR0 (FZ.out 2);have zR:=cA t0;have HSZ:=aA (Sl.below HS.out hxa.below);have HKZ:=aA (Sl.below HK.out hxa.below);clear hW2 hxa ka0 ka1 ka2 qa0 qa1 qa2 qa3 d0 d1 d2 k0 k1 k2 q0 q1 q2 q3
      go_region_held3 (fun w'=>w'.cell? ⟨w.heap.size,0,none⟩=some (vi last)/\w'.cell? ⟨w.heap.size,1,none⟩=some (.slice a1 m1 c1)/\w'.cell? ⟨w.heap.size,2,none⟩=some (.slice a2 m2 c2)/\w'.cell? ⟨w.heap.size+1,0,none⟩=some (vi id)/\w'.cell? ⟨w.heap.size+1,1,none⟩=some (vi lo)/\w'.cell? ⟨w.heap.size+1,2,none⟩=some (vi hi)/\w'.cell? ⟨w.heap.size+1,3,none⟩=some (vi he)/\w'.cell? ⟨D,0,none⟩=some (vi px)/\w'.cell? ⟨D,1,none⟩=some (vi py)/\w'.cell? ⟨D,2,none⟩=some (vi pz))
       (first|((try dsimp only);(repeat' apply And.intro) <;> first|(with_reducible assumption)|(with_reducible refine put3_farP ?_ ?_;(omega);(with_reducible assumption))|(refine gA (w:=wz) ?_ (by with_reducible assumption);simp (maxDischargeDepth:=60);done)|(refine gA (w:=w6) ?_ (by with_reducible assumption);simp (maxDischargeDepth:=60);done)))
       (first
        | (refine cG _ rfl _ _ _ rfl wz.heap.size 141 i0 _ 8 64 underlying46 hi0 hz0 hz1 hz2 rfl dc (.slice none 0 0) 0 [] rfl (World.ownsRow_nil _ _ _ _) (.slice a1 m1 c1) m1 (l.flatMap iA) rfl (SrcAt.of (Sl.below HSZ.out (Ext.below eX)) (fun _=>rfl)) (by intro u hu;obtain ⟨y,_,hy⟩:=List.mem_flatMap.1 hu;simp only [iA,List.mem_cons,List.not_mem_nil,or_false] at hy;rcases hy with rfl|rfl|rfl|rfl|rfl|rfl|rfl|rfl <;> rfl) (by unfold maxLen;omega) om so ?_;intro v1 w5 hown1 hgrow1 hat1;obtain ⟨o3,n3,rfl⟩:=grown_none hgrow1)
        | (refine cG _ rfl _ _ _ rfl wz.heap.size 141 i0 _ 8 64 underlying46 hi0 hz0 hz1 hz2 rfl dc v1 (0+m1) ([]++l.flatMap iA) rfl (by first|exact hown1|exact zC hown1 eX) _ 1 [vi (last+1),vi id,vi lo,vi hi,vi he,vi px,vi py,vi pz] rfl ⟨rfl,Or.inr ⟨_,1,rfl,by first|exact World.news_of_block (pA _ _ _ sp)|exact World.news_of_block ((heap_alloc_old _ _ so).trans (pA _ _ _ sp))|exact World.news_of_block ((dB _ _ _ _ sp).trans (pA _ _ _ sp))|exact World.news_of_block ((dB _ _ _ _ so).trans ((heap_alloc_old _ _ so).trans (pA _ _ _ sp)))|exact World.news_of_block ((heap_alloc_old _ _ so).trans ((dB _ _ _ _ so).trans (pA _ _ _ sp)))⟩⟩ (by simp [Value.oneCell']) (by unfold maxLen;omega) om so ?_;intro v2 w6 hown2 hgrow2 hat2;have hx6:=vB (w:=wz) eX hgrow2 (qA hown1);have HX6:Hid (Ext wz w6):=hx6;have KEEP6:=aA (fun (b o:Nat) (v:Value) hc hne=>gF (b:=b) (o:=o) (v:=v) hgrow2 hc hne);have mm0:=gA HX6.out z0;have mm1:=gA HX6.out z1;have mm2:=gA HX6.out z2;have mm3:=gA HX6.out z3;have mm4:=gA HX6.out z4;have mm5:=gA HX6.out z5;have mm6:=gA HX6.out z6;have mm7:=gA HX6.out z7;have mm8:=gA HX6.out z8;have mm9:=gA HX6.out z9;have mmt0:=gA HX6.out t0;have mmy0:=kA HX6.out zR y0;have mmt1:=gA HX6.out t1;have mmy1:=kA HX6.out zR y1;have mmt2:=gA HX6.out t2;have mmy2:=kA HX6.out zR y2;have mmz0:=cA mm0;have mmz3:=cA mm3;have mmz7:=cA mm7;have mmzt:=cA mmt0;clear hx6 hgrow2;rw [Nat.zero_add,List.nil_append,show l.flatMap iA++[vi (last+1),vi id,vi lo,vi hi,vi he,vi px,vi py,vi pz]=(l++[(⟨last+1,⟨id,⟨lo,hi,he⟩⟩,⟨px,py,pz⟩⟩:sA)]).flatMap iA by simp [iA]] at hown2;obtain ⟨sa1,ca1,rfl,sl1⟩:=Sl.of_owns (c:=8) (enc:=iA) hown2 dc (fun _=>rfl))
        | (refine cG _ rfl _ _ _ rfl wz.heap.size 143 j0 _ 2 16 underlying47 hj0 hy0 hy1 hy2 rfl dc (.slice none 0 0) 0 [] rfl (World.ownsRow_nil _ _ _ _) (.slice a2 m2 c2) m2 (js.flatMap jA) rfl (SrcAt.of (Sl.below (Sl.below HKZ.out HX6.out.below) (Ext.below eX)) (fun _=>rfl)) (by intro u hu;obtain ⟨y,_,hy⟩:=List.mem_flatMap.1 hu;simp only [jA,List.mem_cons,List.not_mem_nil,or_false] at hy;rcases hy with rfl|rfl <;> rfl) (by unfold maxLen;omega) om (by have:=HX6.out.below.size;first|(simp;done)|(simp;omega)) ?_;intro v3 w7 hown3 hgrow3 hat3;obtain ⟨o5,n5,rfl⟩:=grown_none hgrow3)
        | (refine cG _ rfl _ _ _ rfl wz.heap.size 143 j0 _ 2 16 underlying47 hj0 hy0 hy1 hy2 rfl dc v3 (0+m2) ([]++js.flatMap jA) rfl (by first|exact hown3|exact zC hown3 eX) _ 1 [vi (last+1),.bool false] rfl ⟨rfl,Or.inr ⟨_,1,rfl,by first|exact World.news_of_block (pA _ _ _ sp)|exact World.news_of_block ((dB _ _ _ _ sp).trans (pA _ _ _ sp))|exact news2 (gA (w:=w6) (by first|exact eX|exact Ext.refl _) (KEEP6.out _ _ _ (by simp [go_sem];done) (not_block hown1 hat1 (by first|(left;simp;done)|(left;simp;omega)|(right;simp;done)|(right;simp;omega))))) (gA (w:=w6) (by first|exact eX|exact Ext.refl _) (KEEP6.out _ _ _ (by simp [go_sem];done) (not_block hown1 hat1 (by first|(left;simp;done)|(left;simp;omega)|(right;simp;done)|(right;simp;omega)))))⟩⟩ (by simp [Value.oneCell']) (by unfold maxLen;omega) om (by have:=HX6.out.below.size;first|(simp;done)|(simp;omega)) ?_;intro v4 w8 hown4 hgrow4 hat4;have hx8:=vB (w:=wz) (HX6.out.trans (by first|exact eX|exact Ext.refl _)) hgrow4 (qA hown3);have HX8:Hid (Ext wz w8):=hx8;have hown5:=owns_apart hown2 (by first|exact eX|exact Ext.refl _) hgrow4 hat3 (by first|exact Nat.le_refl _|(simp;done)|(simp;omega));have nn0:=gA HX8.out z0;have nn1:=gA HX8.out z1;have nn2:=gA HX8.out z2;have nn3:=gA HX8.out z3;have nn4:=gA HX8.out z4;have nn5:=gA HX8.out z5;have nn6:=gA HX8.out z6;have nn7:=gA HX8.out z7;have nn8:=gA HX8.out z8;have nn9:=gA HX8.out z9;have nnt0:=gA HX8.out t0;have nny0:=kA HX8.out zR y0;have nnt1:=gA HX8.out t1;have nny1:=kA HX8.out zR y1;have nnt2:=gA HX8.out t2;have nny2:=kA HX8.out zR y2;have nnz0:=cA nn0;have nnz3:=cA nn3;have nnz7:=cA nn7;have nnzt:=cA nnt0;clear hx8 hgrow4;rw [Nat.zero_add,List.nil_append,show js.flatMap jA++[vi (last+1),.bool false]=(js++[(⟨last+1,false⟩:Job)]).flatMap jA by simp [jA]] at hown4;obtain ⟨sa2,ca2,rfl,sl2⟩:=Sl.of_owns (c:=2) (enc:=jA) hown4 dc (fun _=>rfl)))
      all_goals
       have zx:w.heap.size<=wz.heap.size:=om
       have g5:=qA hown5;have g4:=qA hown4;obtain ⟨p0,p1,p2,px8⟩:=put3r (w:=w) (a:=w8) (R:=w.heap.size+1+1) (x:=vi (last+1)) (y:=.slice sa1 (m1+1) ca1) (z:=.slice sa2 (m2+1) ca2) ((HX.out.trans HXA.out).trans HX8.out) om nnt0 nnt1 nnt2;simp only [Exit.then]
       with_reducible apply_assumption
       refine wp_ret ?_;show bodyPost _ _ _ .ret _ _;refine bodyPost_ret (v:=.tuple #[.agg #[vi (last+1),.slice sa1 (m1+1) ca1,.slice sa2 (m2+1) ca2],vi (last+1),vi 0]) (by simp [results,results53,go_sem,p0,p1,p2]) rfl ?_;unfold RPark;rw [HW.out];refine ⟨_,_,rfl,?_,?_,px8⟩
       ·dsimp only
        rw [show (l++[(⟨last+1,⟨id,⟨lo,hi,he⟩⟩,⟨px,py,pz⟩⟩:sA)]).length=m1+1 by rw [List.length_append,E1.out];rfl]
        with_reducible refine owns_put3P hown5 zx ?_
        intro e;have:=g5 _ e;(try dsimp only at this);omega
       ·dsimp only
        rw [show (js++[(⟨last+1,false⟩:Job)]).length=m2+1 by rw [List.length_append,E2.out];rfl]
        with_reducible refine owns_put3P hown4 zx ?_
        intro e;have:=g4 _ e;(try dsimp only at this);omega
  ·obtain ⟨u0,u1,u2,u3,u4,u5,u6,u7,HSV⟩:∃ u0 u1 u2 u3 u4 u5 u6 u7,Hid (stayV (l.find? (rD 0 id)) = .tuple #[.agg #[vi u0,vi u1,vi u2,vi u3,vi u4,vi u5,vi u6,vi u7],.bool true]):=by
    have e:(l.find? (rD 0 id)).isSome=true:=by rw [stayOf_car HTK.out];exact ho
    exact ⟨_,_,_,_,_,_,_,_,by unfold Hid stayV;rw [e]⟩
   have HW:Hid (park ⟨last,l,js⟩ ls ⟨id,⟨lo,hi,he⟩⟩ = .error 6):=by
    unfold Hid park;rw [if_neg (by rw [hcf];simp),if_pos ho]
   clear hcf ho
   go_upto_region 6 with (first
    | (go_at_call 99;with_reducible refine mo (eO 0 _ _ _ _ _ HC0) fun o1 n1=>?_)
    | (go_at_call 100;with_reducible refine mo (stayOf_at _ last 0 id a1 m1 c1 a2 m2 c2 l _ (Sl.below HS.out (Ext.below eX)) HSV) fun o1 n1=>?_))
   generalize hW:World.alloc _ _=wa;have hxa:Ext w0 wa:=xQ hW;have HXA:=aA hxa;clear hW hxa;have y0:=kA (w:=w0) (w':=wa) HXA.out hR0 (FZ.out 0);have y1:=kA (w:=w0) (w':=wa) HXA.out hR0 (FZ.out 1);have y2:=kA (w:=w0) (w':=wa) HXA.out hR0 (FZ.out 2);have t0:=gA (w:=w0) (w':=wa) HXA.out r0;have t1:=gA (w:=w0) (w':=wa) HXA.out r1;have t2:=gA (w:=w0) (w':=wa) HXA.out r2;go_wp2
   all_goals
    obtain ⟨p0,p1,p2,px⟩:=put3r (w:=w) (R:=w.heap.size+1+1) (x:=vi 0) (y:=.slice none 0 0) (z:=.slice none 0 0) (HX.out.trans (c:=wa) HXA.out) om t0 t1 t2;refine bodyPost_ret (v:=.tuple #[lC 0 none 0 0 none 0 0,vi 0,vi 6]) (by simp [results,results53,go_sem,p0,p1,p2]) rfl ?_;unfold RPark;rw [HW.out];exact ⟨rfl,px⟩
 ·have HC0:Hid (gC ⟨id,⟨lo,hi,he⟩⟩=1):=car_bad hcf
  have HW:Hid (park ⟨last,l,js⟩ ls ⟨id,⟨lo,hi,he⟩⟩ = .error 1):=by
   unfold Hid park;rw [if_pos hcf,HC0.out]
  clear hcf
  go_upto_region 3 with (first|(go_at_call 99;with_reducible refine mo (eO 1 _ _ _ _ _ HC0) fun o1 n1=>?_))
  generalize hW:World.plus _ _ _=wa;have hxa:Ext w0 wa:=xQ hW;have HXA:=aA hxa;clear hW hxa;have y0:=kA (w:=w0) (w':=wa) HXA.out hR0 (FZ.out 0);have y1:=kA (w:=w0) (w':=wa) HXA.out hR0 (FZ.out 1);have y2:=kA (w:=w0) (w':=wa) HXA.out hR0 (FZ.out 2);have t0:=gA (w:=w0) (w':=wa) HXA.out r0;have t1:=gA (w:=w0) (w':=wa) HXA.out r1;have t2:=gA (w:=w0) (w':=wa) HXA.out r2;go_wp2
  all_goals
   obtain ⟨p0,p1,p2,px⟩:=put3r (w:=w) (R:=w.heap.size+1+1) (x:=vi 0) (y:=.slice none 0 0) (z:=.slice none 0 0) (HX.out.trans (c:=wa) HXA.out) om t0 t1 t2;refine bodyPost_ret (v:=.tuple #[lC 0 none 0 0 none 0 0,vi 0,vi 1]) (by simp [results,results53,go_sem,p0,p1,p2]) rfl ?_;unfold RPark;rw [HW.out];exact ⟨rfl,px⟩
