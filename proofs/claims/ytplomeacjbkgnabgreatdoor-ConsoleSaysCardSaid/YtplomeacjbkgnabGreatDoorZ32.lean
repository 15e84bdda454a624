import Derived.Test.YtplomeacjbkgnabGreatDoorZ27
import Derived.Deep.DeepCutAuto
set_option linter.all false
set_option maxRecDepth 100000
set_option maxHeartbeats 16000000
namespace Go.Proofs.YtplomeacjbkgnabGreatDoor
open Go.RowKit Tryz Ch
theorem put14 {w a w2:World} {R:Nat} {v0 v1 v2 v3 v4 v5 v6 v7 v8 v9 v10 v11 v12 v13:Value} (hW:((((((((((((((a.setCell ⟨R,0,none⟩ v0).setCell ⟨R,1,none⟩ v1).setCell ⟨R,2,none⟩ v2).setCell ⟨R,3,none⟩ v3).setCell ⟨R,4,none⟩ v4).setCell ⟨R,5,none⟩ v5).setCell ⟨R,6,none⟩ v6).setCell ⟨R,7,none⟩ v7).setCell ⟨R,8,none⟩ v8).setCell ⟨R,9,none⟩ v9).setCell ⟨R,10,none⟩ v10).setCell ⟨R,11,none⟩ v11).setCell ⟨R,12,none⟩ v12).setCell ⟨R,13,none⟩ v13)=w2)
  (hx:Ext w a) (hR:w.heap.size<=R) {cs:Array Value} {t:TypeId} (hb:a.heap[R]? = some (.cells cs t (0,0))) (hn:cs.size=14):
  w2.cell? ⟨R,0,none⟩=some v0/\w2.cell? ⟨R,1,none⟩=some v1/\w2.cell? ⟨R,2,none⟩=some v2/\w2.cell? ⟨R,3,none⟩=some v3/\w2.cell? ⟨R,4,none⟩=some v4/\w2.cell? ⟨R,5,none⟩=some v5/\w2.cell? ⟨R,6,none⟩=some v6/\w2.cell? ⟨R,7,none⟩=some v7/\w2.cell? ⟨R,8,none⟩=some v8/\w2.cell? ⟨R,9,none⟩=some v9/\w2.cell? ⟨R,10,none⟩=some v10/\w2.cell? ⟨R,11,none⟩=some v11/\w2.cell? ⟨R,12,none⟩=some v12/\w2.cell? ⟨R,13,none⟩=some v13/\Ext w w2:=by
 subst hW
 have key:∀ (a:World) (i j:Nat) (v:Value),i≠j->(a.setCell ⟨R,i,none⟩ v).cell? ⟨R,j,none⟩=a.cell? ⟨R,j,none⟩:=fun a i j v h=>World.cell?_setCell_other _ _ _ _ (by intro e;cases e;exact h rfl)
 have old:∀ i,i<14->∃ x,a.cell? ⟨R,i,none⟩=some x:=fun i hi=>⟨cs[i],tA hb sp⟩
 have same:∀ (a:World) (i:Nat) (v:Value),(∃ x,a.cell? ⟨R,i,none⟩=some x)->(a.setCell ⟨R,i,none⟩ v).cell? ⟨R,i,none⟩=some v:=fun a i v ⟨_,h⟩=>World.cell?_setCell_same _ _ _ h
 refine ⟨?_,?_,?_,?_,?_,?_,?_,?_,?_,?_,?_,?_,?_,?_,(Ext.setCell (Ext.setCell (Ext.setCell (Ext.setCell (Ext.setCell (Ext.setCell (Ext.setCell (Ext.setCell (Ext.setCell (Ext.setCell (Ext.setCell (Ext.setCell (Ext.setCell (Ext.setCell hx hR _) hR _) hR _) hR _) hR _) hR _) hR _) hR _) hR _) hR _) hR _) hR _) hR _) hR _)⟩
 ·simp (disch:=decide) only [key];exact same _ _ _ (old 0 dc)
 ·simp (disch:=decide) only [key];exact same _ _ _ (by simp (disch:=decide) only [key];exact old 1 dc)
 ·simp (disch:=decide) only [key];exact same _ _ _ (by simp (disch:=decide) only [key];exact old 2 dc)
 ·simp (disch:=decide) only [key];exact same _ _ _ (by simp (disch:=decide) only [key];exact old 3 dc)
 ·simp (disch:=decide) only [key];exact same _ _ _ (by simp (disch:=decide) only [key];exact old 4 dc)
 ·simp (disch:=decide) only [key];exact same _ _ _ (by simp (disch:=decide) only [key];exact old 5 dc)
 ·simp (disch:=decide) only [key];exact same _ _ _ (by simp (disch:=decide) only [key];exact old 6 dc)
 ·simp (disch:=decide) only [key];exact same _ _ _ (by simp (disch:=decide) only [key];exact old 7 dc)
 ·simp (disch:=decide) only [key];exact same _ _ _ (by simp (disch:=decide) only [key];exact old 8 dc)
 ·simp (disch:=decide) only [key];exact same _ _ _ (by simp (disch:=decide) only [key];exact old 9 dc)
 ·simp (disch:=decide) only [key];exact same _ _ _ (by simp (disch:=decide) only [key];exact old 10 dc)
 ·simp (disch:=decide) only [key];exact same _ _ _ (by simp (disch:=decide) only [key];exact old 11 dc)
 ·simp (disch:=decide) only [key];exact same _ _ _ (by simp (disch:=decide) only [key];exact old 12 dc)
 ·exact same _ _ _ (by simp (disch:=decide) only [key];exact old 13 dc)
theorem turn_lift {b:gB} {n:Int} {p:dA} (h:¬ p.lift=0):xA b n p=(pE b n p,none):=by
 unfold xA;rw [if_pos h]
def spareG (b:gB) (p:dA) (c jt:Int) (jf is:Bool):Bool:=is&&match b.of c with|some x=>bE b p x ⟨jt,jf⟩|none=>false
theorem turn_is {b:gB} {n:Int} {p:dA} {jt c:Int} {jf is:Bool} (hl:p.lift=0) (hc:p.slots (wH n)=c) (hf:pC (sB b p.bay)=(jt,jf,is)):
  xA b n p=if c≠0/\spareG b p c jt jf is=false then (fetch (wH n),none) else if is then gE b p ⟨jt,jf⟩ else if p.door then ([],none) else (rG,none):=by
 subst hc;unfold xA spareG;rw [if_neg (by simp [hl])];dsimp only
 cases hj:sB b p.bay with
 | none=>
  rw [hj] at hf;simp only [pC,Prod.mk.injEq] at hf;obtain ⟨rfl,rfl,rfl⟩:=hf;simp
 | some j=>
  rw [hj] at hf;simp only [pC,Prod.mk.injEq] at hf;obtain ⟨rfl,rfl,rfl⟩:=hf
  cases ho:b.of (p.slots (wH n)) with
  | none=>simp
  | some x=>simp
theorem sense_val {pb mb:Nat} {p:dA} {w:World} (V:Value) (h:yA w pb mb p) (hp:p.WF) (hv:Hid (senseA p=V)):
  Calls prog 22 #[.pointer (some ⟨pb,0,none⟩)] w fun r w'=>r = .returned V/\Ext w w':=by
 have:=sense_any h hp;rw [hv.out] at this;exact this
theorem job_val (jg:List aG) (jo:Option gB) (bl:Int) (bs:List sA) (bj:List Job) (oc:Bool) (jt:Int) (jf:Bool) (last:Int) (a1:Option Addr) (m1 c1:Nat) (a2:Option Addr) (m2 c2:Nat) (lv:Int) (pb mb:Nat) (hh ee:Int) (dd:Bool) (pe li ba:Int) (f0 f1 f2:Bool) (l:List sA) (js:List Job) (p:dA) (w:World)
  (h:Sl w 8 iA l a1 m1 c1)
  (h2:Sl w 2 jA js a2 m2 c2) (hp:yA w pb mb p) (hwf:p.WF) (hj:Hid (∃ s∈l,s.ticket=jt)) (hba:Hid (p.bay=ba)) (hdd:Hid (p.door=dd)) (h4:p.levels<=4) (hm1:m1<=100) (hm2:m2<=100)
  (hv:Hid (gE ⟨last,l,js⟩ p ⟨jt,jf⟩=(jg,jo))) (hb:Hid (jo.getD ⟨0,[],[]⟩=⟨bl,bs,bj⟩)) (ho:Hid (jo.isSome=oc)):
  Calls prog 117 #[turnV last a1 m1 c1 a2 m2 c2 lv pb hh ee dd pe li ba f0 f1 f2,.agg #[vi jt,.bool jf]] w fun e w'=>∃ v i1 i1' i2 i2',e = .returned (.tuple #[v,.agg #[vi bl,.slice i1 bs.length i1',.slice i2 bj.length i2'],.bool oc]) /\
   w'.ownsRow w.heap.size 135 2 v jg.length (jg.flatMap jC)/\mF w w' bl bs bj (.slice i1 bs.length i1') (.slice i2 bj.length i2')/\Ext w w':=by
 have:=job_any jt jf last a1 m1 c1 a2 m2 c2 lv pb mb hh ee dd pe li ba f0 f1 f2 l js p w h h2 hp hwf hj hba hdd h4 hm1 hm2;rw [hv.out] at this;refine this.mono ?_;rintro e w' ⟨v,v1,v2,he,hg,hob,hx⟩;rw [hb.out] at he hob;rw [ho.out] at he;obtain ⟨i1,i1',rfl,-⟩:=Sl.of_owns (c:=8) (enc:=iA) hob.stays dc (fun _=>rfl);obtain ⟨i2,i2',rfl,-⟩:=Sl.of_owns (c:=2) (enc:=jA) hob.jobs dc (fun _=>rfl);exact ⟨v,i1,i1',i2,i2',he,hg,hob,hx⟩
theorem turnNext_any (last:Int) (a1:Option Addr) (m1 c1:Nat) (a2:Option Addr) (m2 c2:Nat) (lv:Int) (pb mb:Nat) (l:List sA) (js:List Job) (p:dA) (w:World)
  (h:Sl w 8 iA l a1 m1 c1) (h2:Sl w 2 jA js a2 m2 c2) (hp:yA w pb mb p) (hwf:p.WF) (hj:Hid (∀ j∈js,∃ s∈l,s.ticket=j.ticket)) (hpl:Hid (∀ s∈l,uA s.home lv=0)) (l1:1<=lv) (l4:lv<=4) (h4:p.levels<=4) (hm1:m1<=100) (hm2:m2<=100):
  Calls prog 65 #[lC last a1 m1 c1 a2 m2 c2,vi lv,.pointer (some ⟨pb,0,none⟩)] w (xI w (xA ⟨last,l,js⟩ lv p).1 (xA ⟨last,l,js⟩ lv p).2):=by
 have b1:=h.bound;have HF:=aA h;have HJ:=aA h2;have HP:=aA hp;have E1:=aA h.len;clear h h2 hp
 obtain ⟨hh,hhh⟩:∃ x,Hid (p.height=x):=⟨_,rfl⟩
 obtain ⟨ee,hee⟩:∃ x,Hid (p.ext=x):=⟨_,rfl⟩
 obtain ⟨dd,hdd⟩:∃ x,Hid (p.door=x):=⟨_,rfl⟩
 obtain ⟨pe,hpe⟩:∃ x,Hid (p.people=x):=⟨_,rfl⟩
 obtain ⟨li,hli⟩:∃ x,Hid (p.lift=x):=⟨_,rfl⟩
 obtain ⟨ba,hba⟩:∃ x,Hid (p.bay=x):=⟨_,rfl⟩
 obtain ⟨f0,hf0⟩:∃ x,Hid (p.full p.ext=x):=⟨_,rfl⟩
 obtain ⟨f1,hf1⟩:∃ x,Hid (p.full (p.ext - 1)=x):=⟨_,rfl⟩
 obtain ⟨f2,hf2⟩:∃ x,Hid (p.full (p.ext+1)=x):=⟨_,rfl⟩
 have HSN:Hid (senseA p = .agg #[vi hh,vi ee,.bool dd,vi pe,vi li,vi ba,.bool f0,.bool f1,.bool f2]):=by
  unfold Hid senseA;rw [hhh.out,hdd.out,hpe.out,hli.out,hba.out,hf0.out,hf1.out,hf2.out,hee.out]
 obtain ⟨⟨jt,jf,is⟩,HFJ⟩:∃ r,Hid (pC (sB ⟨last,l,js⟩ ba)=r):=⟨_,rfl⟩
 obtain ⟨c,HC⟩:∃ c,Hid (p.slots ⟨lv,1,0⟩=c):=⟨_,rfl⟩
 go_enter func65,ntmps65
 go_upto_region 1 with fail
 generalize hW:World.alloc _ _=w0;have k0:cI w0 w.heap.size 0 last:=cQ hW;have k1:cV w0 w.heap.size 1 (.slice a1 m1 c1):=cQ hW;have k2:cV w0 w.heap.size 2 (.slice a2 m2 c2):=cQ hW;have rr0:cI w0 (w.heap.size+1) 0 0:=cQ hW;have rr1:cV w0 (w.heap.size+1) 1 (.slice none 0 0):=cQ hW;have rr2:cV w0 (w.heap.size+1) 2 (.slice none 0 0):=cQ hW
 have fz:∀ i,w0.frozen? ⟨w.heap.size+1,i,none⟩=false:=by intro i;rw [<-hW];simp [go_sem]
 have hx:Ext w w0:=xQ hW;have HS:=aA (Sl.below HF.out hx.below);have HK:=aA (Sl.below HJ.out hx.below);have HP1:=aA (HP.out.ext hx);have HX:=aA hx;have FZ:=aA fz;have z1:=cA k0;have z2:=cA rr0;clear hW hx HF HJ HP fz
 go_cut [9] (fun s9 wx=>∃ A:Nat,s9 = .pointer (some ⟨A,0,none⟩)/\Ext w0 wx/\cI wx A 0 last/\wx.cell? ⟨A,1,none⟩=some (.slice a1 m1 c1)/\wx.cell? ⟨A,2,none⟩=some (.slice a2 m2 c2)/\cI wx A 3 lv/\wx.cell? ⟨A,4,none⟩=some (.pointer (some ⟨pb,0,none⟩))/\cI wx A 5 hh/\cI wx A 6 ee/\wx.cell? ⟨A,7,none⟩=some (.bool dd)/\cI wx A 8 pe/\cI wx A 9 li/\cI wx A 10 ba/\wx.cell? ⟨A,11,none⟩=some (.bool f0)/\wx.cell? ⟨A,12,none⟩=some (.bool f1)/\wx.cell? ⟨A,13,none⟩=some (.bool f2))
 case first=>
  go_region_held3 (fun w'=>w'.cell? ⟨w.heap.size,0,none⟩=some (vi last)/\w'.cell? ⟨w.heap.size,1,none⟩=some (.slice a1 m1 c1)/\w'.cell? ⟨w.heap.size,2,none⟩=some (.slice a2 m2 c2)) (first|((try dsimp only);(repeat' apply And.intro) <;> exact xC (w:=w0))) (first|(go_at_call 22;with_reducible refine mo (sense_val _ (HP1.out.ext eX) hwf HSN) fun o1 n1=>?_))
  ·generalize hW:World.alloc _ _=w2
   generalize hA:w0.heap.size+_=A;have hx2:Ext w0 w2:=xQ hW;have t0:cI w2 A 0 last:=cR hW hA;have t1:cV w2 A 1 (.slice a1 m1 c1):=cR hW hA;have t2:cV w2 A 2 (.slice a2 m2 c2):=cR hW hA;have t3:cI w2 A 3 lv:=cR hW hA;have t4:cV w2 A 4 (.pointer (some ⟨pb,0,none⟩)):=cR hW hA;have t5:cI w2 A 5 hh:=cR hW hA;have t6:cI w2 A 6 ee:=cR hW hA;have t7:cV w2 A 7 (.bool dd):=cR hW hA;have t8:cI w2 A 8 pe:=cR hW hA;have t9:cI w2 A 9 li:=cR hW hA;have t10:cI w2 A 10 ba:=cR hW hA;have t11:cV w2 A 11 (.bool f0):=cR hW hA;have t12:cV w2 A 12 (.bool f1):=cR hW hA;have t13:cV w2 A 13 (.bool f2):=cR hW hA;clear hW hA;go_wp2_with fail;go_meet;exact ⟨A,rfl,hx2,t0,t1,t2,t3,t4,t5,t6,t7,t8,t9,t10,t11,t12,t13⟩
  ·generalize hW:World.setCell _ _ _=w2
   obtain ⟨t0,t1,t2,t3,t4,t5,t6,t7,t8,t9,t10,t11,t12,t13,hx2⟩:=put14 (w:=w0) hW eX (Nat.le_refl _) (by rw [dB _ _ _ _ sp];exact pA _ _ _ rfl) rfl;clear hW;go_wp2_with fail;go_meet;exact ⟨_,rfl,hx2,t0,t1,t2,t3,t4,t5,t6,t7,t8,t9,t10,t11,t12,t13⟩
 case rest=>
  obtain ⟨A,rfl,hx2,t0,t1,t2,t3,t4,t5,t6,t7,t8,t9,t10,t11,t12,t13⟩:=hcut;obtain ⟨g0,g1,g2,q0,q1,q2⟩:=xe6 hx2 k0 k1 k2 rr0 rr1 rr2
  have fz2:∀ i,wc.frozen? ⟨w.heap.size+1,i,none⟩=false:=fun i=>kA hx2 (cA rr0) (FZ.out i)
  have FZ2:=aA fz2;have HX2:=aA (HX.out.trans hx2);have HS2:=aA (Sl.below HS.out hx2.below);have HK2:=aA (Sl.below HK.out hx2.below);have HP2:=aA (HP1.out.ext hx2);have sa1:=cA g0;have sa2:=cA q0;have sa3:=cA t0;clear hx2 fz2 FZ HS HK HP1 HX k0 k1 k2 rr0 rr1 rr2 z1 z2
  by_cases hl:li=0
  ·subst hl
   have HT:Hid (xA ⟨last,l,js⟩ lv p=if c≠0/\spareG ⟨last,l,js⟩ p c jt jf is=false then (fetch ⟨lv,1,0⟩,none) else if is then gE ⟨last,l,js⟩ p ⟨jt,jf⟩ else if dd then ([],none) else (rG,none)):=by
    unfold Hid;rw [<-hdd.out];exact turn_is hli.out HC.out (by rw [hba.out];exact HFJ.out)
   have HJM:Hid (is=true->∃ s∈l,s.ticket=jt):=by
    intro hi;have hf:=HFJ.out
    cases hfj:sB ⟨last,l,js⟩ ba with
    | none=>rw [hfj] at hf;simp only [pC,Prod.mk.injEq] at hf;rw [hi] at hf;simp at hf
    | some j=>
     rw [hfj] at hf;simp only [pC,Prod.mk.injEq] at hf;rw [<-hf.1];exact hj.out j (first_mem hfj).1
   go_upto_region 5 with (go_at_call 113;with_reducible refine mo (first_any jt jf is _ _ _ _ _ _ _ _ _ _ _ _ _ _ _ _ _ _ l js _ (Sl.below HS2.out (Ext.below eX)) (Sl.below HK2.out (Ext.below eX)) hj HFJ) fun o1 n1=>?_)
   generalize hW:World.alloc _ _=w3;generalize hA:wc.heap.size+_=A5;have hx3:Ext wc w3:=xQ hW;have j0:cI w3 A5 0 jt:=cR hW hA;have j1:cV w3 A5 1 (.bool jf):=cR hW hA;obtain ⟨u0,u1,u2,u3,u4,u5,u6,u7,u8,u9,u10,u11⟩:=iF hx3 t0 t1 t2 t3 t4 t5 t6 t7 t8 t9 t10 t11;obtain ⟨u12,u13,h0,h1,h2,p0,p1,p2⟩:=xe8 hx3 t12 t13 g0 g1 g2 q0 q1 q2
   have fz3:∀ i,w3.frozen? ⟨w.heap.size+1,i,none⟩=false:=fun i=>kA hx3 (cA q0) (FZ2.out i)
   have FQ:=aA fz3;have HX3:=aA (HX2.out.trans hx3);have HS3:=aA (Sl.below HS2.out hx3.below);have HK3:=aA (Sl.below HK2.out hx3.below);have HP3:=aA (HP2.out.ext hx3);have sb1:=cA h0;have sb2:=cA p0;have sb3:=cA u0;have sb4:=cA j0;clear hW hA hx3 fz3 FZ2 HS2 HK2 HP2 HX2 t0 t1 t2 t3 t4 t5 t6 t7 t8 t9 t10 t11 t12 t13 g0 g1 g2 q0 q1 q2 sa1 sa2 sa3
   by_cases hc:c=0
   ·subst hc
    cases is
    ·cases dd
     ·go_wp2_with (first|(go_at_call 114;with_reducible refine mo (nD _ _) fun o1 n1=>?_)|(go_at_call 35;with_reducible refine mo (tF (HP3.out.ext eX) _ _ _ 0 HC) fun o1 n1=>?_)|(go_at_call 118;(with_reducible refine (welcome_any _).mono ?_);rintro e wv ⟨v1,rfl,hown,hxv⟩;have hxz:Ext w3 wv:=Ext.trans eX hxv;have fq0:=kA hxz (cA p0) (FQ.out 0);have fq1:=kA hxz (cA p0) (FQ.out 1);have fq2:=kA hxz (cA p0) (FQ.out 2);obtain ⟨pq0,pq1,pq2⟩:=xe3 hxz p0 p1 p2))
      go_wp2
      have HE:xA ⟨last,l,js⟩ lv p=(rG,none):=by
       rw [HT.out,if_neg sp,if_neg sp,if_neg sp]
      obtain ⟨o0,o1,o2,ox⟩:=dE (w:=w) (x:=vi 0) (y:=.slice none 0 0) (z:=.slice none 0 0) (HX3.out.trans hxz) (show w.heap.size<=w.heap.size+1 by omega) pq0 pq1 pq2;refine bodyPost_ret (v:=.tuple #[v1,.agg #[vi 0,.slice none 0 0,.slice none 0 0],.bool false]) (by simp [results,results65,go_sem,o0,o1,o2]) rfl ?_;rw [HE];exact ⟨v1,_,_,rfl,mA (dC hown ov) (by have:=HX3.out.below.size;first|omega|(simp;omega)),mC _ _,ox⟩
     ·go_upto_region 13 with (first|(go_at_call 114;with_reducible refine mo (nD _ _) fun o1 n1=>?_)|(go_at_call 35;with_reducible refine mo (tF (HP3.out.ext eX) _ _ _ 0 HC) fun o1 n1=>?_))
      generalize hW:World.plus _ _ _=w4;have hxz:Ext w3 w4:=xQ hW;have fq0:=kA hxz (cA p0) (FQ.out 0);have fq1:=kA hxz (cA p0) (FQ.out 1);have fq2:=kA hxz (cA p0) (FQ.out 2);obtain ⟨pq0,pq1,pq2⟩:=xe3 hxz p0 p1 p2;clear hW;go_wp2
      have HE:xA ⟨last,l,js⟩ lv p=([],none):=by
       rw [HT.out,if_neg sp,if_neg sp];simp only [if_true]
      obtain ⟨o0,o1,o2,ox⟩:=dE (w:=w) (x:=vi 0) (y:=.slice none 0 0) (z:=.slice none 0 0) (HX3.out.trans hxz) (show w.heap.size<=w.heap.size+1 by omega) pq0 pq1 pq2;refine bodyPost_ret (v:=.tuple #[.slice none 0 0,.agg #[vi 0,.slice none 0 0,.slice none 0 0],.bool false]) (by simp [results,results65,go_sem,o0,o1,o2]) rfl ?_;rw [HE];exact ⟨_,_,_,rfl,fD _ _ _ _,mC _ _,ox⟩
    ·have HJ1:=aA (HJM.out rfl)
     obtain ⟨⟨jg,jo⟩,HJO⟩:∃ r,Hid (gE ⟨last,l,js⟩ p ⟨jt,jf⟩=r):=⟨_,rfl⟩
     obtain ⟨⟨bl,bs,bj⟩,HBO⟩:∃ x,Hid (jo.getD ⟨0,[],[]⟩=x):=⟨_,rfl⟩
     obtain ⟨oc,HOC⟩:∃ x,Hid (jo.isSome=x):=⟨_,rfl⟩
     go_wp2_with (first|(go_at_call 114;with_reducible refine mo (nD _ _) fun o1 n1=>?_)|(go_at_call 35;with_reducible refine mo (tF (HP3.out.ext eX) _ _ _ 0 HC) fun o1 n1=>?_)|(go_at_call 117;(with_reducible refine (job_val jg jo bl bs bj oc jt jf last a1 m1 c1 a2 m2 c2 lv pb mb hh ee dd pe 0 ba f0 f1 f2 l js p _ (Sl.below HS3.out (Ext.below eX)) (Sl.below HK3.out (Ext.below eX)) (HP3.out.ext eX) hwf HJ1 hba hdd h4 hm1 hm2 HJO HBO HOC).mono ?_);rintro e wv ⟨v1,i1,i1',i2,i2',rfl,hown,hob,hxv⟩;have hxz:Ext w3 wv:=Ext.trans eX hxv;have fq0:=kA hxz (cA p0) (FQ.out 0);have fq1:=kA hxz (cA p0) (FQ.out 1);have fq2:=kA hxz (cA p0) (FQ.out 2);obtain ⟨pq0,pq1,pq2⟩:=xe3 hxz p0 p1 p2));go_wp2;obtain ⟨o0,o1,o2,ox⟩:=dE (w:=w) (x:=vi bl) (y:=.slice i1 bs.length i1') (z:=.slice i2 bj.length i2') (HX3.out.trans hxz) (show w.heap.size<=w.heap.size+1 by omega) pq0 pq1 pq2;refine bodyPost_ret (v:=.tuple #[v1,.agg #[vi bl,.slice i1 bs.length i1',.slice i2 bj.length i2'],.bool oc]) (by simp [results,results65,go_sem,o0,o1,o2]) rfl ?_
     have HE:xA ⟨last,l,js⟩ lv p=(jg,jo):=by
      rw [HT.out,if_neg sp];simp only [if_true];exact HJO.out
     rw [HE];refine ⟨v1,.slice i1 bs.length i1',.slice i2 bj.length i2',?_,mA (dC hown ov) (by have:=HX3.out.below.size;first|omega|(simp;omega)),?_,ox⟩
     ·rw [HBO.out,HOC.out]
     ·rw [HBO.out]
      exact (hob.put3 ov).weak (by have:=HX3.out.below.size;first|omega|(simp;omega))
   ·rcases of_where (b:=⟨last,l,js⟩) (id:=c) with ⟨ho,hi⟩|⟨si,⟨xt,⟨xi,⟨x1,x2,x3⟩⟩,⟨u1',u2',u3'⟩⟩,hi,hsl,ho⟩
    ·have HI:Hid (cC (fun s:sA=>s.car.id==c) l=-1):=hi
     have HO:=aA ho;clear hi ho;cases is
     ·go_upto_region 8 with (first|(go_at_call 114;with_reducible refine mo (nD _ _) fun o1 n1=>?_)|(go_at_call 35;with_reducible refine mo (tF (HP3.out.ext eX) _ _ _ c HC) fun o1 n1=>?_)|(go_at_call 94;with_reducible refine mo (gO (-1) _ _ _ _ _ _ _ _ l _ (Sl.below HS3.out (Ext.below eX)) HI) fun o1 n1=>?_))
      (refine qF ?_;rintro _ ⟨oq,nq,rfl⟩)
      go_wp2_with (first|(go_at_call 114;with_reducible refine mo (nD _ _) fun o1 n1=>?_)|(go_at_call 116;(with_reducible refine (rM _ _ _ _ dc dc l1 l4).mono ?_);rintro e wv ⟨v1,rfl,hown,hxv⟩;have hxz:Ext w3 wv:=Ext.trans eX hxv;have fq0:=kA hxz (cA p0) (FQ.out 0);have fq1:=kA hxz (cA p0) (FQ.out 1);have fq2:=kA hxz (cA p0) (FQ.out 2);obtain ⟨pq0,pq1,pq2⟩:=xe3 hxz p0 p1 p2));go_wp2
      have HE:xA ⟨last,l,js⟩ lv p=(fetch ⟨lv,1,0⟩,none):=by
       rw [HT.out,if_pos];exact ⟨hc,by unfold spareG;rfl⟩
      obtain ⟨o0,o1,o2,ox⟩:=dE (w:=w) (x:=vi 0) (y:=.slice none 0 0) (z:=.slice none 0 0) (HX3.out.trans hxz) (show w.heap.size<=w.heap.size+1 by omega) pq0 pq1 pq2;refine bodyPost_ret (v:=.tuple #[v1,.agg #[vi 0,.slice none 0 0,.slice none 0 0],.bool false]) (by simp [results,results65,go_sem,o0,o1,o2]) rfl ?_;rw [HE];exact ⟨v1,_,_,rfl,mA (dC hown ov) (by have:=HX3.out.below.size;first|omega|(simp;omega)),mC _ _,ox⟩
     ·go_upto_region 8 with (first|(go_at_call 114;with_reducible refine mo (nD _ _) fun o1 n1=>?_)|(go_at_call 35;with_reducible refine mo (tF (HP3.out.ext eX) _ _ _ c HC) fun o1 n1=>?_)|(go_at_call 94;with_reducible refine mo (gO (-1) _ _ _ _ _ _ _ _ l _ (Sl.below HS3.out (Ext.below eX)) HI) fun o1 n1=>?_))
      (refine qF ?_;rintro _ ⟨oq,nq,rfl⟩)
      go_wp2_with (first|(go_at_call 114;with_reducible refine mo (nD _ _) fun o1 n1=>?_)|(go_at_call 116;(with_reducible refine (rM _ _ _ _ dc dc l1 l4).mono ?_);rintro e wv ⟨v1,rfl,hown,hxv⟩;have hxz:Ext w3 wv:=Ext.trans eX hxv;have fq0:=kA hxz (cA p0) (FQ.out 0);have fq1:=kA hxz (cA p0) (FQ.out 1);have fq2:=kA hxz (cA p0) (FQ.out 2);obtain ⟨pq0,pq1,pq2⟩:=xe3 hxz p0 p1 p2));go_wp2
      have HE:xA ⟨last,l,js⟩ lv p=(fetch ⟨lv,1,0⟩,none):=by
       rw [HT.out,if_pos];exact ⟨hc,by unfold spareG;rw [HO.out];rfl⟩
      obtain ⟨o0,o1,o2,ox⟩:=dE (w:=w) (x:=vi 0) (y:=.slice none 0 0) (z:=.slice none 0 0) (HX3.out.trans hxz) (show w.heap.size<=w.heap.size+1 by omega) pq0 pq1 pq2;refine bodyPost_ret (v:=.tuple #[v1,.agg #[vi 0,.slice none 0 0,.slice none 0 0],.bool false]) (by simp [results,results65,go_sem,o0,o1,o2]) rfl ?_;rw [HE];exact ⟨v1,_,_,rfl,mA (dC hown ov) (by have:=HX3.out.below.size;first|omega|(simp;omega)),mC _ _,ox⟩
    ·have HI:Hid (cC (fun s:sA=>s.car.id==c) l=(si:Int)):=hi
     have HO:=aA ho
     have hsm:si<m1:=by
      have:=E1.out;obtain ⟨h1,_⟩:=List.getElem?_eq_some_iff.1 hsl;dsimp only at h1;omega
     obtain ⟨b',q',s',rfl,hs',ds⟩:=HS3.out.get hsm;rw [show l[si]? = _ from hsl] at hs';cases hs';have ds:=at8 ds;have hq2:=cA ds.1;have e0:=ds.1;have e1:=ds.2.1;have e2:=ds.2.2.1;have e3:=ds.2.2.2.1;have e4:=ds.2.2.2.2.1;have e5:=ds.2.2.2.2.2.1;have e6:=ds.2.2.2.2.2.2.1;have e7:=ds.2.2.2.2.2.2.2
     have hs0:(0:Int)<=(si:Int):=om
     have hs1:(si:Int)<(m1:Int):=om
     have hs2:(si:Int)<=(c1:Int):=om
     have hsn:¬ ((si:Int)<0):=om
     clear hi ho hsl ds;cases is
     ·go_upto_region 8 with (first|(go_at_call 114;with_reducible refine mo (nD _ _) fun o1 n1=>?_)|(go_at_call 35;with_reducible refine mo (tF (HP3.out.ext eX) _ _ _ c HC) fun o1 n1=>?_)|(go_at_call 94;with_reducible refine mo (gO (si:Int) _ _ _ _ _ _ _ _ l _ (Sl.below HS3.out (Ext.below eX)) HI) fun o1 n1=>?_))
      (refine qF ?_;rintro _ ⟨oq,nq,rfl⟩)
      go_wp2_with (first|(go_at_call 114;with_reducible refine mo (nD _ _) fun o1 n1=>?_)|(go_at_call 116;(with_reducible refine (rM _ _ _ _ dc dc l1 l4).mono ?_);rintro e wv ⟨v1,rfl,hown,hxv⟩;have hxz:Ext w3 wv:=Ext.trans eX hxv;have fq0:=kA hxz (cA p0) (FQ.out 0);have fq1:=kA hxz (cA p0) (FQ.out 1);have fq2:=kA hxz (cA p0) (FQ.out 2);obtain ⟨pq0,pq1,pq2⟩:=xe3 hxz p0 p1 p2));go_wp2
      have HE:xA ⟨last,l,js⟩ lv p=(fetch ⟨lv,1,0⟩,none):=by
       rw [HT.out,if_pos];exact ⟨hc,by unfold spareG;rfl⟩
      obtain ⟨o0,o1,o2,ox⟩:=dE (w:=w) (x:=vi 0) (y:=.slice none 0 0) (z:=.slice none 0 0) (HX3.out.trans hxz) (show w.heap.size<=w.heap.size+1 by omega) pq0 pq1 pq2;refine bodyPost_ret (v:=.tuple #[v1,.agg #[vi 0,.slice none 0 0,.slice none 0 0],.bool false]) (by simp [results,results65,go_sem,o0,o1,o2]) rfl ?_;rw [HE];exact ⟨v1,_,_,rfl,mA (dC hown ov) (by have:=HX3.out.below.size;first|omega|(simp;omega)),mC _ _,ox⟩
     ·have HJ1:=aA (HJM.out rfl)
      obtain ⟨V,HB⟩:∃ V,Hid (bE ⟨last,l,js⟩ p ⟨xt,⟨xi,⟨x1,x2,x3⟩⟩,⟨u1',u2',u3'⟩⟩ ⟨jt,jf⟩=V):=⟨_,rfl⟩
      cases V
      ·go_upto_region 8 with (first|(go_at_call 114;with_reducible refine mo (nD _ _) fun o1 n1=>?_)|(go_at_call 35;with_reducible refine mo (tF (HP3.out.ext eX) _ _ _ c HC) fun o1 n1=>?_)|(go_at_call 94;with_reducible refine mo (gO (si:Int) _ _ _ _ _ _ _ _ l _ (Sl.below HS3.out (Ext.below eX)) HI) fun o1 n1=>?_))
       (refine rA kR kR ?_;(repeat (first|go_big_quiet_step ((intro _;go_at_call 115;exact qC (qD false xt xi x1 x2 x3 u1' u2' u3' jt jf _ _ _ _ _ _ _ _ pb mb _ _ _ _ _ _ _ _ _ l js p _ (Sl.below HS3.out (Ext.below eX)) (HP3.out.ext eX) HJ1 HB)))|quiet_step ((intro _;go_at_call 115;exact qC (qD false xt xi x1 x2 x3 u1' u2' u3' jt jf _ _ _ _ _ _ _ _ pb mb _ _ _ _ _ _ _ _ _ l js p _ (Sl.below HS3.out (Ext.below eX)) (HP3.out.ext eX) HJ1 HB)))));refine wpQuiet_nil ?_;rintro _ ⟨oq,nq,rfl⟩)
       go_wp2_with (first|(go_at_call 114;with_reducible refine mo (nD _ _) fun o1 n1=>?_)|(go_at_call 116;(with_reducible refine (rM _ _ _ _ dc dc l1 l4).mono ?_);rintro e wv ⟨v1,rfl,hown,hxv⟩;have hxz:Ext w3 wv:=Ext.trans eX hxv;have fq0:=kA hxz (cA p0) (FQ.out 0);have fq1:=kA hxz (cA p0) (FQ.out 1);have fq2:=kA hxz (cA p0) (FQ.out 2);obtain ⟨pq0,pq1,pq2⟩:=xe3 hxz p0 p1 p2));go_wp2
       have HE:xA ⟨last,l,js⟩ lv p=(fetch ⟨lv,1,0⟩,none):=by
        rw [HT.out,if_pos];exact ⟨hc,by unfold spareG;rw [HO.out];dsimp only;rw [HB.out];rfl⟩
       obtain ⟨o0,o1,o2,ox⟩:=dE (w:=w) (x:=vi 0) (y:=.slice none 0 0) (z:=.slice none 0 0) (HX3.out.trans hxz) (show w.heap.size<=w.heap.size+1 by omega) pq0 pq1 pq2;refine bodyPost_ret (v:=.tuple #[v1,.agg #[vi 0,.slice none 0 0,.slice none 0 0],.bool false]) (by simp [results,results65,go_sem,o0,o1,o2]) rfl ?_;rw [HE];exact ⟨v1,_,_,rfl,mA (dC hown ov) (by have:=HX3.out.below.size;first|omega|(simp;omega)),mC _ _,ox⟩
      ·go_upto_region 8 with (first|(go_at_call 114;with_reducible refine mo (nD _ _) fun o1 n1=>?_)|(go_at_call 35;with_reducible refine mo (tF (HP3.out.ext eX) _ _ _ c HC) fun o1 n1=>?_)|(go_at_call 94;with_reducible refine mo (gO (si:Int) _ _ _ _ _ _ _ _ l _ (Sl.below HS3.out (Ext.below eX)) HI) fun o1 n1=>?_))
       (refine rA kR kR ?_;(repeat (first|go_big_quiet_step ((intro _;go_at_call 115;exact qC (qD true xt xi x1 x2 x3 u1' u2' u3' jt jf _ _ _ _ _ _ _ _ pb mb _ _ _ _ _ _ _ _ _ l js p _ (Sl.below HS3.out (Ext.below eX)) (HP3.out.ext eX) HJ1 HB)))|quiet_step ((intro _;go_at_call 115;exact qC (qD true xt xi x1 x2 x3 u1' u2' u3' jt jf _ _ _ _ _ _ _ _ pb mb _ _ _ _ _ _ _ _ _ l js p _ (Sl.below HS3.out (Ext.below eX)) (HP3.out.ext eX) HJ1 HB)))));refine wpQuiet_nil ?_;rintro _ ⟨oq,nq,rfl⟩)
       obtain ⟨⟨jg,jo⟩,HJO⟩:∃ r,Hid (gE ⟨last,l,js⟩ p ⟨jt,jf⟩=r):=⟨_,rfl⟩
       obtain ⟨⟨bl,bs,bj⟩,HBO⟩:∃ x,Hid (jo.getD ⟨0,[],[]⟩=x):=⟨_,rfl⟩
       obtain ⟨oc,HOC⟩:∃ x,Hid (jo.isSome=x):=⟨_,rfl⟩
       go_wp2_with (first|fail|(go_at_call 117;(with_reducible refine (job_val jg jo bl bs bj oc jt jf last _ m1 c1 a2 m2 c2 lv pb mb hh ee dd pe 0 ba f0 f1 f2 l js p _ (Sl.below HS3.out (Ext.below eX)) (Sl.below HK3.out (Ext.below eX)) (HP3.out.ext eX) hwf HJ1 hba hdd h4 hm1 hm2 HJO HBO HOC).mono ?_);rintro e wv ⟨v1,i1,i1',i2,i2',rfl,hown,hob,hxv⟩;have hxz:Ext w3 wv:=Ext.trans eX hxv;have fq0:=kA hxz (cA p0) (FQ.out 0);have fq1:=kA hxz (cA p0) (FQ.out 1);have fq2:=kA hxz (cA p0) (FQ.out 2);obtain ⟨pq0,pq1,pq2⟩:=xe3 hxz p0 p1 p2));go_wp2;obtain ⟨o0,o1,o2,ox⟩:=dE (w:=w) (x:=vi bl) (y:=.slice i1 bs.length i1') (z:=.slice i2 bj.length i2') (HX3.out.trans hxz) (show w.heap.size<=w.heap.size+1 by omega) pq0 pq1 pq2;refine bodyPost_ret (v:=.tuple #[v1,.agg #[vi bl,.slice i1 bs.length i1',.slice i2 bj.length i2'],.bool oc]) (by simp [results,results65,go_sem,o0,o1,o2]) rfl ?_
       have HE:xA ⟨last,l,js⟩ lv p=(jg,jo):=by
        rw [HT.out,if_neg (by unfold spareG;rw [HO.out];dsimp only;rw [HB.out];simp)];simp only [if_true];exact HJO.out
       rw [HE];refine ⟨v1,.slice i1 bs.length i1',.slice i2 bj.length i2',?_,mA (dC hown ov) (by have:=HX3.out.below.size;first|omega|(simp;omega)),?_,ox⟩
       ·rw [HBO.out,HOC.out]
       ·rw [HBO.out]
        exact (hob.put3 ov).weak (by have:=HX3.out.below.size;first|omega|(simp;omega))
  ·have FQ:=FZ2
   go_wp2_with (go_at_call 112;(with_reducible refine (loaded_any last a1 m1 c1 a2 m2 c2 lv pb mb hh ee dd pe li ba f0 f1 f2 l js p _ (Sl.below HS2.out (Ext.below eX)) (Sl.below HK2.out (Ext.below eX)) (HP2.out.ext eX) hj hpl hli hba l1 l4).mono ?_);rintro e wv ⟨v1,rfl,hown,hxv⟩;have hxz:Ext wc wv:=Ext.trans eX hxv;have fq0:=kA hxz (cA q0) (FQ.out 0);have fq1:=kA hxz (cA q0) (FQ.out 1);have fq2:=kA hxz (cA q0) (FQ.out 2);obtain ⟨pq0,pq1,pq2⟩:=xe3 hxz q0 q1 q2);go_wp2;have HE:xA ⟨last,l,js⟩ lv p=(pE ⟨last,l,js⟩ lv p,none):=turn_lift (by rw [hli.out];exact hl);obtain ⟨o0,o1,o2,ox⟩:=dE (w:=w) (x:=vi 0) (y:=.slice none 0 0) (z:=.slice none 0 0) (HX2.out.trans hxz) (show w.heap.size<=w.heap.size+1 by omega) pq0 pq1 pq2;refine bodyPost_ret (v:=.tuple #[v1,.agg #[vi 0,.slice none 0 0,.slice none 0 0],.bool false]) (by simp [results,results65,go_sem,o0,o1,o2]) rfl ?_;rw [HE];exact ⟨v1,_,_,rfl,mA (dC hown ov) (by have:=HX2.out.below.size;first|omega|(simp;omega)),mC _ _,ox⟩
