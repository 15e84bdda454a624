import Derived.Test.YtplomeacjbkgnabGreatDoorZ37
import Derived.Deep.DeepCutAuto
set_option linter.all false
set_option maxRecDepth 100000
set_option maxHeartbeats 16000000
namespace Go.Proofs.YtplomeacjbkgnabGreatDoor
open Go.RowKit
theorem put14 {w a w2:World} {R:Nat} {v0 v1 v2 v3 v4 v5 v6 v7 v8 v9 v10 v11 v12 v13:Value} (hW:((((((((((((((a.setCell ⟨R,0,none⟩ v0).setCell ⟨R,1,none⟩ v1).setCell ⟨R,2,none⟩ v2).setCell ⟨R,3,none⟩ v3).setCell ⟨R,4,none⟩ v4).setCell ⟨R,5,none⟩ v5).setCell ⟨R,6,none⟩ v6).setCell ⟨R,7,none⟩ v7).setCell ⟨R,8,none⟩ v8).setCell ⟨R,9,none⟩ v9).setCell ⟨R,10,none⟩ v10).setCell ⟨R,11,none⟩ v11).setCell ⟨R,12,none⟩ v12).setCell ⟨R,13,none⟩ v13)=w2)
  (hx:Ext w a) (hR:w.heap.size≤R) {cs:Array Value} {t:TypeId} (hb:a.heap[R]? = some (.cells cs t (0,0))) (hn:cs.size=14):
  w2.cell? ⟨R,0,none⟩=some v0∧w2.cell? ⟨R,1,none⟩=some v1∧w2.cell? ⟨R,2,none⟩=some v2∧w2.cell? ⟨R,3,none⟩=some v3∧w2.cell? ⟨R,4,none⟩=some v4∧w2.cell? ⟨R,5,none⟩=some v5∧w2.cell? ⟨R,6,none⟩=some v6∧w2.cell? ⟨R,7,none⟩=some v7∧w2.cell? ⟨R,8,none⟩=some v8∧w2.cell? ⟨R,9,none⟩=some v9∧w2.cell? ⟨R,10,none⟩=some v10∧w2.cell? ⟨R,11,none⟩=some v11∧w2.cell? ⟨R,12,none⟩=some v12∧w2.cell? ⟨R,13,none⟩=some v13∧Ext w w2:=by
 subst hW
 have key:∀ (a:World) (i j:Nat) (v:Value),i≠j→(a.setCell ⟨R,i,none⟩ v).cell? ⟨R,j,none⟩=a.cell? ⟨R,j,none⟩:=fun a i j v h=>World.cell?_setCell_other _ _ _ _ (by intro e;cases e;exact h rfl)
 have old:∀ i,i<14→∃ x,a.cell? ⟨R,i,none⟩=some x:=fun i hi=>⟨cs[i],cB hb (by simp)⟩
 have same:∀ (a:World) (i:Nat) (v:Value),(∃ x,a.cell? ⟨R,i,none⟩=some x)→(a.setCell ⟨R,i,none⟩ v).cell? ⟨R,i,none⟩=some v:=fun a i v ⟨_,h⟩=>World.cell?_setCell_same _ _ _ h
 refine ⟨?_,?_,?_,?_,?_,?_,?_,?_,?_,?_,?_,?_,?_,?_,(Ext.setCell (Ext.setCell (Ext.setCell (Ext.setCell (Ext.setCell (Ext.setCell (Ext.setCell (Ext.setCell (Ext.setCell (Ext.setCell (Ext.setCell (Ext.setCell (Ext.setCell (Ext.setCell hx hR _) hR _) hR _) hR _) hR _) hR _) hR _) hR _) hR _) hR _) hR _) hR _) hR _) hR _)⟩
 ·simp (disch:=decide) only [key];exact same _ _ _ (old 0 (by decide))
 ·simp (disch:=decide) only [key];exact same _ _ _ (by simp (disch:=decide) only [key];exact old 1 (by decide))
 ·simp (disch:=decide) only [key];exact same _ _ _ (by simp (disch:=decide) only [key];exact old 2 (by decide))
 ·simp (disch:=decide) only [key];exact same _ _ _ (by simp (disch:=decide) only [key];exact old 3 (by decide))
 ·simp (disch:=decide) only [key];exact same _ _ _ (by simp (disch:=decide) only [key];exact old 4 (by decide))
 ·simp (disch:=decide) only [key];exact same _ _ _ (by simp (disch:=decide) only [key];exact old 5 (by decide))
 ·simp (disch:=decide) only [key];exact same _ _ _ (by simp (disch:=decide) only [key];exact old 6 (by decide))
 ·simp (disch:=decide) only [key];exact same _ _ _ (by simp (disch:=decide) only [key];exact old 7 (by decide))
 ·simp (disch:=decide) only [key];exact same _ _ _ (by simp (disch:=decide) only [key];exact old 8 (by decide))
 ·simp (disch:=decide) only [key];exact same _ _ _ (by simp (disch:=decide) only [key];exact old 9 (by decide))
 ·simp (disch:=decide) only [key];exact same _ _ _ (by simp (disch:=decide) only [key];exact old 10 (by decide))
 ·simp (disch:=decide) only [key];exact same _ _ _ (by simp (disch:=decide) only [key];exact old 11 (by decide))
 ·simp (disch:=decide) only [key];exact same _ _ _ (by simp (disch:=decide) only [key];exact old 12 (by decide))
 ·exact same _ _ _ (by simp (disch:=decide) only [key];exact old 13 (by decide))
theorem turn_lift {b:Ch.Book} {n:Int} {p:Ch.Plant} (h:¬ p.lift=0):Ch.turnOf b n p=(Ch.loaded b n p,none):=by
 unfold Ch.turnOf;rw [if_pos h]
def spareG (b:Ch.Book) (p:Ch.Plant) (c jt:Int) (jf is:Bool):Bool:=is&&match b.of c with|some x=>Ch.blocks b p x ⟨jt,jf⟩|none=>false
theorem turn_is {b:Ch.Book} {n:Int} {p:Ch.Plant} {jt c:Int} {jf is:Bool} (hl:p.lift=0) (hc:p.slots (Ch.spare n)=c) (hf:qB (Ch.firstJob b p.bay)=(jt,jf,is)):
  Ch.turnOf b n p=if c≠0∧spareG b p c jt jf is=false then (Ch.fetch (Ch.spare n),none) else if is then Ch.jobOf b p ⟨jt,jf⟩ else if p.door then ([],none) else (Ch.welcome,none):=by
 subst hc;unfold Ch.turnOf spareG;rw [if_neg (by simp [hl])];dsimp only
 cases hj:Ch.firstJob b p.bay with
 | none=>
  rw [hj] at hf;simp only [qB,Prod.mk.injEq] at hf;obtain ⟨rfl,rfl,rfl⟩:=hf;simp
 | some j=>
  rw [hj] at hf;simp only [qB,Prod.mk.injEq] at hf;obtain ⟨rfl,rfl,rfl⟩:=hf
  cases ho:b.of (p.slots (Ch.spare n)) with
  | none=>simp
  | some x=>simp
theorem sense_val {pb mb:Nat} {p:Ch.Plant} {w:World} (V:Value) (h:tA w pb mb p) (hp:p.WF) (hv:Hid (qI p=V)):
  Calls Tryz.prog 22 #[.pointer (some ⟨pb,0,none⟩)] w fun r w'=>r = .returned V∧Ext w w':=by
 have:=sense_any h hp;rw [hv.out] at this;exact this
theorem job_val (jg:List Ch.Goal) (jo:Option Ch.Book) (bl:Int) (bs:List Ch.Stay) (bj:List Ch.Job) (oc:Bool) (jt:Int) (jf:Bool) (last:Int) (a1:Option Addr) (m1 c1:Nat) (a2:Option Addr) (m2 c2:Nat) (lv:Int) (pb mb:Nat) (hh ee:Int) (dd:Bool) (pe li ba:Int) (f0 f1 f2:Bool) (l:List Ch.Stay) (js:List Ch.Job) (p:Ch.Plant) (w:World)
  (h:Sl w 8 gA l a1 m1 c1)
  (h2:Sl w 2 jA js a2 m2 c2) (hp:tA w pb mb p) (hwf:p.WF) (hj:Hid (∃ s∈l,s.ticket=jt)) (hba:Hid (p.bay=ba)) (hdd:Hid (p.door=dd)) (h4:p.levels≤4) (hm1:m1≤100) (hm2:m2≤100)
  (hv:Hid (Ch.jobOf ⟨last,l,js⟩ p ⟨jt,jf⟩=(jg,jo))) (hb:Hid (jo.getD ⟨0,[],[]⟩=⟨bl,bs,bj⟩)) (ho:Hid (jo.isSome=oc)):
  Calls Tryz.prog 117 #[turnV last a1 m1 c1 a2 m2 c2 lv pb hh ee dd pe li ba f0 f1 f2,.agg #[vi jt,.bool jf]] w fun e w'=>∃ v i1 i1' i2 i2',e = .returned (.tuple #[v,.agg #[vi bl,.slice i1 bs.length i1',.slice i2 bj.length i2'],.bool oc]) ∧
   w'.ownsRow w.heap.size 135 2 v jg.length (jg.flatMap eB)∧eD w w' bl bs bj (.slice i1 bs.length i1') (.slice i2 bj.length i2')∧Ext w w':=by
 have:=job_any jt jf last a1 m1 c1 a2 m2 c2 lv pb mb hh ee dd pe li ba f0 f1 f2 l js p w h h2 hp hwf hj hba hdd h4 hm1 hm2;rw [hv.out] at this;refine this.mono ?_;rintro e w' ⟨v,v1,v2,he,hg,hob,hx⟩;rw [hb.out] at he hob;rw [ho.out] at he;obtain ⟨i1,i1',rfl,-⟩:=Sl.of_owns (c:=8) (enc:=gA) hob.stays (by decide) (fun _=>rfl);obtain ⟨i2,i2',rfl,-⟩:=Sl.of_owns (c:=2) (enc:=jA) hob.jobs (by decide) (fun _=>rfl);exact ⟨v,i1,i1',i2,i2',he,hg,hob,hx⟩
theorem turnNext_any (last:Int) (a1:Option Addr) (m1 c1:Nat) (a2:Option Addr) (m2 c2:Nat) (lv:Int) (pb mb:Nat) (l:List Ch.Stay) (js:List Ch.Job) (p:Ch.Plant) (w:World)
  (h:Sl w 8 gA l a1 m1 c1) (h2:Sl w 2 jA js a2 m2 c2) (hp:tA w pb mb p) (hwf:p.WF) (hj:Hid (∀ j∈js,∃ s∈l,s.ticket=j.ticket)) (hpl:Hid (∀ s∈l,Ch.placeFault s.home lv=0)) (l1:1≤lv) (l4:lv≤4) (h4:p.levels≤4) (hm1:m1≤100) (hm2:m2≤100):
  Calls Tryz.prog 65 #[rB last a1 m1 c1 a2 m2 c2,vi lv,.pointer (some ⟨pb,0,none⟩)] w (rF w (Ch.turnOf ⟨last,l,js⟩ lv p).1 (Ch.turnOf ⟨last,l,js⟩ lv p).2):=by
 have b1:=h.bound;have HF:=aA h;have HJ:=aA h2;have HP:=aA hp;have E1:=aA h.len;clear h h2 hp
 obtain ⟨hh,hhh⟩:∃ x,Hid (p.height=x):=⟨_,rfl⟩
 obtain ⟨ee,hee⟩:∃ x,Hid (p.ext=x):=⟨_,rfl⟩
 obtain ⟨dd,hdd⟩:∃ x,Hid (p.door=x):=⟨_,rfl⟩
 obtain ⟨pe,hpe⟩:∃ x,Hid (p.people=x):=⟨_,rfl⟩
 obtain ⟨li,hli⟩:∃ x,Hid (p.lift=x):=⟨_,rfl⟩
 obtain ⟨ba,hba⟩:∃ x,Hid (p.bay=x):=⟨_,rfl⟩
 obtain ⟨f0,hf0⟩:∃ x,Hid (p.full p.ext=x):=⟨_,rfl⟩
 obtain ⟨f1,hf1⟩:∃ x,Hid (p.full (p.ext - 1)=x):=⟨_,rfl⟩
 obtain ⟨f2,hf2⟩:∃ x,Hid (p.full (p.ext+1)=x):=⟨_,rfl⟩
 have HSN:Hid (qI p = .agg #[vi hh,vi ee,.bool dd,vi pe,vi li,vi ba,.bool f0,.bool f1,.bool f2]):=by
  unfold Hid qI;rw [hhh.out,hdd.out,hpe.out,hli.out,hba.out,hf0.out,hf1.out,hf2.out,hee.out]
 obtain ⟨⟨jt,jf,is⟩,HFJ⟩:∃ r,Hid (qB (Ch.firstJob ⟨last,l,js⟩ ba)=r):=⟨_,rfl⟩
 obtain ⟨c,HC⟩:∃ c,Hid (p.slots ⟨lv,1,0⟩=c):=⟨_,rfl⟩
 go_enter Tryz.func65,Tryz.ntmps65
 go_upto_region 1 with fail
 generalize hW:World.alloc _ _=w0;have k0:w0.cell? ⟨w.heap.size,0,none⟩=some (vi last):=cQ hW;have k1:w0.cell? ⟨w.heap.size,1,none⟩=some (.slice a1 m1 c1):=cQ hW;have k2:w0.cell? ⟨w.heap.size,2,none⟩=some (.slice a2 m2 c2):=cQ hW;have rr0:w0.cell? ⟨w.heap.size+1,0,none⟩=some (vi 0):=cQ hW;have rr1:w0.cell? ⟨w.heap.size+1,1,none⟩=some (.slice none 0 0):=cQ hW;have rr2:w0.cell? ⟨w.heap.size+1,2,none⟩=some (.slice none 0 0):=cQ hW
 have fz:∀ i,w0.frozen? ⟨w.heap.size+1,i,none⟩=false:=by intro i;rw [←hW];simp [go_sem]
 have hx:Ext w w0:=xQ hW;have HS:=aA (Sl.below HF.out hx.below);have HK:=aA (Sl.below HJ.out hx.below);have HP1:=aA (HP.out.ext hx);have HX:=aA hx;have FZ:=aA fz;have z1:=dA k0;have z2:=dA rr0;clear hW hx HF HJ HP fz
 go_cut [9] (fun s9 wx=>∃ A:Nat,s9 = .pointer (some ⟨A,0,none⟩)∧Ext w0 wx∧wx.cell? ⟨A,0,none⟩=some (vi last)∧wx.cell? ⟨A,1,none⟩=some (.slice a1 m1 c1)∧wx.cell? ⟨A,2,none⟩=some (.slice a2 m2 c2)∧wx.cell? ⟨A,3,none⟩=some (vi lv)∧wx.cell? ⟨A,4,none⟩=some (.pointer (some ⟨pb,0,none⟩))∧wx.cell? ⟨A,5,none⟩=some (vi hh)∧wx.cell? ⟨A,6,none⟩=some (vi ee)∧wx.cell? ⟨A,7,none⟩=some (.bool dd)∧wx.cell? ⟨A,8,none⟩=some (vi pe)∧wx.cell? ⟨A,9,none⟩=some (vi li)∧wx.cell? ⟨A,10,none⟩=some (vi ba)∧wx.cell? ⟨A,11,none⟩=some (.bool f0)∧wx.cell? ⟨A,12,none⟩=some (.bool f1)∧wx.cell? ⟨A,13,none⟩=some (.bool f2))
 case first=>
  go_region_held3 (fun w'=>w'.cell? ⟨w.heap.size,0,none⟩=some (vi last)∧w'.cell? ⟨w.heap.size,1,none⟩=some (.slice a1 m1 c1)∧w'.cell? ⟨w.heap.size,2,none⟩=some (.slice a2 m2 c2)) (first|((try dsimp only);(repeat' apply And.intro) <;> exact xC (w:=w0))) (first|(go_at_call 22;(with_reducible refine (sense_val _ (HP1.out.ext eX) hwf HSN).mono ?_);rintro e w1 ⟨rfl,o1,n1,rfl⟩))
  ·generalize hW:World.alloc _ _=w2
   generalize hA:w0.heap.size+_=A;have hx2:Ext w0 w2:=xQ hW;have t0:w2.cell? ⟨A,0,none⟩=some (vi last):=cR hW hA;have t1:w2.cell? ⟨A,1,none⟩=some (.slice a1 m1 c1):=cR hW hA;have t2:w2.cell? ⟨A,2,none⟩=some (.slice a2 m2 c2):=cR hW hA;have t3:w2.cell? ⟨A,3,none⟩=some (vi lv):=cR hW hA;have t4:w2.cell? ⟨A,4,none⟩=some (.pointer (some ⟨pb,0,none⟩)):=cR hW hA;have t5:w2.cell? ⟨A,5,none⟩=some (vi hh):=cR hW hA;have t6:w2.cell? ⟨A,6,none⟩=some (vi ee):=cR hW hA;have t7:w2.cell? ⟨A,7,none⟩=some (.bool dd):=cR hW hA;have t8:w2.cell? ⟨A,8,none⟩=some (vi pe):=cR hW hA;have t9:w2.cell? ⟨A,9,none⟩=some (vi li):=cR hW hA;have t10:w2.cell? ⟨A,10,none⟩=some (vi ba):=cR hW hA;have t11:w2.cell? ⟨A,11,none⟩=some (.bool f0):=cR hW hA;have t12:w2.cell? ⟨A,12,none⟩=some (.bool f1):=cR hW hA;have t13:w2.cell? ⟨A,13,none⟩=some (.bool f2):=cR hW hA;clear hW hA;go_wp2_with fail;go_meet;exact ⟨A,rfl,hx2,t0,t1,t2,t3,t4,t5,t6,t7,t8,t9,t10,t11,t12,t13⟩
  ·generalize hW:World.setCell _ _ _=w2
   obtain ⟨t0,t1,t2,t3,t4,t5,t6,t7,t8,t9,t10,t11,t12,t13,hx2⟩:=put14 (w:=w0) hW eX (Nat.le_refl _) (by rw [bB _ _ _ _ (by simp)];exact sA _ _ _ rfl) rfl;clear hW;go_wp2_with fail;go_meet;exact ⟨_,rfl,hx2,t0,t1,t2,t3,t4,t5,t6,t7,t8,t9,t10,t11,t12,t13⟩
 case rest=>
  obtain ⟨A,rfl,hx2,t0,t1,t2,t3,t4,t5,t6,t7,t8,t9,t10,t11,t12,t13⟩:=hcut;have g0:=eA hx2 k0;have g1:=eA hx2 k1;have g2:=eA hx2 k2;have q0:=eA hx2 rr0;have q1:=eA hx2 rr1;have q2:=eA hx2 rr2
  have fz2:∀ i,wc.frozen? ⟨w.heap.size+1,i,none⟩=false:=fun i=>kA hx2 (dA rr0) (FZ.out i)
  have FZ2:=aA fz2;have HX2:=aA (HX.out.trans hx2);have HS2:=aA (Sl.below HS.out hx2.below);have HK2:=aA (Sl.below HK.out hx2.below);have HP2:=aA (HP1.out.ext hx2);have sa1:=dA g0;have sa2:=dA q0;have sa3:=dA t0;clear hx2 fz2 FZ HS HK HP1 HX k0 k1 k2 rr0 rr1 rr2 z1 z2
  by_cases hl:li=0
  ·subst hl
   have HT:Hid (Ch.turnOf ⟨last,l,js⟩ lv p=if c≠0∧spareG ⟨last,l,js⟩ p c jt jf is=false then (Ch.fetch ⟨lv,1,0⟩,none) else if is then Ch.jobOf ⟨last,l,js⟩ p ⟨jt,jf⟩ else if dd then ([],none) else (Ch.welcome,none)):=by
    unfold Hid;rw [←hdd.out];exact turn_is hli.out HC.out (by rw [hba.out];exact HFJ.out)
   have HJM:Hid (is=true→∃ s∈l,s.ticket=jt):=by
    intro hi;have hf:=HFJ.out
    cases hfj:Ch.firstJob ⟨last,l,js⟩ ba with
    | none=>rw [hfj] at hf;simp only [qB,Prod.mk.injEq] at hf;rw [hi] at hf;simp at hf
    | some j=>
     rw [hfj] at hf;simp only [qB,Prod.mk.injEq] at hf;rw [←hf.1];exact hj.out j (Ch.first_mem hfj).1
   go_upto_region 5 with (go_at_call 113;(with_reducible refine (first_any jt jf is _ _ _ _ _ _ _ _ _ _ _ _ _ _ _ _ _ _ l js _ (Sl.below HS2.out (Ext.below eX)) (Sl.below HK2.out (Ext.below eX)) hj HFJ).mono ?_);rintro e w1 ⟨rfl,o1,n1,rfl⟩)
   generalize hW:World.alloc _ _=w3;generalize hA:wc.heap.size+_=A5;have hx3:Ext wc w3:=xQ hW;have j0:w3.cell? ⟨A5,0,none⟩=some (vi jt):=cR hW hA;have j1:w3.cell? ⟨A5,1,none⟩=some (.bool jf):=cR hW hA;have u0:=eA hx3 t0;have u1:=eA hx3 t1;have u2:=eA hx3 t2;have u3:=eA hx3 t3;have u4:=eA hx3 t4;have u5:=eA hx3 t5;have u6:=eA hx3 t6;have u7:=eA hx3 t7;have u8:=eA hx3 t8;have u9:=eA hx3 t9;have u10:=eA hx3 t10;have u11:=eA hx3 t11;have u12:=eA hx3 t12;have u13:=eA hx3 t13;have h0:=eA hx3 g0;have h1:=eA hx3 g1;have h2:=eA hx3 g2;have p0:=eA hx3 q0;have p1:=eA hx3 q1;have p2:=eA hx3 q2
   have fz3:∀ i,w3.frozen? ⟨w.heap.size+1,i,none⟩=false:=fun i=>kA hx3 (dA q0) (FZ2.out i)
   have FQ:=aA fz3;have HX3:=aA (HX2.out.trans hx3);have HS3:=aA (Sl.below HS2.out hx3.below);have HK3:=aA (Sl.below HK2.out hx3.below);have HP3:=aA (HP2.out.ext hx3);have sb1:=dA h0;have sb2:=dA p0;have sb3:=dA u0;have sb4:=dA j0;clear hW hA hx3 fz3 FZ2 HS2 HK2 HP2 HX2 t0 t1 t2 t3 t4 t5 t6 t7 t8 t9 t10 t11 t12 t13 g0 g1 g2 q0 q1 q2 sa1 sa2 sa3
   by_cases hc:c=0
   ·subst hc
    cases is
    ·cases dd
     ·go_wp2_with (first|(go_at_call 114;(with_reducible refine (dC _ _).mono ?_);rintro e w1 ⟨rfl,o1,n1,rfl⟩)|(go_at_call 35;(with_reducible refine (nD (HP3.out.ext eX) _ _ _ 0 HC).mono ?_);rintro e w1 ⟨rfl,o1,n1,rfl⟩)|(go_at_call 118;(with_reducible refine (welcome_any _).mono ?_);rintro e wv ⟨v1,rfl,hown,hxv⟩;have hxz:Ext w3 wv:=Ext.trans eX hxv;have fq0:=kA hxz (dA p0) (FQ.out 0);have fq1:=kA hxz (dA p0) (FQ.out 1);have fq2:=kA hxz (dA p0) (FQ.out 2);have pq0:=eA hxz p0;have pq1:=eA hxz p1;have pq2:=eA hxz p2))
      go_wp2
      have HE:Ch.turnOf ⟨last,l,js⟩ lv p=(Ch.welcome,none):=by
       rw [HT.out,if_neg (by simp),if_neg (by simp),if_neg (by simp)]
      obtain ⟨o0,o1,o2,ox⟩:=lC (w:=w) (x:=vi 0) (y:=.slice none 0 0) (z:=.slice none 0 0) (HX3.out.trans hxz) (show w.heap.size≤w.heap.size+1 by omega) pq0 pq1 pq2;refine bodyPost_ret (v:=.tuple #[v1,.agg #[vi 0,.slice none 0 0,.slice none 0 0],.bool false]) (by simp [results,Tryz.results65,go_sem,o0,o1,o2]) rfl ?_;rw [HE];exact ⟨v1,_,_,rfl,rA (jB hown (by first|omega|(simp;omega))) (by have:=HX3.out.below.size;first|omega|(simp;omega)),pB _ _,ox⟩
     ·go_upto_region 13 with (first|(go_at_call 114;(with_reducible refine (dC _ _).mono ?_);rintro e w1 ⟨rfl,o1,n1,rfl⟩)|(go_at_call 35;(with_reducible refine (nD (HP3.out.ext eX) _ _ _ 0 HC).mono ?_);rintro e w1 ⟨rfl,o1,n1,rfl⟩))
      generalize hW:World.plus _ _ _=w4;have hxz:Ext w3 w4:=xQ hW;have fq0:=kA hxz (dA p0) (FQ.out 0);have fq1:=kA hxz (dA p0) (FQ.out 1);have fq2:=kA hxz (dA p0) (FQ.out 2);have pq0:=eA hxz p0;have pq1:=eA hxz p1;have pq2:=eA hxz p2;clear hW;go_wp2
      have HE:Ch.turnOf ⟨last,l,js⟩ lv p=([],none):=by
       rw [HT.out,if_neg (by simp),if_neg (by simp)];simp only [if_true]
      obtain ⟨o0,o1,o2,ox⟩:=lC (w:=w) (x:=vi 0) (y:=.slice none 0 0) (z:=.slice none 0 0) (HX3.out.trans hxz) (show w.heap.size≤w.heap.size+1 by omega) pq0 pq1 pq2;refine bodyPost_ret (v:=.tuple #[.slice none 0 0,.agg #[vi 0,.slice none 0 0,.slice none 0 0],.bool false]) (by simp [results,Tryz.results65,go_sem,o0,o1,o2]) rfl ?_;rw [HE];exact ⟨_,_,_,rfl,bC _ _ _ _,pB _ _,ox⟩
    ·have HJ1:=aA (HJM.out rfl)
     obtain ⟨⟨jg,jo⟩,HJO⟩:∃ r,Hid (Ch.jobOf ⟨last,l,js⟩ p ⟨jt,jf⟩=r):=⟨_,rfl⟩
     obtain ⟨⟨bl,bs,bj⟩,HBO⟩:∃ x,Hid (jo.getD ⟨0,[],[]⟩=x):=⟨_,rfl⟩
     obtain ⟨oc,HOC⟩:∃ x,Hid (jo.isSome=x):=⟨_,rfl⟩
     go_wp2_with (first|(go_at_call 114;(with_reducible refine (dC _ _).mono ?_);rintro e w1 ⟨rfl,o1,n1,rfl⟩)|(go_at_call 35;(with_reducible refine (nD (HP3.out.ext eX) _ _ _ 0 HC).mono ?_);rintro e w1 ⟨rfl,o1,n1,rfl⟩)|(go_at_call 117;(with_reducible refine (job_val jg jo bl bs bj oc jt jf last a1 m1 c1 a2 m2 c2 lv pb mb hh ee dd pe 0 ba f0 f1 f2 l js p _ (Sl.below HS3.out (Ext.below eX)) (Sl.below HK3.out (Ext.below eX)) (HP3.out.ext eX) hwf HJ1 hba hdd h4 hm1 hm2 HJO HBO HOC).mono ?_);rintro e wv ⟨v1,i1,i1',i2,i2',rfl,hown,hob,hxv⟩;have hxz:Ext w3 wv:=Ext.trans eX hxv;have fq0:=kA hxz (dA p0) (FQ.out 0);have fq1:=kA hxz (dA p0) (FQ.out 1);have fq2:=kA hxz (dA p0) (FQ.out 2);have pq0:=eA hxz p0;have pq1:=eA hxz p1;have pq2:=eA hxz p2));go_wp2;obtain ⟨o0,o1,o2,ox⟩:=lC (w:=w) (x:=vi bl) (y:=.slice i1 bs.length i1') (z:=.slice i2 bj.length i2') (HX3.out.trans hxz) (show w.heap.size≤w.heap.size+1 by omega) pq0 pq1 pq2;refine bodyPost_ret (v:=.tuple #[v1,.agg #[vi bl,.slice i1 bs.length i1',.slice i2 bj.length i2'],.bool oc]) (by simp [results,Tryz.results65,go_sem,o0,o1,o2]) rfl ?_
     have HE:Ch.turnOf ⟨last,l,js⟩ lv p=(jg,jo):=by
      rw [HT.out,if_neg (by simp)];simp only [if_true];exact HJO.out
     rw [HE];refine ⟨v1,.slice i1 bs.length i1',.slice i2 bj.length i2',?_,rA (jB hown (by first|omega|(simp;omega))) (by have:=HX3.out.below.size;first|omega|(simp;omega)),?_,ox⟩
     ·rw [HBO.out,HOC.out]
     ·rw [HBO.out]
      exact (hob.put3 (by first|omega|(simp;omega))).weak (by have:=HX3.out.below.size;first|omega|(simp;omega))
   ·rcases of_where (b:=⟨last,l,js⟩) (id:=c) with ⟨ho,hi⟩|⟨si,⟨xt,⟨xi,⟨x1,x2,x3⟩⟩,⟨u1',u2',u3'⟩⟩,hi,hsl,ho⟩
    ·have HI:Hid (Ch.indexOf (fun s:Ch.Stay=>s.car.id==c) l=-1):=hi
     have HO:=aA ho;clear hi ho;cases is
     ·go_upto_region 8 with (first|(go_at_call 114;(with_reducible refine (dC _ _).mono ?_);rintro e w1 ⟨rfl,o1,n1,rfl⟩)|(go_at_call 35;(with_reducible refine (nD (HP3.out.ext eX) _ _ _ c HC).mono ?_);rintro e w1 ⟨rfl,o1,n1,rfl⟩)|(go_at_call 94;(with_reducible refine (dJ (-1) _ _ _ _ _ _ _ _ l _ (Sl.below HS3.out (Ext.below eX)) HI).mono ?_);rintro e w1 ⟨rfl,o1,n1,rfl⟩))
      (refine fA kR kR ?_;(repeat (first|go_big_quiet_step (fail)|quiet_step (fail)));refine wpQuiet_nil ?_;rintro _ ⟨oq,nq,rfl⟩)
      go_wp2_with (first|(go_at_call 114;(with_reducible refine (dC _ _).mono ?_);rintro e w1 ⟨rfl,o1,n1,rfl⟩)|(go_at_call 116;(with_reducible refine (aI _ _ _ _ (by decide) (by decide) l1 l4).mono ?_);rintro e wv ⟨v1,rfl,hown,hxv⟩;have hxz:Ext w3 wv:=Ext.trans eX hxv;have fq0:=kA hxz (dA p0) (FQ.out 0);have fq1:=kA hxz (dA p0) (FQ.out 1);have fq2:=kA hxz (dA p0) (FQ.out 2);have pq0:=eA hxz p0;have pq1:=eA hxz p1;have pq2:=eA hxz p2));go_wp2
      have HE:Ch.turnOf ⟨last,l,js⟩ lv p=(Ch.fetch ⟨lv,1,0⟩,none):=by
       rw [HT.out,if_pos];exact ⟨hc,by unfold spareG;rfl⟩
      obtain ⟨o0,o1,o2,ox⟩:=lC (w:=w) (x:=vi 0) (y:=.slice none 0 0) (z:=.slice none 0 0) (HX3.out.trans hxz) (show w.heap.size≤w.heap.size+1 by omega) pq0 pq1 pq2;refine bodyPost_ret (v:=.tuple #[v1,.agg #[vi 0,.slice none 0 0,.slice none 0 0],.bool false]) (by simp [results,Tryz.results65,go_sem,o0,o1,o2]) rfl ?_;rw [HE];exact ⟨v1,_,_,rfl,rA (jB hown (by first|omega|(simp;omega))) (by have:=HX3.out.below.size;first|omega|(simp;omega)),pB _ _,ox⟩
     ·go_upto_region 8 with (first|(go_at_call 114;(with_reducible refine (dC _ _).mono ?_);rintro e w1 ⟨rfl,o1,n1,rfl⟩)|(go_at_call 35;(with_reducible refine (nD (HP3.out.ext eX) _ _ _ c HC).mono ?_);rintro e w1 ⟨rfl,o1,n1,rfl⟩)|(go_at_call 94;(with_reducible refine (dJ (-1) _ _ _ _ _ _ _ _ l _ (Sl.below HS3.out (Ext.below eX)) HI).mono ?_);rintro e w1 ⟨rfl,o1,n1,rfl⟩))
      (refine fA kR kR ?_;(repeat (first|go_big_quiet_step (fail)|quiet_step (fail)));refine wpQuiet_nil ?_;rintro _ ⟨oq,nq,rfl⟩)
      go_wp2_with (first|(go_at_call 114;(with_reducible refine (dC _ _).mono ?_);rintro e w1 ⟨rfl,o1,n1,rfl⟩)|(go_at_call 116;(with_reducible refine (aI _ _ _ _ (by decide) (by decide) l1 l4).mono ?_);rintro e wv ⟨v1,rfl,hown,hxv⟩;have hxz:Ext w3 wv:=Ext.trans eX hxv;have fq0:=kA hxz (dA p0) (FQ.out 0);have fq1:=kA hxz (dA p0) (FQ.out 1);have fq2:=kA hxz (dA p0) (FQ.out 2);have pq0:=eA hxz p0;have pq1:=eA hxz p1;have pq2:=eA hxz p2));go_wp2
      have HE:Ch.turnOf ⟨last,l,js⟩ lv p=(Ch.fetch ⟨lv,1,0⟩,none):=by
       rw [HT.out,if_pos];exact ⟨hc,by unfold spareG;rw [HO.out];rfl⟩
      obtain ⟨o0,o1,o2,ox⟩:=lC (w:=w) (x:=vi 0) (y:=.slice none 0 0) (z:=.slice none 0 0) (HX3.out.trans hxz) (show w.heap.size≤w.heap.size+1 by omega) pq0 pq1 pq2;refine bodyPost_ret (v:=.tuple #[v1,.agg #[vi 0,.slice none 0 0,.slice none 0 0],.bool false]) (by simp [results,Tryz.results65,go_sem,o0,o1,o2]) rfl ?_;rw [HE];exact ⟨v1,_,_,rfl,rA (jB hown (by first|omega|(simp;omega))) (by have:=HX3.out.below.size;first|omega|(simp;omega)),pB _ _,ox⟩
    ·have HI:Hid (Ch.indexOf (fun s:Ch.Stay=>s.car.id==c) l=(si:Int)):=hi
     have HO:=aA ho
     have hsm:si<m1:=by
      have:=E1.out;obtain ⟨h1,_⟩:=List.getElem?_eq_some_iff.1 hsl;dsimp only at h1;omega
     obtain ⟨b',q',s',rfl,hs',ds⟩:=HS3.out.get hsm;rw [show l[si]? = _ from hsl] at hs';cases hs';have ds:=at8 ds;have hq2:=dA ds.1;have e0:=ds.1;have e1:=ds.2.1;have e2:=ds.2.2.1;have e3:=ds.2.2.2.1;have e4:=ds.2.2.2.2.1;have e5:=ds.2.2.2.2.2.1;have e6:=ds.2.2.2.2.2.2.1;have e7:=ds.2.2.2.2.2.2.2
     have hs0:(0:Int)≤(si:Int):=by omega
     have hs1:(si:Int)<(m1:Int):=by omega
     have hs2:(si:Int)≤(c1:Int):=by omega
     have hsn:¬ ((si:Int)<0):=by omega
     clear hi ho hsl ds;cases is
     ·go_upto_region 8 with (first|(go_at_call 114;(with_reducible refine (dC _ _).mono ?_);rintro e w1 ⟨rfl,o1,n1,rfl⟩)|(go_at_call 35;(with_reducible refine (nD (HP3.out.ext eX) _ _ _ c HC).mono ?_);rintro e w1 ⟨rfl,o1,n1,rfl⟩)|(go_at_call 94;(with_reducible refine (dJ (si:Int) _ _ _ _ _ _ _ _ l _ (Sl.below HS3.out (Ext.below eX)) HI).mono ?_);rintro e w1 ⟨rfl,o1,n1,rfl⟩))
      (refine fA kR kR ?_;(repeat (first|go_big_quiet_step (fail)|quiet_step (fail)));refine wpQuiet_nil ?_;rintro _ ⟨oq,nq,rfl⟩)
      go_wp2_with (first|(go_at_call 114;(with_reducible refine (dC _ _).mono ?_);rintro e w1 ⟨rfl,o1,n1,rfl⟩)|(go_at_call 116;(with_reducible refine (aI _ _ _ _ (by decide) (by decide) l1 l4).mono ?_);rintro e wv ⟨v1,rfl,hown,hxv⟩;have hxz:Ext w3 wv:=Ext.trans eX hxv;have fq0:=kA hxz (dA p0) (FQ.out 0);have fq1:=kA hxz (dA p0) (FQ.out 1);have fq2:=kA hxz (dA p0) (FQ.out 2);have pq0:=eA hxz p0;have pq1:=eA hxz p1;have pq2:=eA hxz p2));go_wp2
      have HE:Ch.turnOf ⟨last,l,js⟩ lv p=(Ch.fetch ⟨lv,1,0⟩,none):=by
       rw [HT.out,if_pos];exact ⟨hc,by unfold spareG;rfl⟩
      obtain ⟨o0,o1,o2,ox⟩:=lC (w:=w) (x:=vi 0) (y:=.slice none 0 0) (z:=.slice none 0 0) (HX3.out.trans hxz) (show w.heap.size≤w.heap.size+1 by omega) pq0 pq1 pq2;refine bodyPost_ret (v:=.tuple #[v1,.agg #[vi 0,.slice none 0 0,.slice none 0 0],.bool false]) (by simp [results,Tryz.results65,go_sem,o0,o1,o2]) rfl ?_;rw [HE];exact ⟨v1,_,_,rfl,rA (jB hown (by first|omega|(simp;omega))) (by have:=HX3.out.below.size;first|omega|(simp;omega)),pB _ _,ox⟩
     ·have HJ1:=aA (HJM.out rfl)
      obtain ⟨V,HB⟩:∃ V,Hid (Ch.blocks ⟨last,l,js⟩ p ⟨xt,⟨xi,⟨x1,x2,x3⟩⟩,⟨u1',u2',u3'⟩⟩ ⟨jt,jf⟩=V):=⟨_,rfl⟩
      cases V
      ·go_upto_region 8 with (first|(go_at_call 114;(with_reducible refine (dC _ _).mono ?_);rintro e w1 ⟨rfl,o1,n1,rfl⟩)|(go_at_call 35;(with_reducible refine (nD (HP3.out.ext eX) _ _ _ c HC).mono ?_);rintro e w1 ⟨rfl,o1,n1,rfl⟩)|(go_at_call 94;(with_reducible refine (dJ (si:Int) _ _ _ _ _ _ _ _ l _ (Sl.below HS3.out (Ext.below eX)) HI).mono ?_);rintro e w1 ⟨rfl,o1,n1,rfl⟩))
       (refine fA kR kR ?_;(repeat (first|go_big_quiet_step ((intro _;go_at_call 115;exact qC (fC false xt xi x1 x2 x3 u1' u2' u3' jt jf _ _ _ _ _ _ _ _ pb mb _ _ _ _ _ _ _ _ _ l js p _ (Sl.below HS3.out (Ext.below eX)) (HP3.out.ext eX) HJ1 HB)))|quiet_step ((intro _;go_at_call 115;exact qC (fC false xt xi x1 x2 x3 u1' u2' u3' jt jf _ _ _ _ _ _ _ _ pb mb _ _ _ _ _ _ _ _ _ l js p _ (Sl.below HS3.out (Ext.below eX)) (HP3.out.ext eX) HJ1 HB)))));refine wpQuiet_nil ?_;rintro _ ⟨oq,nq,rfl⟩)
       go_wp2_with (first|(go_at_call 114;(with_reducible refine (dC _ _).mono ?_);rintro e w1 ⟨rfl,o1,n1,rfl⟩)|(go_at_call 116;(with_reducible refine (aI _ _ _ _ (by decide) (by decide) l1 l4).mono ?_);rintro e wv ⟨v1,rfl,hown,hxv⟩;have hxz:Ext w3 wv:=Ext.trans eX hxv;have fq0:=kA hxz (dA p0) (FQ.out 0);have fq1:=kA hxz (dA p0) (FQ.out 1);have fq2:=kA hxz (dA p0) (FQ.out 2);have pq0:=eA hxz p0;have pq1:=eA hxz p1;have pq2:=eA hxz p2));go_wp2
       have HE:Ch.turnOf ⟨last,l,js⟩ lv p=(Ch.fetch ⟨lv,1,0⟩,none):=by
        rw [HT.out,if_pos];exact ⟨hc,by unfold spareG;rw [HO.out];dsimp only;rw [HB.out];rfl⟩
       obtain ⟨o0,o1,o2,ox⟩:=lC (w:=w) (x:=vi 0) (y:=.slice none 0 0) (z:=.slice none 0 0) (HX3.out.trans hxz) (show w.heap.size≤w.heap.size+1 by omega) pq0 pq1 pq2;refine bodyPost_ret (v:=.tuple #[v1,.agg #[vi 0,.slice none 0 0,.slice none 0 0],.bool false]) (by simp [results,Tryz.results65,go_sem,o0,o1,o2]) rfl ?_;rw [HE];exact ⟨v1,_,_,rfl,rA (jB hown (by first|omega|(simp;omega))) (by have:=HX3.out.below.size;first|omega|(simp;omega)),pB _ _,ox⟩
      ·go_upto_region 8 with (first|(go_at_call 114;(with_reducible refine (dC _ _).mono ?_);rintro e w1 ⟨rfl,o1,n1,rfl⟩)|(go_at_call 35;(with_reducible refine (nD (HP3.out.ext eX) _ _ _ c HC).mono ?_);rintro e w1 ⟨rfl,o1,n1,rfl⟩)|(go_at_call 94;(with_reducible refine (dJ (si:Int) _ _ _ _ _ _ _ _ l _ (Sl.below HS3.out (Ext.below eX)) HI).mono ?_);rintro e w1 ⟨rfl,o1,n1,rfl⟩))
       (refine fA kR kR ?_;(repeat (first|go_big_quiet_step ((intro _;go_at_call 115;exact qC (fC true xt xi x1 x2 x3 u1' u2' u3' jt jf _ _ _ _ _ _ _ _ pb mb _ _ _ _ _ _ _ _ _ l js p _ (Sl.below HS3.out (Ext.below eX)) (HP3.out.ext eX) HJ1 HB)))|quiet_step ((intro _;go_at_call 115;exact qC (fC true xt xi x1 x2 x3 u1' u2' u3' jt jf _ _ _ _ _ _ _ _ pb mb _ _ _ _ _ _ _ _ _ l js p _ (Sl.below HS3.out (Ext.below eX)) (HP3.out.ext eX) HJ1 HB)))));refine wpQuiet_nil ?_;rintro _ ⟨oq,nq,rfl⟩)
       obtain ⟨⟨jg,jo⟩,HJO⟩:∃ r,Hid (Ch.jobOf ⟨last,l,js⟩ p ⟨jt,jf⟩=r):=⟨_,rfl⟩
       obtain ⟨⟨bl,bs,bj⟩,HBO⟩:∃ x,Hid (jo.getD ⟨0,[],[]⟩=x):=⟨_,rfl⟩
       obtain ⟨oc,HOC⟩:∃ x,Hid (jo.isSome=x):=⟨_,rfl⟩
       go_wp2_with (first|fail|(go_at_call 117;(with_reducible refine (job_val jg jo bl bs bj oc jt jf last _ m1 c1 a2 m2 c2 lv pb mb hh ee dd pe 0 ba f0 f1 f2 l js p _ (Sl.below HS3.out (Ext.below eX)) (Sl.below HK3.out (Ext.below eX)) (HP3.out.ext eX) hwf HJ1 hba hdd h4 hm1 hm2 HJO HBO HOC).mono ?_);rintro e wv ⟨v1,i1,i1',i2,i2',rfl,hown,hob,hxv⟩;have hxz:Ext w3 wv:=Ext.trans eX hxv;have fq0:=kA hxz (dA p0) (FQ.out 0);have fq1:=kA hxz (dA p0) (FQ.out 1);have fq2:=kA hxz (dA p0) (FQ.out 2);have pq0:=eA hxz p0;have pq1:=eA hxz p1;have pq2:=eA hxz p2));go_wp2;obtain ⟨o0,o1,o2,ox⟩:=lC (w:=w) (x:=vi bl) (y:=.slice i1 bs.length i1') (z:=.slice i2 bj.length i2') (HX3.out.trans hxz) (show w.heap.size≤w.heap.size+1 by omega) pq0 pq1 pq2;refine bodyPost_ret (v:=.tuple #[v1,.agg #[vi bl,.slice i1 bs.length i1',.slice i2 bj.length i2'],.bool oc]) (by simp [results,Tryz.results65,go_sem,o0,o1,o2]) rfl ?_
       have HE:Ch.turnOf ⟨last,l,js⟩ lv p=(jg,jo):=by
        rw [HT.out,if_neg (by unfold spareG;rw [HO.out];dsimp only;rw [HB.out];simp)];simp only [if_true];exact HJO.out
       rw [HE];refine ⟨v1,.slice i1 bs.length i1',.slice i2 bj.length i2',?_,rA (jB hown (by first|omega|(simp;omega))) (by have:=HX3.out.below.size;first|omega|(simp;omega)),?_,ox⟩
       ·rw [HBO.out,HOC.out]
       ·rw [HBO.out]
        exact (hob.put3 (by first|omega|(simp;omega))).weak (by have:=HX3.out.below.size;first|omega|(simp;omega))
  ·have FQ:=FZ2
   go_wp2_with (go_at_call 112;(with_reducible refine (loaded_any last a1 m1 c1 a2 m2 c2 lv pb mb hh ee dd pe li ba f0 f1 f2 l js p _ (Sl.below HS2.out (Ext.below eX)) (Sl.below HK2.out (Ext.below eX)) (HP2.out.ext eX) hj hpl hli hba l1 l4).mono ?_);rintro e wv ⟨v1,rfl,hown,hxv⟩;have hxz:Ext wc wv:=Ext.trans eX hxv;have fq0:=kA hxz (dA q0) (FQ.out 0);have fq1:=kA hxz (dA q0) (FQ.out 1);have fq2:=kA hxz (dA q0) (FQ.out 2);have pq0:=eA hxz q0;have pq1:=eA hxz q1;have pq2:=eA hxz q2);go_wp2;have HE:Ch.turnOf ⟨last,l,js⟩ lv p=(Ch.loaded ⟨last,l,js⟩ lv p,none):=turn_lift (by rw [hli.out];exact hl);obtain ⟨o0,o1,o2,ox⟩:=lC (w:=w) (x:=vi 0) (y:=.slice none 0 0) (z:=.slice none 0 0) (HX2.out.trans hxz) (show w.heap.size≤w.heap.size+1 by omega) pq0 pq1 pq2;refine bodyPost_ret (v:=.tuple #[v1,.agg #[vi 0,.slice none 0 0,.slice none 0 0],.bool false]) (by simp [results,Tryz.results65,go_sem,o0,o1,o2]) rfl ?_;rw [HE];exact ⟨v1,_,_,rfl,rA (jB hown (by first|omega|(simp;omega))) (by have:=HX2.out.below.size;first|omega|(simp;omega)),pB _ _,ox⟩
