import Derived.Test.YtplomeacjbkgnabGreatDoorZ33
set_option linter.all false
set_option maxRecDepth 100000
set_option maxHeartbeats 16000000
namespace Go.Proofs.YtplomeacjbkgnabGreatDoor
open Go.RowKit Tryz Ch
theorem rnext_jfC {w:World} {hb rb:Nat} {la:Option Addr} {ln lc:Nat} {last:Int} {a1:Option Addr} {m1 c1:Nat} {a2:Option Addr} {m2 c2:Nat} {gv:Value} {l:List sA} {js:List Job} {p:dA} (hh:eL w hb rb (.slice la ln lc) last a1 m1 c1 a2 m2 c2 gv l js p)
  (hwf:p.WF) (hj:Hid (∀ j∈js,∃ s∈l,s.ticket=j.ticket)) (h0:Hid (∀ s∈l,s.ticket≠0)) (hpl:Hid (∀ s∈l,uA s.home (ln:Int)=0)) (l1:1<=ln) (l4:ln<=4) (hlc:ln<=lc) (hlm:lc<=maxLen) (hm1:m1<=100) (hm2:m2<=100)
  (jt li ba:Int) (jf is dd:Bool) (hba:Hid (p.bay=ba)) (hli:Hid (p.lift=li)) (hdd:Hid (p.door=dd)) (HFJ:Hid (pC (sB ⟨last,l,js⟩ ba)=(jt,jf,is))) (hl:li=0) (c:Int) (HC:Hid (p.slots ⟨(ln:Int),1,0⟩=c)) (hgo:Hid (c=0\/∃ xt xi x1 x2 x3 u1 u2 u3,(⟨last,l,js⟩:gB).of c=some ⟨xt,⟨xi,⟨x1,x2,x3⟩⟩,⟨u1,u2,u3⟩⟩/\bE ⟨last,l,js⟩ p ⟨xt,⟨xi,⟨x1,x2,x3⟩⟩,⟨u1,u2,u3⟩⟩ ⟨jt,jf⟩=true)) (hi:is=true) (hjf:jf=true) (hno:Hid (¬ (p.bay=((⟨last,l,js⟩:gB).stay jt).car.id\/p.has ((⟨last,l,js⟩:gB).stay jt).car.id=false))) (hb0:ba=0) (hd:dd=false):
  Calls prog 68 #[.pointer (some ⟨hb,0,none⟩)] w (xI w (xA ⟨last,l,js⟩ (ln:Int) p).1 (xA ⟨last,l,js⟩ (ln:Int) p).2):=by
 subst hl;subst hi;subst hjf;subst hb0;subst hd;have b1:=hh.st.bound;have b2:=hh.jb.bound;have HH:=aA hh;have hlt0:=cA hh.cells.1;unfold maxLen at hlm;have e0':=hh.cells.1;have e1':=hh.cells.2.1
 have L1:(1:Int)<=(ln:Int):=om
 have L4:(ln:Int)<=4:=om
 clear hh;go_enter func68,ntmps68
 go_upto_region 2 with fail
 generalize hW:World.alloc _ _=w0;have hx0:Ext w w0:=xQ hW;have r0:cI w0 w.heap.size 0 0:=cQ hW;have r1:cV w0 w.heap.size 1 (.slice none 0 0):=cQ hW;have r2:cV w0 w.heap.size 2 (.slice none 0 0):=cQ hW
 have fz:∀ i,w0.frozen? ⟨w.heap.size,i,none⟩=false:=by intro i;rw [<-hW];simp [go_sem]
 have FZ:=aA fz;have k0:=gA hx0 e0';have k1:=gA hx0 e1';have HX0:=aA hx0;clear hW hx0 fz e0' e1' hlt0
 go_upto_region 3 with (go_at_call 124;with_reducible refine mo (wF _ _) fun o1 n1=>?_)
 generalize hW:World.alloc _ _=w1;generalize hA:w0.heap.size+_=SP;have hx1:Ext w0 w1:=xQ hW;have s0:cI w1 SP 0 (ln:Int):=cR hW hA;have s1:cI w1 SP 1 1:=cR hW hA;have s2:cI w1 SP 2 0:=cR hW hA;have HX1:=aA (HX0.out.trans hx1);obtain ⟨m0,m1',v0,v1,v2⟩:=xe5 hx1 k0 k1 r0 r1 r2
 have fz1:∀ i,w1.frozen? ⟨w.heap.size,i,none⟩=false:=fun i=>kA hx1 (cA r0) (FZ.out i)
 have FZ1:=aA fz1;clear hW hA hx1 k0 k1 r0 r1 r2 FZ fz1 HX0
 go_upto_region 4 with (go_at_call 125;with_reducible refine mo (iE jt true true (HH.out.ext (HX1.out.trans eX)) hj h0 0 hba HFJ) fun o1 n1=>?_)
 generalize hW:World.alloc _ _=w2;generalize hA:w1.heap.size+_=JB;have hx2:Ext w1 w2:=xQ hW;have j0:cI w2 JB 0 jt:=cR hW hA;have j1:cV w2 JB 1 (.bool true):=cR hW hA;have HX2:=aA (HX1.out.trans hx2);obtain ⟨t0,t1,t2,q0,q1,q2⟩:=xe6 hx2 s0 s1 s2 v0 v1 v2
 have fz2:∀ i,w2.frozen? ⟨w.heap.size,i,none⟩=false:=fun i=>kA hx2 (cA v0) (FZ1.out i)
 have FZ2:=aA fz2;have H2:=aA (HH.out.ext HX2.out);have g1:=H2.out.cells.2.1;have g2:=H2.out.cells.2.2.1;have g3:=H2.out.cells.2.2.2.1;have g4:=H2.out.cells.2.2.2.2.1;have pd:=H2.out.pl.cells.2.2.2.1;have pl:=H2.out.pl.cells.2.2.2.2.2.1;have pb:=H2.out.pl.cells.2.2.2.2.2.2.1;rw [hdd.out] at pd;rw [hli.out] at pl;rw [hba.out] at pb;have z1:=cA q0;have z2:=cA t0;have z3:=cA j0;have z4:=cA g1;have z5:=cA pl;have hRw:w.heap.size<=w.heap.size:=Nat.le_refl _;clear hW hA hx2 m0 m1' v0 v1 v2 s0 s1 s2 FZ1 fz2 HX1 HH;have HJX:Hid (∃ s∈l,s.ticket=jt):=gJ hj HFJ.out rfl
 have HJ1:Hid (jt≠0):=by unfold Hid;obtain ⟨s,hs,e⟩:=HJX.out;rw [<-e];exact h0.out s hs
 go_upto_region 17 with fail
 have hxs:Ext w2 w2:=Ext.refl _;obtain ⟨q0,q1,q2,t0,t1,t2,j0,j1,g1,pd,pl,pb⟩:=iF hxs q0 q1 q2 t0 t1 t2 j0 j1 g1 pd pl pb;obtain ⟨g2,g3,g4⟩:=xe3 hxs g2 g3 g4
 have FQ:Hid (∀ i,w2.frozen? ⟨w.heap.size,i,none⟩=false):=fun i=>kA hxs z1 (FZ2.out i)
 have HXB:=aA (HX2.out.trans hxs);have HB:=aA (H2.out.ext hxs);clear hxs z1 z2 z3 z4 z5 FZ2 HX2 H2;have z1:=cA q0;have z2:=cA t0;have z3:=cA j0;have z4:=cA g1;have z5:=cA pl
 go_upto_if 112 with (go_at_call 74;with_reducible refine mo (cD (HB.out.pl.ext eX) hwf _ _ _ c HC) fun o1 n1=>?_)
 generalize hWq:World.plus _ _ _=wq;have hxq:Ext w2 wq:=xQ hWq;clear hWq;obtain ⟨q0,q1,q2,t0,t1,t2,j0,j1,g1,pd,pl,pb⟩:=iF hxq q0 q1 q2 t0 t1 t2 j0 j1 g1 pd pl pb;obtain ⟨g2,g3,g4⟩:=xe3 hxq g2 g3 g4
 replace FQ:Hid (∀ i,wq.frozen? ⟨w.heap.size,i,none⟩=false):=fun i=>kA hxq z1 (FQ.out i)
 replace HXB:=aA (HXB.out.trans hxq);replace HB:=aA (HB.out.ext hxq);clear hxq z1 z2 z3 z4 z5;have z1:=cA q0;have z2:=cA t0;have z3:=cA j0;have z4:=cA g1;have z5:=cA pl
 go_cut [] (fun wx=>Ext wq wx)
 case first=>
  rcases hgo.out with hc0|⟨xt,xi,x1,x2,x3,u1,u2,u3,ho,hbv⟩
  ·subst hc0
   go_wp2_with fail;go_meet;exact Ext.refl _
  ·have HO:=aA ho
   have HBV:=aA hbv;clear ho hbv
   by_cases hc:c=0
   ·subst hc
    go_wp2_with fail;go_meet;exact Ext.refl _
   ·go_upto_region 18 with fail
    go_region_held3 (fun w'=>w'.cell? ⟨hb,2,none⟩=some (vi last)/\w'.cell? ⟨hb,3,none⟩=some (.slice a1 m1 c1)/\w'.cell? ⟨hb,4,none⟩=some (.slice a2 m2 c2)/\w'.cell? ⟨SP,0,none⟩=some (vi (ln:Int))/\w'.cell? ⟨SP,1,none⟩=some (vi 1)/\w'.cell? ⟨SP,2,none⟩=some (vi 0)) (first|((try dsimp only);(repeat' apply And.intro) <;> exact xC (w:=wq))) (first|(go_at_call 74;with_reducible refine mo (cD (HB.out.pl.ext eX) hwf _ _ _ c HC) fun o1 n1=>?_)|(go_at_call 100;with_reducible refine mo (fF xt xi x1 x2 x3 u1 u2 u3 _ _ _ _ _ _ _ _ l js _ (Sl.below HB.out.st (Ext.below eX)) h0 HO) fun o1 n1=>?_))
    ·generalize hW:World.alloc _ _=w5
     generalize hA:wq.heap.size+_=A5;have hx5:Ext wq w5:=xQ hW;have xx0:cI w5 A5 0 xt:=cR hW hA;have xx1:cI w5 A5 1 xi:=cR hW hA;have xx2:cI w5 A5 2 x1:=cR hW hA;have xx3:cI w5 A5 3 x2:=cR hW hA;have xx4:cI w5 A5 4 x3:=cR hW hA;have xx5:cI w5 A5 5 u1:=cR hW hA;have xx6:cI w5 A5 6 u2:=cR hW hA;have xx7:cI w5 A5 7 u3:=cR hW hA;clear hW hA;have y0:=gA hx5 j0;have y1:=gA hx5 j1;have yl:=cA y0;have xl:=cA xx0;go_wp2_with (go_at_call 128;with_reducible refine mo (tD true xt xi x1 x2 x3 u1 u2 u3 jt true (HB.out.ext (hx5.trans eX)) hwf HJX HJ1 HBV) fun o1 n1=>?_);go_meet;exact hx5.trans eX
    ·generalize hW:World.setCell _ _ _=w5
     obtain ⟨xx0,xx1,xx2,xx3,xx4,xx5,xx6,xx7,hx5⟩:=rJ (w:=wq) hW eX (by first|exact Nat.le_refl _|(simp;done)|(simp;omega)) (by rw [dB _ _ _ _ sp];exact pA _ _ _ (by first|rfl|simp)) rfl;clear hW;have y0:=gA hx5 j0;have y1:=gA hx5 j1;have yl:=cA y0;have xl:=cA xx0;go_wp2_with (go_at_call 128;with_reducible refine mo (tD true xt xi x1 x2 x3 u1 u2 u3 jt true (HB.out.ext (hx5.trans eX)) hwf HJX HJ1 HBV) fun o1 n1=>?_);go_meet;exact hx5.trans eX
    ·generalize hW:World.setCell _ _ _=w5
     obtain ⟨xx0,xx1,xx2,xx3,xx4,xx5,xx6,xx7,hx5⟩:=rJ (w:=wq) hW eX (by first|exact Nat.le_refl _|(simp;done)|(simp;omega)) (by rw [dB _ _ _ _ sp];exact pA _ _ _ (by first|rfl|simp)) rfl;clear hW;have y0:=gA hx5 j0;have y1:=gA hx5 j1;have yl:=cA y0;have xl:=cA xx0;go_wp2_with (go_at_call 128;with_reducible refine mo (tD true xt xi x1 x2 x3 u1 u2 u3 jt true (HB.out.ext (hx5.trans eX)) hwf HJX HJ1 HBV) fun o1 n1=>?_);go_meet;exact hx5.trans eX
 case rest=>
  obtain ⟨q0,q1,q2,t0,t1,t2,j0,j1,g1,pd,pl,pb⟩:=iF hcut q0 q1 q2 t0 t1 t2 j0 j1 g1 pd pl pb;obtain ⟨g2,g3,g4⟩:=xe3 hcut g2 g3 g4
  replace FQ:Hid (∀ i,wc.frozen? ⟨w.heap.size,i,none⟩=false):=fun i=>kA hcut z1 (FQ.out i)
  replace HXB:=aA (HXB.out.trans hcut);replace HB:=aA (HB.out.ext hcut);clear hcut z1 z2 z3 z4 z5;have z1:=cA q0;have z2:=cA t0;have z3:=cA j0;have z4:=cA g1;have z5:=cA pl
  obtain ⟨⟨xt,⟨xi,⟨x1,x2,x3⟩⟩,⟨u1,u2,u3⟩⟩,HST⟩:∃ x,Hid ((⟨last,l,js⟩:gB).stay jt=x):=⟨_,rfl⟩
  obtain ⟨hv,HHV⟩:∃ x,Hid (p.has xi=x):=⟨_,rfl⟩
  obtain ⟨sv,HSV⟩:∃ x,Hid (p.slots ⟨u1,u2,u3⟩=x):=⟨_,rfl⟩
  have HT:Hid (xA ⟨last,l,js⟩ (ln:Int) p=gE ⟨last,l,js⟩ p ⟨jt,true⟩):=rturn_job hli.out hba.out HC.out HFJ.out hgo.out
  go_upto_region 28 with fail
  go_cut [16,17] (fun s16 s17 wx=>∃ A5:Nat,s16 = .pointer (some ⟨A5,0,none⟩)/\s17 = .bool true/\Ext wc wx  /\cI wx A5 0 xt/\cI wx A5 1 xi/\cI wx A5 2 x1/\cI wx A5 3 x2/\cI wx A5 4 x3/\cI wx A5 5 u1/\cI wx A5 6 u2/\cI wx A5 7 u3)
  case first=>
   go_region_held3 (fun w'=>w'.cell? ⟨hb,2,none⟩=some (vi last)/\w'.cell? ⟨hb,3,none⟩=some (.slice a1 m1 c1)/\w'.cell? ⟨hb,4,none⟩=some (.slice a2 m2 c2)/\w'.cell? ⟨JB,0,none⟩=some (vi jt)) (first|((try dsimp only);(repeat' apply And.intro) <;> exact xC (w:=wc))) (first|(go_at_call 100;with_reducible refine mo (aN xt xi x1 x2 x3 u1 u2 u3 _ _ _ _ _ _ _ _ l js _ (Sl.below HB.out.st (Ext.below eX)) HJ1 HJX HST) fun o1 n1=>?_))
   ·generalize hW:World.alloc _ _=w5
    generalize hA:wc.heap.size+_=A5;have hx5:Ext wc w5:=xQ hW;have xx0:cI w5 A5 0 xt:=cR hW hA;have xx1:cI w5 A5 1 xi:=cR hW hA;have xx2:cI w5 A5 2 x1:=cR hW hA;have xx3:cI w5 A5 3 x2:=cR hW hA;have xx4:cI w5 A5 4 x3:=cR hW hA;have xx5:cI w5 A5 5 u1:=cR hW hA;have xx6:cI w5 A5 6 u2:=cR hW hA;have xx7:cI w5 A5 7 u3:=cR hW hA;clear hW hA;go_wp2_with fail;go_meet;exact ⟨A5,rfl,rfl,hx5,xx0,xx1,xx2,xx3,xx4,xx5,xx6,xx7⟩
   ·generalize hW:World.setCell _ _ _=w5
    obtain ⟨xx0,xx1,xx2,xx3,xx4,xx5,xx6,xx7,hx5⟩:=rJ (w:=wc) hW eX (by first|exact Nat.le_refl _|(simp;done)|(simp;omega)) (by rw [dB _ _ _ _ sp];exact pA _ _ _ (by first|rfl|simp)) rfl;clear hW;go_wp2_with fail;go_meet;exact ⟨_,rfl,rfl,hx5,xx0,xx1,xx2,xx3,xx4,xx5,xx6,xx7⟩
  case rest=>
   obtain ⟨A5,rfl,rfl,hx5,c0',c1',c2',c3',c4',c5',c6',c7'⟩:=hcut;obtain ⟨q0,q1,q2,t0,t1,t2,j0,j1,g1,pd,pl,pb⟩:=iF hx5 q0 q1 q2 t0 t1 t2 j0 j1 g1 pd pl pb;obtain ⟨g2,g3,g4⟩:=xe3 hx5 g2 g3 g4
   replace FQ:Hid (∀ i,wc.frozen? ⟨w.heap.size,i,none⟩=false):=fun i=>kA hx5 z1 (FQ.out i)
   replace HXB:=aA (HXB.out.trans hx5);replace HB:=aA (HB.out.ext hx5);clear hx5 z1 z2 z3 z4 z5;have z1:=cA q0;have z2:=cA t0;have z3:=cA j0;have z4:=cA g1;have z5:=cA pl;have z6:=cA c0'
   go_upto_region 31 with (go_at_call 111;with_reducible refine mo (rhas_at hv (HB.out.pl.ext eX) hwf _ HHV) fun o1 n1=>?_)
   generalize hWq:World.plus _ _ _=we;have hxq:Ext wc we:=xQ hWq;clear hWq;obtain ⟨c0',c1',c2',c3',c4',c5',c6',c7',q0,q1,q2,t0⟩:=iF hxq c0' c1' c2' c3' c4' c5' c6' c7' q0 q1 q2 t0;obtain ⟨t1,t2,j0,j1,g1,pd,pl,pb,g2,g3,g4⟩:=xe11 hxq t1 t2 j0 j1 g1 pd pl pb g2 g3 g4
   replace FQ:Hid (∀ i,we.frozen? ⟨w.heap.size,i,none⟩=false):=fun i=>kA hxq z1 (FQ.out i)
   replace HXB:=aA (HXB.out.trans hxq);replace HB:=aA (HB.out.ext hxq);clear hxq z1 z2 z3 z4 z5;have z1:=cA q0;have z2:=cA t0;have z3:=cA j0;have z4:=cA g1;have z5:=cA pl;have z6:=cA c0';have ho:=hno.out;rw [HST.out] at ho;dsimp only at ho;rw [hba.out,HHV.out] at ho
   have h1:¬ 0=xi:=fun e=>ho (Or.inl e)
   have hv1:hv=true:=by
    cases hv
    ·exact absurd (Or.inr rfl) ho
    ·rfl
   clear ho;subst hv1
   have HN1:Hid (¬ p.bay=xi):=by unfold Hid;rw [hba.out];exact h1
   have HB0:Hid (p.bay=0):=hba
   cases hw:p.where_ xi with
   | none=>
    have HWV:Hid (qI (p.where_ xi) = .tuple #[.agg #[vi 0,vi 0,vi 0],.bool false]):=by unfold Hid;rw [hw];rfl
    have HW0:=aA hw;clear hw
    go_upto_region 48 with (go_at_call 132;with_reducible refine mo (rwhere_lit 0 0 0 false (HB.out.pl.ext eX) hwf _ HWV) fun o1 n1=>?_)
    generalize hW:World.alloc _ _=w7;have hx7:Ext we w7:=xQ hW;clear hW;obtain ⟨c0',c1',c2',c3',c4',c5',c6',c7',q0,q1,q2,t0⟩:=iF hx7 c0' c1' c2' c3' c4' c5' c6' c7' q0 q1 q2 t0;obtain ⟨t1,t2,j0,j1,g1,pd,pl,pb,g2,g3,g4⟩:=xe11 hx7 t1 t2 j0 j1 g1 pd pl pb g2 g3 g4
    replace FQ:Hid (∀ i,w7.frozen? ⟨w.heap.size,i,none⟩=false):=fun i=>kA hx7 z1 (FQ.out i)
    replace HXB:=aA (HXB.out.trans hx7);replace HB:=aA (HB.out.ext hx7);clear hx7 z1 z2 z3 z4 z5;have z1:=cA q0;have z2:=cA t0;have z3:=cA j0;have z4:=cA g1;have z5:=cA pl;have z6:=cA c0';have fq0:=FQ.out 0;have fq1:=FQ.out 1;have fq2:=FQ.out 2
    go_upto_region 49 with fail
    repeat (first|(go_big_may;fail)|go_values|go_skip|go_guarded|go_step|go_upon|simp only [])
    have HE:xA ⟨last,l,js⟩ (ln:Int) p=([],none):=by rw [HT.out,rf4 HST.out HN1.out HHV.out HB0.out hdd.out HW0.out]
    obtain ⟨o0,o1,o2,ox⟩:=dE (w:=w) (x:=vi 0) (y:=.slice none 0 0) (z:=.slice none 0 0) HXB.out (Nat.le_refl _) q0 q1 q2;refine bodyPost_ret (v:=.tuple #[.slice none 0 0,.agg #[vi 0,.slice none 0 0,.slice none 0 0],.bool false]) (by simp [results,results68,go_sem,o0,o1,o2]) rfl ?_;rw [HE];exact ⟨_,_,_,rfl,fD _ _ _ _,mC _ _,ox⟩
   | some y=>
    obtain ⟨qa,qb,qc⟩:=y;have hwo:=where_ok hw;obtain ⟨up1,up2,-,-,up5,up6⟩:=fK hwo hwf.lv2;clear hwo
    obtain ⟨fv,HFV⟩:∃ v,Hid (p.slots ⟨qa,qb,0⟩=v):=⟨_,rfl⟩
    by_cases h3:qc=1
    ·subst h3
     have HWV:Hid (qI (p.where_ xi) = .tuple #[.agg #[vi qa,vi qb,vi 1],.bool true]):=by unfold Hid;rw [hw];rfl
     have HW0:=aA hw;clear hw
     go_upto_region 48 with (go_at_call 132;with_reducible refine mo (rwhere_lit qa qb 1 true (HB.out.pl.ext eX) hwf _ HWV) fun o1 n1=>?_)
     generalize hW:World.alloc _ _=w7;generalize hA:we.heap.size+_=A7;have hx7:Ext we w7:=xQ hW;have ka0:cI w7 A7 0 qa:=cR hW hA;have ka1:cI w7 A7 1 qb:=cR hW hA;have ka2:cI w7 A7 2 1:=cR hW hA
     have afz:∀ i,w7.frozen? ⟨A7,i,none⟩=false:=by intro i;rw [<-hW,<-hA];simp [go_sem]
     have hA7:we.heap.size<=A7:=om
     clear hW hA
     go_upto_region 51 with fail
     generalize hW:World.alloc _ _=w8;generalize hF:w7.heap.size=F;have hx8:Ext w7 w8:=xQ hW;have ff0:cI w8 F 0 qa:=cR hW hF;have ff1:cI w8 F 1 qb:=cR hW hF;have ff2:cI w8 F 2 1:=cR hW hF
     have fff:w8.frozen? ⟨F,2,none⟩=false:=by rw [<-hW,<-hF];simp [go_sem]
     have hFl:w7.heap.size<=F:=om
     have zF:=cA ff0;clear hW hF
     go_upto_region 52 with fail
     generalize hW:World.setCell _ _ _=w9
     have n20:(⟨F,2,none⟩:Addr)≠⟨F,0,none⟩:=by intro e;cases e
     have n21:(⟨F,2,none⟩:Addr)≠⟨F,1,none⟩:=by intro e;cases e
     have gf0:w9.cell? ⟨F,0,none⟩=some (vi qa):=by rw [<-hW,World.cell?_setCell_other (h:=n20)];exact ff0
     have gf1:w9.cell? ⟨F,1,none⟩=some (vi qb):=by rw [<-hW,World.cell?_setCell_other (h:=n21)];exact ff1
     have gf2:w9.cell? ⟨F,2,none⟩=some (vi 0):=by rw [<-hW,World.cell?_setCell_same (h:=ff2)]
     have hx79:Ext w7 w9:=by rw [<-hW];exact Ext.setCell hx8 hFl _
     have afz9:∀ i,w9.frozen? ⟨A7,i,none⟩=false:=fun i=>kA hx79 (cA ka0) (afz i)
     obtain ⟨ka0,ka1,ka2⟩:=xe3 hx79 ka0 ka1 ka2;have hx9:Ext we w9:=hx7.trans hx79;have zA:=cA ka0;replace zF:=cA gf0;have af0:=afz9 0;have af1:=afz9 1;have af2:=afz9 2;clear hW ff0 ff1 ff2 fff hx8 n20 n21 hx7 hx79 afz afz9 hFl
     by_cases h4:fv=0
     ·subst h4
      go_upto_region 54 with (go_at_call 74;with_reducible refine mo (cD (HB.out.pl.ext (hx9.trans eX)) hwf _ _ _ 0 HFV) fun o1 n1=>?_)
      repeat (first|(go_big_may;(go_at_call 127;(with_reducible refine (iG _ _ _ _ _ dc dc up1 up2).mono ?_);rintro e wv ⟨v1,rfl,hown,hxv⟩;have hxz:Ext we wv:=hx9.trans (Ext.trans eX hxv);have fq0:=kA hxz (cA q0) (FQ.out 0);have fq1:=kA hxz (cA q0) (FQ.out 1);have fq2:=kA hxz (cA q0) (FQ.out 2);obtain ⟨pq0,pq1,pq2⟩:=xe3 hxz q0 q1 q2))|go_values|go_skip|go_guarded|go_step|go_upon|simp only [])
      have HE:xA ⟨last,l,js⟩ (ln:Int) p=(lD ⟨qa,qb,1⟩ 3,none):=by rw [HT.out,rf6 HST.out HN1.out HHV.out HB0.out hdd.out HW0.out (fun e=>e.2 HFV.out)]
      obtain ⟨o0,o1,o2,ox⟩:=dE (w:=w) (x:=vi 0) (y:=.slice none 0 0) (z:=.slice none 0 0) (HXB.out.trans hxz) (Nat.le_refl _) pq0 pq1 pq2;refine bodyPost_ret (v:=.tuple #[v1,.agg #[vi 0,.slice none 0 0,.slice none 0 0],.bool false]) (by simp [results,results68,go_sem,o0,o1,o2]) rfl ?_;rw [HE];exact ⟨v1,_,_,rfl,mA (dC hown (by have:=cA q0;first|omega|(simp;omega))) (by have:=HXB.out.below.size;first|omega|(simp;omega)),mC _ _,ox⟩
     ·have HN4:Hid (¬ p.slots ⟨qa,qb,0⟩=0):=by unfold Hid;rw [HFV.out];exact h4
      go_upto_region 53 with (go_at_call 74;with_reducible refine mo (cD (HB.out.pl.ext (hx9.trans eX)) hwf _ _ _ fv HFV) fun o1 n1=>?_)
      generalize hWp:World.plus _ _ _=wp;have hxp:Ext w9 wp:=xQ hWp;clear hWp;obtain ⟨ka0,ka1,ka2,gf0,gf1,gf2⟩:=xe6 hxp ka0 ka1 ka2 gf0 gf1 gf2;replace af0:=kA hxp zA af0;replace af1:=kA hxp zA af1;replace af2:=kA hxp zA af2;replace zA:=cA ka0;replace zF:=cA gf0;have hx11:=hx9.trans hxp;clear hxp
      go_upto_region 54 with fail
      generalize hW:World.setCell _ _ _=w10
      obtain ⟨b0,b1,b2,hx10⟩:w10.cell? ⟨A7,0,none⟩=some (vi qa)/\w10.cell? ⟨A7,1,none⟩=some (vi qb)/\w10.cell? ⟨A7,2,none⟩=some (vi 0)/\Ext we w10:=by
       rw [<-hW];exact dE hx11 hA7 ka0 ka1 ka2
      have zB:=cA b0;clear hW ka0 ka1 ka2 af0 af1 af2 hx11
      repeat (first|(go_big_may;(go_at_call 127;(with_reducible refine (iG _ _ _ _ _ dc dc up1 up2).mono ?_);rintro e wv ⟨v1,rfl,hown,hxv⟩;have hxz:Ext we wv:=hx10.trans (Ext.trans eX hxv);have fq0:=kA hxz (cA q0) (FQ.out 0);have fq1:=kA hxz (cA q0) (FQ.out 1);have fq2:=kA hxz (cA q0) (FQ.out 2);obtain ⟨pq0,pq1,pq2⟩:=xe3 hxz q0 q1 q2))|go_values|go_skip|go_guarded|go_step|go_upon|simp only [])
      have HE:xA ⟨last,l,js⟩ (ln:Int) p=(lD ⟨qa,qb,0⟩ 3,none):=by rw [HT.out,rf5 HST.out HN1.out HHV.out HB0.out hdd.out HW0.out HN4.out]
      obtain ⟨o0,o1,o2,ox⟩:=dE (w:=w) (x:=vi 0) (y:=.slice none 0 0) (z:=.slice none 0 0) (HXB.out.trans hxz) (Nat.le_refl _) pq0 pq1 pq2;refine bodyPost_ret (v:=.tuple #[v1,.agg #[vi 0,.slice none 0 0,.slice none 0 0],.bool false]) (by simp [results,results68,go_sem,o0,o1,o2]) rfl ?_;rw [HE];exact ⟨v1,_,_,rfl,mA (dC hown (by have:=cA q0;first|omega|(simp;omega))) (by have:=HXB.out.below.size;first|omega|(simp;omega)),mC _ _,ox⟩
    ·have HWV:Hid (qI (p.where_ xi) = .tuple #[.agg #[vi qa,vi qb,vi qc],.bool true]):=by unfold Hid;rw [hw];rfl
     have HW0:=aA hw;clear hw
     go_upto_region 48 with (go_at_call 132;with_reducible refine mo (rwhere_lit qa qb qc true (HB.out.pl.ext eX) hwf _ HWV) fun o1 n1=>?_)
     generalize hW:World.alloc _ _=w7;generalize hA:we.heap.size+_=A7;have hx7:Ext we w7:=xQ hW;have ka0:cI w7 A7 0 qa:=cR hW hA;have ka1:cI w7 A7 1 qb:=cR hW hA;have ka2:cI w7 A7 2 qc:=cR hW hA
     have afz:∀ i,w7.frozen? ⟨A7,i,none⟩=false:=by intro i;rw [<-hW,<-hA];simp [go_sem]
     have hA7:we.heap.size<=A7:=om
     clear hW hA
     go_upto_region 51 with fail
     generalize hW:World.alloc _ _=w8;generalize hF:w7.heap.size=F;have hx8:Ext w7 w8:=xQ hW;have ff0:cI w8 F 0 qa:=cR hW hF;have ff1:cI w8 F 1 qb:=cR hW hF;have ff2:cI w8 F 2 qc:=cR hW hF
     have fff:w8.frozen? ⟨F,2,none⟩=false:=by rw [<-hW,<-hF];simp [go_sem]
     have hFl:w7.heap.size<=F:=om
     have zF:=cA ff0;clear hW hF
     go_upto_region 52 with fail
     generalize hW:World.setCell _ _ _=w9
     have n20:(⟨F,2,none⟩:Addr)≠⟨F,0,none⟩:=by intro e;cases e
     have n21:(⟨F,2,none⟩:Addr)≠⟨F,1,none⟩:=by intro e;cases e
     have gf0:w9.cell? ⟨F,0,none⟩=some (vi qa):=by rw [<-hW,World.cell?_setCell_other (h:=n20)];exact ff0
     have gf1:w9.cell? ⟨F,1,none⟩=some (vi qb):=by rw [<-hW,World.cell?_setCell_other (h:=n21)];exact ff1
     have gf2:w9.cell? ⟨F,2,none⟩=some (vi 0):=by rw [<-hW,World.cell?_setCell_same (h:=ff2)]
     have hx79:Ext w7 w9:=by rw [<-hW];exact Ext.setCell hx8 hFl _
     have afz9:∀ i,w9.frozen? ⟨A7,i,none⟩=false:=fun i=>kA hx79 (cA ka0) (afz i)
     obtain ⟨ka0,ka1,ka2⟩:=xe3 hx79 ka0 ka1 ka2;have hx9:Ext we w9:=hx7.trans hx79;have zA:=cA ka0;replace zF:=cA gf0;have af0:=afz9 0;have af1:=afz9 1;have af2:=afz9 2;clear hW ff0 ff1 ff2 fff hx8 n20 n21 hx7 hx79 afz afz9 hFl
     go_upto_region 54 with fail
     repeat (first|(go_big_may;(go_at_call 127;(with_reducible refine (iG _ _ _ _ _ up5 up6 up1 up2).mono ?_);rintro e wv ⟨v1,rfl,hown,hxv⟩;have hxz:Ext we wv:=hx9.trans (Ext.trans eX hxv);have fq0:=kA hxz (cA q0) (FQ.out 0);have fq1:=kA hxz (cA q0) (FQ.out 1);have fq2:=kA hxz (cA q0) (FQ.out 2);obtain ⟨pq0,pq1,pq2⟩:=xe3 hxz q0 q1 q2))|go_values|go_skip|go_guarded|go_step|go_upon|simp only [])
     have HE:xA ⟨last,l,js⟩ (ln:Int) p=(lD ⟨qa,qb,qc⟩ 3,none):=by rw [HT.out,rf6 HST.out HN1.out HHV.out HB0.out hdd.out HW0.out (fun e=>h3 e.1)]
     obtain ⟨o0,o1,o2,ox⟩:=dE (w:=w) (x:=vi 0) (y:=.slice none 0 0) (z:=.slice none 0 0) (HXB.out.trans hxz) (Nat.le_refl _) pq0 pq1 pq2;refine bodyPost_ret (v:=.tuple #[v1,.agg #[vi 0,.slice none 0 0,.slice none 0 0],.bool false]) (by simp [results,results68,go_sem,o0,o1,o2]) rfl ?_;rw [HE];exact ⟨v1,_,_,rfl,mA (dC hown (by have:=cA q0;first|omega|(simp;omega))) (by have:=HXB.out.below.size;first|omega|(simp;omega)),mC _ _,ox⟩
