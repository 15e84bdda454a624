import Derived.Test.YtplomeacjbkgnabGreatDoorZ43
set_option linter.all false
set_option maxRecDepth 100000
set_option maxHeartbeats 16000000
namespace Go.Proofs.YtplomeacjbkgnabGreatDoor
open Go.RowKit
theorem rnext_jfC {w:World} {hb rb:Nat} {la:Option Addr} {ln lc:Nat} {last:Int} {a1:Option Addr} {m1 c1:Nat} {a2:Option Addr} {m2 c2:Nat} {gv:Value} {l:List Ch.Stay} {js:List Ch.Job} {p:Ch.Plant} (hh:cH w hb rb (.slice la ln lc) last a1 m1 c1 a2 m2 c2 gv l js p)
  (hwf:p.WF) (hj:Hid (∀ j∈js,∃ s∈l,s.ticket=j.ticket)) (h0:Hid (∀ s∈l,s.ticket≠0)) (hpl:Hid (∀ s∈l,Ch.placeFault s.home (ln:Int)=0)) (l1:1≤ln) (l4:ln≤4) (hlc:ln≤lc) (hlm:lc≤maxLen) (hm1:m1≤100) (hm2:m2≤100)
  (jt li ba:Int) (jf is dd:Bool) (hba:Hid (p.bay=ba)) (hli:Hid (p.lift=li)) (hdd:Hid (p.door=dd)) (HFJ:Hid (qB (Ch.firstJob ⟨last,l,js⟩ ba)=(jt,jf,is))) (hl:li=0) (c:Int) (HC:Hid (p.slots ⟨(ln:Int),1,0⟩=c)) (hgo:Hid (c=0∨∃ xt xi x1 x2 x3 u1 u2 u3,(⟨last,l,js⟩:Ch.Book).of c=some ⟨xt,⟨xi,⟨x1,x2,x3⟩⟩,⟨u1,u2,u3⟩⟩∧Ch.blocks ⟨last,l,js⟩ p ⟨xt,⟨xi,⟨x1,x2,x3⟩⟩,⟨u1,u2,u3⟩⟩ ⟨jt,jf⟩=true)) (hi:is=true) (hjf:jf=true) (hno:Hid (¬ (p.bay=((⟨last,l,js⟩:Ch.Book).stay jt).car.id∨p.has ((⟨last,l,js⟩:Ch.Book).stay jt).car.id=false))) (hb0:ba=0) (hd:dd=false):
  Calls Tryz.prog 68 #[.pointer (some ⟨hb,0,none⟩)] w (rF w (Ch.turnOf ⟨last,l,js⟩ (ln:Int) p).1 (Ch.turnOf ⟨last,l,js⟩ (ln:Int) p).2):=by
 subst hl;subst hi;subst hjf;subst hb0;subst hd;have b1:=hh.st.bound;have b2:=hh.jb.bound;have HH:=aA hh;have hlt0:=dA hh.cells.1;unfold maxLen at hlm;have e0':=hh.cells.1;have e1':=hh.cells.2.1
 have L1:(1:Int)≤(ln:Int):=by omega
 have L4:(ln:Int)≤4:=by omega
 clear hh;go_enter Tryz.func68,Tryz.ntmps68
 go_upto_region 2 with fail
 generalize hW:World.alloc _ _=w0;have hx0:Ext w w0:=xQ hW;have r0:w0.cell? ⟨w.heap.size,0,none⟩=some (vi 0):=cQ hW;have r1:w0.cell? ⟨w.heap.size,1,none⟩=some (.slice none 0 0):=cQ hW;have r2:w0.cell? ⟨w.heap.size,2,none⟩=some (.slice none 0 0):=cQ hW
 have fz:∀ i,w0.frozen? ⟨w.heap.size,i,none⟩=false:=by intro i;rw [←hW];simp [go_sem]
 have FZ:=aA fz;have k0:=eA hx0 e0';have k1:=eA hx0 e1';have HX0:=aA hx0;clear hW hx0 fz e0' e1' hlt0
 go_upto_region 3 with (go_at_call 124;(with_reducible refine (lD _ _).mono ?_);rintro e w1 ⟨rfl,o1,n1,rfl⟩)
 generalize hW:World.alloc _ _=w1;generalize hA:w0.heap.size+_=SP;have hx1:Ext w0 w1:=xQ hW;have s0:w1.cell? ⟨SP,0,none⟩=some (vi (ln:Int)):=cR hW hA;have s1:w1.cell? ⟨SP,1,none⟩=some (vi 1):=cR hW hA;have s2:w1.cell? ⟨SP,2,none⟩=some (vi 0):=cR hW hA;have HX1:=aA (HX0.out.trans hx1);have m0:=eA hx1 k0;have m1':=eA hx1 k1;have v0:=eA hx1 r0;have v1:=eA hx1 r1;have v2:=eA hx1 r2
 have fz1:∀ i,w1.frozen? ⟨w.heap.size,i,none⟩=false:=fun i=>kA hx1 (dA r0) (FZ.out i)
 have FZ1:=aA fz1;clear hW hA hx1 k0 k1 r0 r1 r2 FZ fz1 HX0
 go_upto_region 4 with (go_at_call 125;(with_reducible refine (mC jt true true (HH.out.ext (HX1.out.trans eX)) hj h0 0 hba HFJ).mono ?_);rintro e w1 ⟨rfl,o1,n1,rfl⟩)
 generalize hW:World.alloc _ _=w2;generalize hA:w1.heap.size+_=JB;have hx2:Ext w1 w2:=xQ hW;have j0:w2.cell? ⟨JB,0,none⟩=some (vi jt):=cR hW hA;have j1:w2.cell? ⟨JB,1,none⟩=some (.bool true):=cR hW hA;have HX2:=aA (HX1.out.trans hx2);have t0:=eA hx2 s0;have t1:=eA hx2 s1;have t2:=eA hx2 s2;have q0:=eA hx2 v0;have q1:=eA hx2 v1;have q2:=eA hx2 v2
 have fz2:∀ i,w2.frozen? ⟨w.heap.size,i,none⟩=false:=fun i=>kA hx2 (dA v0) (FZ1.out i)
 have FZ2:=aA fz2;have H2:=aA (HH.out.ext HX2.out);have g1:=H2.out.cells.2.1;have g2:=H2.out.cells.2.2.1;have g3:=H2.out.cells.2.2.2.1;have g4:=H2.out.cells.2.2.2.2.1;have pd:=H2.out.pl.cells.2.2.2.1;have pl:=H2.out.pl.cells.2.2.2.2.2.1;have pb:=H2.out.pl.cells.2.2.2.2.2.2.1;rw [hdd.out] at pd;rw [hli.out] at pl;rw [hba.out] at pb;have z1:=dA q0;have z2:=dA t0;have z3:=dA j0;have z4:=dA g1;have z5:=dA pl;have hRw:w.heap.size≤w.heap.size:=Nat.le_refl _;clear hW hA hx2 m0 m1' v0 v1 v2 s0 s1 s2 FZ1 fz2 HX1 HH;have HJX:Hid (∃ s∈l,s.ticket=jt):=vF hj HFJ.out rfl
 have HJ1:Hid (jt≠0):=by unfold Hid;obtain ⟨s,hs,e⟩:=HJX.out;rw [←e];exact h0.out s hs
 go_upto_region 17 with fail
 have hxs:Ext w2 w2:=Ext.refl _;replace q0:=eA hxs q0;replace q1:=eA hxs q1;replace q2:=eA hxs q2;replace t0:=eA hxs t0;replace t1:=eA hxs t1;replace t2:=eA hxs t2;replace j0:=eA hxs j0;replace j1:=eA hxs j1;replace g1:=eA hxs g1;replace pd:=eA hxs pd;replace pl:=eA hxs pl;replace pb:=eA hxs pb;replace g2:=eA hxs g2;replace g3:=eA hxs g3;replace g4:=eA hxs g4
 have FQ:Hid (∀ i,w2.frozen? ⟨w.heap.size,i,none⟩=false):=fun i=>kA hxs z1 (FZ2.out i)
 have HXB:=aA (HX2.out.trans hxs);have HB:=aA (H2.out.ext hxs);clear hxs z1 z2 z3 z4 z5 FZ2 HX2 H2;have z1:=dA q0;have z2:=dA t0;have z3:=dA j0;have z4:=dA g1;have z5:=dA pl
 go_upto_if 112 with (go_at_call 74;(with_reducible refine (jC (HB.out.pl.ext eX) hwf _ _ _ c HC).mono ?_);rintro e w1 ⟨rfl,o1,n1,rfl⟩)
 generalize hWq:World.plus _ _ _=wq;have hxq:Ext w2 wq:=xQ hWq;clear hWq;replace q0:=eA hxq q0;replace q1:=eA hxq q1;replace q2:=eA hxq q2;replace t0:=eA hxq t0;replace t1:=eA hxq t1;replace t2:=eA hxq t2;replace j0:=eA hxq j0;replace j1:=eA hxq j1;replace g1:=eA hxq g1;replace pd:=eA hxq pd;replace pl:=eA hxq pl;replace pb:=eA hxq pb;replace g2:=eA hxq g2;replace g3:=eA hxq g3;replace g4:=eA hxq g4
 replace FQ:Hid (∀ i,wq.frozen? ⟨w.heap.size,i,none⟩=false):=fun i=>kA hxq z1 (FQ.out i)
 replace HXB:=aA (HXB.out.trans hxq);replace HB:=aA (HB.out.ext hxq);clear hxq z1 z2 z3 z4 z5;have z1:=dA q0;have z2:=dA t0;have z3:=dA j0;have z4:=dA g1;have z5:=dA pl
 go_cut [] (fun wx=>Ext wq wx)
 case first=>
  rcases hgo.out with hc0|⟨xt,xi,x1,x2,x3,u1,u2,u3,ho,hbv⟩
  ·subst hc0
   go_wp2_with fail;go_meet;exact Ext.refl _
  ·have HO:=aA ho
   have HBV:=aA hbv;clear ho hbv
   by_cases hc:c=0
   ·subst hc
    go_wp2_with fail;go_meet;exact Ext.refl _
   ·go_upto_region 18 with fail
    go_region_held3 (fun w'=>w'.cell? ⟨hb,2,none⟩=some (vi last)∧w'.cell? ⟨hb,3,none⟩=some (.slice a1 m1 c1)∧w'.cell? ⟨hb,4,none⟩=some (.slice a2 m2 c2)∧w'.cell? ⟨SP,0,none⟩=some (vi (ln:Int))∧w'.cell? ⟨SP,1,none⟩=some (vi 1)∧w'.cell? ⟨SP,2,none⟩=some (vi 0)) (first|((try dsimp only);(repeat' apply And.intro) <;> exact xC (w:=wq))) (first|(go_at_call 74;(with_reducible refine (jC (HB.out.pl.ext eX) hwf _ _ _ c HC).mono ?_);rintro e w1 ⟨rfl,o1,n1,rfl⟩)|(go_at_call 100;(with_reducible refine (bD xt xi x1 x2 x3 u1 u2 u3 _ _ _ _ _ _ _ _ l js _ (Sl.below HB.out.st (Ext.below eX)) h0 HO).mono ?_);rintro e w1 ⟨rfl,o1,n1,rfl⟩))
    ·generalize hW:World.alloc _ _=w5
     generalize hA:wq.heap.size+_=A5;have hx5:Ext wq w5:=xQ hW;have xx0:w5.cell? ⟨A5,0,none⟩=some (vi xt):=cR hW hA;have xx1:w5.cell? ⟨A5,1,none⟩=some (vi xi):=cR hW hA;have xx2:w5.cell? ⟨A5,2,none⟩=some (vi x1):=cR hW hA;have xx3:w5.cell? ⟨A5,3,none⟩=some (vi x2):=cR hW hA;have xx4:w5.cell? ⟨A5,4,none⟩=some (vi x3):=cR hW hA;have xx5:w5.cell? ⟨A5,5,none⟩=some (vi u1):=cR hW hA;have xx6:w5.cell? ⟨A5,6,none⟩=some (vi u2):=cR hW hA;have xx7:w5.cell? ⟨A5,7,none⟩=some (vi u3):=cR hW hA;clear hW hA;have y0:=eA hx5 j0;have y1:=eA hx5 j1;have yl:=dA y0;have xl:=dA xx0;go_wp2_with (go_at_call 128;(with_reducible refine (iC true xt xi x1 x2 x3 u1 u2 u3 jt true (HB.out.ext (hx5.trans eX)) hwf HJX HJ1 HBV).mono ?_);rintro e w1 ⟨rfl,o1,n1,rfl⟩);go_meet;exact hx5.trans eX
    ·generalize hW:World.setCell _ _ _=w5
     obtain ⟨xx0,xx1,xx2,xx3,xx4,xx5,xx6,xx7,hx5⟩:=cG (w:=wq) hW eX (by first|exact Nat.le_refl _|(simp;done)|(simp;omega)) (by rw [bB _ _ _ _ (by simp)];exact sA _ _ _ (by first|rfl|simp)) rfl;clear hW;have y0:=eA hx5 j0;have y1:=eA hx5 j1;have yl:=dA y0;have xl:=dA xx0;go_wp2_with (go_at_call 128;(with_reducible refine (iC true xt xi x1 x2 x3 u1 u2 u3 jt true (HB.out.ext (hx5.trans eX)) hwf HJX HJ1 HBV).mono ?_);rintro e w1 ⟨rfl,o1,n1,rfl⟩);go_meet;exact hx5.trans eX
    ·generalize hW:World.setCell _ _ _=w5
     obtain ⟨xx0,xx1,xx2,xx3,xx4,xx5,xx6,xx7,hx5⟩:=cG (w:=wq) hW eX (by first|exact Nat.le_refl _|(simp;done)|(simp;omega)) (by rw [bB _ _ _ _ (by simp)];exact sA _ _ _ (by first|rfl|simp)) rfl;clear hW;have y0:=eA hx5 j0;have y1:=eA hx5 j1;have yl:=dA y0;have xl:=dA xx0;go_wp2_with (go_at_call 128;(with_reducible refine (iC true xt xi x1 x2 x3 u1 u2 u3 jt true (HB.out.ext (hx5.trans eX)) hwf HJX HJ1 HBV).mono ?_);rintro e w1 ⟨rfl,o1,n1,rfl⟩);go_meet;exact hx5.trans eX
 case rest=>
  replace q0:=eA hcut q0;replace q1:=eA hcut q1;replace q2:=eA hcut q2;replace t0:=eA hcut t0;replace t1:=eA hcut t1;replace t2:=eA hcut t2;replace j0:=eA hcut j0;replace j1:=eA hcut j1;replace g1:=eA hcut g1;replace pd:=eA hcut pd;replace pl:=eA hcut pl;replace pb:=eA hcut pb;replace g2:=eA hcut g2;replace g3:=eA hcut g3;replace g4:=eA hcut g4
  replace FQ:Hid (∀ i,wc.frozen? ⟨w.heap.size,i,none⟩=false):=fun i=>kA hcut z1 (FQ.out i)
  replace HXB:=aA (HXB.out.trans hcut);replace HB:=aA (HB.out.ext hcut);clear hcut z1 z2 z3 z4 z5;have z1:=dA q0;have z2:=dA t0;have z3:=dA j0;have z4:=dA g1;have z5:=dA pl
  obtain ⟨⟨xt,⟨xi,⟨x1,x2,x3⟩⟩,⟨u1,u2,u3⟩⟩,HST⟩:∃ x,Hid ((⟨last,l,js⟩:Ch.Book).stay jt=x):=⟨_,rfl⟩
  obtain ⟨hv,HHV⟩:∃ x,Hid (p.has xi=x):=⟨_,rfl⟩
  obtain ⟨sv,HSV⟩:∃ x,Hid (p.slots ⟨u1,u2,u3⟩=x):=⟨_,rfl⟩
  have HT:Hid (Ch.turnOf ⟨last,l,js⟩ (ln:Int) p=Ch.jobOf ⟨last,l,js⟩ p ⟨jt,true⟩):=rturn_job hli.out hba.out HC.out HFJ.out hgo.out
  go_upto_region 28 with fail
  go_cut [16,17] (fun s16 s17 wx=>∃ A5:Nat,s16 = .pointer (some ⟨A5,0,none⟩)∧s17 = .bool true∧Ext wc wx  ∧ wx.cell? ⟨A5,0,none⟩=some (vi xt)∧wx.cell? ⟨A5,1,none⟩=some (vi xi)∧wx.cell? ⟨A5,2,none⟩=some (vi x1)∧wx.cell? ⟨A5,3,none⟩=some (vi x2)∧wx.cell? ⟨A5,4,none⟩=some (vi x3)∧wx.cell? ⟨A5,5,none⟩=some (vi u1)∧wx.cell? ⟨A5,6,none⟩=some (vi u2)∧wx.cell? ⟨A5,7,none⟩=some (vi u3))
  case first=>
   go_region_held3 (fun w'=>w'.cell? ⟨hb,2,none⟩=some (vi last)∧w'.cell? ⟨hb,3,none⟩=some (.slice a1 m1 c1)∧w'.cell? ⟨hb,4,none⟩=some (.slice a2 m2 c2)∧w'.cell? ⟨JB,0,none⟩=some (vi jt)) (first|((try dsimp only);(repeat' apply And.intro) <;> exact xC (w:=wc))) (first|(go_at_call 100;(with_reducible refine (gI xt xi x1 x2 x3 u1 u2 u3 _ _ _ _ _ _ _ _ l js _ (Sl.below HB.out.st (Ext.below eX)) HJ1 HJX HST).mono ?_);rintro e w1 ⟨rfl,o1,n1,rfl⟩))
   ·generalize hW:World.alloc _ _=w5
    generalize hA:wc.heap.size+_=A5;have hx5:Ext wc w5:=xQ hW;have xx0:w5.cell? ⟨A5,0,none⟩=some (vi xt):=cR hW hA;have xx1:w5.cell? ⟨A5,1,none⟩=some (vi xi):=cR hW hA;have xx2:w5.cell? ⟨A5,2,none⟩=some (vi x1):=cR hW hA;have xx3:w5.cell? ⟨A5,3,none⟩=some (vi x2):=cR hW hA;have xx4:w5.cell? ⟨A5,4,none⟩=some (vi x3):=cR hW hA;have xx5:w5.cell? ⟨A5,5,none⟩=some (vi u1):=cR hW hA;have xx6:w5.cell? ⟨A5,6,none⟩=some (vi u2):=cR hW hA;have xx7:w5.cell? ⟨A5,7,none⟩=some (vi u3):=cR hW hA;clear hW hA;go_wp2_with fail;go_meet;exact ⟨A5,rfl,rfl,hx5,xx0,xx1,xx2,xx3,xx4,xx5,xx6,xx7⟩
   ·generalize hW:World.setCell _ _ _=w5
    obtain ⟨xx0,xx1,xx2,xx3,xx4,xx5,xx6,xx7,hx5⟩:=cG (w:=wc) hW eX (by first|exact Nat.le_refl _|(simp;done)|(simp;omega)) (by rw [bB _ _ _ _ (by simp)];exact sA _ _ _ (by first|rfl|simp)) rfl;clear hW;go_wp2_with fail;go_meet;exact ⟨_,rfl,rfl,hx5,xx0,xx1,xx2,xx3,xx4,xx5,xx6,xx7⟩
  case rest=>
   obtain ⟨A5,rfl,rfl,hx5,c0',c1',c2',c3',c4',c5',c6',c7'⟩:=hcut;replace q0:=eA hx5 q0;replace q1:=eA hx5 q1;replace q2:=eA hx5 q2;replace t0:=eA hx5 t0;replace t1:=eA hx5 t1;replace t2:=eA hx5 t2;replace j0:=eA hx5 j0;replace j1:=eA hx5 j1;replace g1:=eA hx5 g1;replace pd:=eA hx5 pd;replace pl:=eA hx5 pl;replace pb:=eA hx5 pb;replace g2:=eA hx5 g2;replace g3:=eA hx5 g3;replace g4:=eA hx5 g4
   replace FQ:Hid (∀ i,wc.frozen? ⟨w.heap.size,i,none⟩=false):=fun i=>kA hx5 z1 (FQ.out i)
   replace HXB:=aA (HXB.out.trans hx5);replace HB:=aA (HB.out.ext hx5);clear hx5 z1 z2 z3 z4 z5;have z1:=dA q0;have z2:=dA t0;have z3:=dA j0;have z4:=dA g1;have z5:=dA pl;have z6:=dA c0'
   go_upto_region 31 with (go_at_call 111;(with_reducible refine (rhas_at hv (HB.out.pl.ext eX) hwf _ HHV).mono ?_);rintro e w1 ⟨rfl,o1,n1,rfl⟩)
   generalize hWq:World.plus _ _ _=we;have hxq:Ext wc we:=xQ hWq;clear hWq;replace c0':=eA hxq c0';replace c1':=eA hxq c1';replace c2':=eA hxq c2';replace c3':=eA hxq c3';replace c4':=eA hxq c4';replace c5':=eA hxq c5';replace c6':=eA hxq c6';replace c7':=eA hxq c7';replace q0:=eA hxq q0;replace q1:=eA hxq q1;replace q2:=eA hxq q2;replace t0:=eA hxq t0;replace t1:=eA hxq t1;replace t2:=eA hxq t2;replace j0:=eA hxq j0;replace j1:=eA hxq j1;replace g1:=eA hxq g1;replace pd:=eA hxq pd;replace pl:=eA hxq pl;replace pb:=eA hxq pb;replace g2:=eA hxq g2;replace g3:=eA hxq g3;replace g4:=eA hxq g4
   replace FQ:Hid (∀ i,we.frozen? ⟨w.heap.size,i,none⟩=false):=fun i=>kA hxq z1 (FQ.out i)
   replace HXB:=aA (HXB.out.trans hxq);replace HB:=aA (HB.out.ext hxq);clear hxq z1 z2 z3 z4 z5;have z1:=dA q0;have z2:=dA t0;have z3:=dA j0;have z4:=dA g1;have z5:=dA pl;have z6:=dA c0';have ho:=hno.out;rw [HST.out] at ho;dsimp only at ho;rw [hba.out,HHV.out] at ho
   have h1:¬ 0=xi:=fun e=>ho (Or.inl e)
   have hv1:hv=true:=by
    cases hv
    ·exact absurd (Or.inr rfl) ho
    ·rfl
   clear ho;subst hv1
   have HN1:Hid (¬ p.bay=xi):=by unfold Hid;rw [hba.out];exact h1
   have HB0:Hid (p.bay=0):=hba
   cases hw:p.where_ xi with
   | none=>
    have HWV:Hid (lF (p.where_ xi) = .tuple #[.agg #[vi 0,vi 0,vi 0],.bool false]):=by unfold Hid;rw [hw];rfl
    have HW0:=aA hw;clear hw
    go_upto_region 48 with (go_at_call 132;(with_reducible refine (rwhere_lit 0 0 0 false (HB.out.pl.ext eX) hwf _ HWV).mono ?_);rintro e w1 ⟨rfl,o1,n1,rfl⟩)
    generalize hW:World.alloc _ _=w7;have hx7:Ext we w7:=xQ hW;clear hW;replace c0':=eA hx7 c0';replace c1':=eA hx7 c1';replace c2':=eA hx7 c2';replace c3':=eA hx7 c3';replace c4':=eA hx7 c4';replace c5':=eA hx7 c5';replace c6':=eA hx7 c6';replace c7':=eA hx7 c7';replace q0:=eA hx7 q0;replace q1:=eA hx7 q1;replace q2:=eA hx7 q2;replace t0:=eA hx7 t0;replace t1:=eA hx7 t1;replace t2:=eA hx7 t2;replace j0:=eA hx7 j0;replace j1:=eA hx7 j1;replace g1:=eA hx7 g1;replace pd:=eA hx7 pd;replace pl:=eA hx7 pl;replace pb:=eA hx7 pb;replace g2:=eA hx7 g2;replace g3:=eA hx7 g3;replace g4:=eA hx7 g4
    replace FQ:Hid (∀ i,w7.frozen? ⟨w.heap.size,i,none⟩=false):=fun i=>kA hx7 z1 (FQ.out i)
    replace HXB:=aA (HXB.out.trans hx7);replace HB:=aA (HB.out.ext hx7);clear hx7 z1 z2 z3 z4 z5;have z1:=dA q0;have z2:=dA t0;have z3:=dA j0;have z4:=dA g1;have z5:=dA pl;have z6:=dA c0';have fq0:=FQ.out 0;have fq1:=FQ.out 1;have fq2:=FQ.out 2
    go_upto_region 49 with fail
    repeat (first|(go_big_may;fail)|go_values|go_skip|go_guarded|go_step|go_upon|simp only [])
    have HE:Ch.turnOf ⟨last,l,js⟩ (ln:Int) p=([],none):=by rw [HT.out,rf4 HST.out HN1.out HHV.out HB0.out hdd.out HW0.out]
    obtain ⟨o0,o1,o2,ox⟩:=lC (w:=w) (x:=vi 0) (y:=.slice none 0 0) (z:=.slice none 0 0) HXB.out (Nat.le_refl _) q0 q1 q2;refine bodyPost_ret (v:=.tuple #[.slice none 0 0,.agg #[vi 0,.slice none 0 0,.slice none 0 0],.bool false]) (by simp [results,Tryz.results68,go_sem,o0,o1,o2]) rfl ?_;rw [HE];exact ⟨_,_,_,rfl,bC _ _ _ _,pB _ _,ox⟩
   | some y=>
    obtain ⟨qa,qb,qc⟩:=y;have hwo:=Ch.where_ok hw;obtain ⟨up1,up2,-,-,up5,up6⟩:=kG hwo hwf.lv2;clear hwo
    obtain ⟨fv,HFV⟩:∃ v,Hid (p.slots ⟨qa,qb,0⟩=v):=⟨_,rfl⟩
    by_cases h3:qc=1
    ·subst h3
     have HWV:Hid (lF (p.where_ xi) = .tuple #[.agg #[vi qa,vi qb,vi 1],.bool true]):=by unfold Hid;rw [hw];rfl
     have HW0:=aA hw;clear hw
     go_upto_region 48 with (go_at_call 132;(with_reducible refine (rwhere_lit qa qb 1 true (HB.out.pl.ext eX) hwf _ HWV).mono ?_);rintro e w1 ⟨rfl,o1,n1,rfl⟩)
     generalize hW:World.alloc _ _=w7;generalize hA:we.heap.size+_=A7;have hx7:Ext we w7:=xQ hW;have ka0:w7.cell? ⟨A7,0,none⟩=some (vi qa):=cR hW hA;have ka1:w7.cell? ⟨A7,1,none⟩=some (vi qb):=cR hW hA;have ka2:w7.cell? ⟨A7,2,none⟩=some (vi 1):=cR hW hA
     have afz:∀ i,w7.frozen? ⟨A7,i,none⟩=false:=by intro i;rw [←hW,←hA];simp [go_sem]
     have hA7:we.heap.size≤A7:=by omega
     clear hW hA
     go_upto_region 51 with fail
     generalize hW:World.alloc _ _=w8;generalize hF:w7.heap.size=F;have hx8:Ext w7 w8:=xQ hW;have ff0:w8.cell? ⟨F,0,none⟩=some (vi qa):=cR hW hF;have ff1:w8.cell? ⟨F,1,none⟩=some (vi qb):=cR hW hF;have ff2:w8.cell? ⟨F,2,none⟩=some (vi 1):=cR hW hF
     have fff:w8.frozen? ⟨F,2,none⟩=false:=by rw [←hW,←hF];simp [go_sem]
     have hFl:w7.heap.size≤F:=by omega
     have zF:=dA ff0;clear hW hF
     go_upto_region 52 with fail
     generalize hW:World.setCell _ _ _=w9
     have n20:(⟨F,2,none⟩:Addr)≠⟨F,0,none⟩:=by intro e;cases e
     have n21:(⟨F,2,none⟩:Addr)≠⟨F,1,none⟩:=by intro e;cases e
     have gf0:w9.cell? ⟨F,0,none⟩=some (vi qa):=by rw [←hW,World.cell?_setCell_other (h:=n20)];exact ff0
     have gf1:w9.cell? ⟨F,1,none⟩=some (vi qb):=by rw [←hW,World.cell?_setCell_other (h:=n21)];exact ff1
     have gf2:w9.cell? ⟨F,2,none⟩=some (vi 0):=by rw [←hW,World.cell?_setCell_same (h:=ff2)]
     have hx79:Ext w7 w9:=by rw [←hW];exact Ext.setCell hx8 hFl _
     have afz9:∀ i,w9.frozen? ⟨A7,i,none⟩=false:=fun i=>kA hx79 (dA ka0) (afz i)
     replace ka0:=eA hx79 ka0;replace ka1:=eA hx79 ka1;replace ka2:=eA hx79 ka2;have hx9:Ext we w9:=hx7.trans hx79;have zA:=dA ka0;replace zF:=dA gf0;have af0:=afz9 0;have af1:=afz9 1;have af2:=afz9 2;clear hW ff0 ff1 ff2 fff hx8 n20 n21 hx7 hx79 afz afz9 hFl
     by_cases h4:fv=0
     ·subst h4
      go_upto_region 54 with (go_at_call 74;(with_reducible refine (jC (HB.out.pl.ext (hx9.trans eX)) hwf _ _ _ 0 HFV).mono ?_);rintro e w1 ⟨rfl,o1,n1,rfl⟩)
      repeat (first|(go_big_may;(go_at_call 127;(with_reducible refine (rD _ _ _ _ _ (by decide) (by decide) up1 up2).mono ?_);rintro e wv ⟨v1,rfl,hown,hxv⟩;have hxz:Ext we wv:=hx9.trans (Ext.trans eX hxv);have fq0:=kA hxz (dA q0) (FQ.out 0);have fq1:=kA hxz (dA q0) (FQ.out 1);have fq2:=kA hxz (dA q0) (FQ.out 2);have pq0:=eA hxz q0;have pq1:=eA hxz q1;have pq2:=eA hxz q2))|go_values|go_skip|go_guarded|go_step|go_upon|simp only [])
      have HE:Ch.turnOf ⟨last,l,js⟩ (ln:Int) p=(Ch.there ⟨qa,qb,1⟩ 3,none):=by rw [HT.out,rf6 HST.out HN1.out HHV.out HB0.out hdd.out HW0.out (fun e=>e.2 HFV.out)]
      obtain ⟨o0,o1,o2,ox⟩:=lC (w:=w) (x:=vi 0) (y:=.slice none 0 0) (z:=.slice none 0 0) (HXB.out.trans hxz) (Nat.le_refl _) pq0 pq1 pq2;refine bodyPost_ret (v:=.tuple #[v1,.agg #[vi 0,.slice none 0 0,.slice none 0 0],.bool false]) (by simp [results,Tryz.results68,go_sem,o0,o1,o2]) rfl ?_;rw [HE];exact ⟨v1,_,_,rfl,rA (jB hown (by have:=dA q0;first|omega|(simp;omega))) (by have:=HXB.out.below.size;first|omega|(simp;omega)),pB _ _,ox⟩
     ·have HN4:Hid (¬ p.slots ⟨qa,qb,0⟩=0):=by unfold Hid;rw [HFV.out];exact h4
      go_upto_region 53 with (go_at_call 74;(with_reducible refine (jC (HB.out.pl.ext (hx9.trans eX)) hwf _ _ _ fv HFV).mono ?_);rintro e w1 ⟨rfl,o1,n1,rfl⟩)
      generalize hWp:World.plus _ _ _=wp;have hxp:Ext w9 wp:=xQ hWp;clear hWp;replace ka0:=eA hxp ka0;replace ka1:=eA hxp ka1;replace ka2:=eA hxp ka2;replace gf0:=eA hxp gf0;replace gf1:=eA hxp gf1;replace gf2:=eA hxp gf2;replace af0:=kA hxp zA af0;replace af1:=kA hxp zA af1;replace af2:=kA hxp zA af2;replace zA:=dA ka0;replace zF:=dA gf0;have hx11:=hx9.trans hxp;clear hxp
      go_upto_region 54 with fail
      generalize hW:World.setCell _ _ _=w10
      obtain ⟨b0,b1,b2,hx10⟩:w10.cell? ⟨A7,0,none⟩=some (vi qa)∧w10.cell? ⟨A7,1,none⟩=some (vi qb)∧w10.cell? ⟨A7,2,none⟩=some (vi 0)∧Ext we w10:=by
       rw [←hW];exact lC hx11 hA7 ka0 ka1 ka2
      have zB:=dA b0;clear hW ka0 ka1 ka2 af0 af1 af2 hx11
      repeat (first|(go_big_may;(go_at_call 127;(with_reducible refine (rD _ _ _ _ _ (by decide) (by decide) up1 up2).mono ?_);rintro e wv ⟨v1,rfl,hown,hxv⟩;have hxz:Ext we wv:=hx10.trans (Ext.trans eX hxv);have fq0:=kA hxz (dA q0) (FQ.out 0);have fq1:=kA hxz (dA q0) (FQ.out 1);have fq2:=kA hxz (dA q0) (FQ.out 2);have pq0:=eA hxz q0;have pq1:=eA hxz q1;have pq2:=eA hxz q2))|go_values|go_skip|go_guarded|go_step|go_upon|simp only [])
      have HE:Ch.turnOf ⟨last,l,js⟩ (ln:Int) p=(Ch.there ⟨qa,qb,0⟩ 3,none):=by rw [HT.out,rf5 HST.out HN1.out HHV.out HB0.out hdd.out HW0.out HN4.out]
      obtain ⟨o0,o1,o2,ox⟩:=lC (w:=w) (x:=vi 0) (y:=.slice none 0 0) (z:=.slice none 0 0) (HXB.out.trans hxz) (Nat.le_refl _) pq0 pq1 pq2;refine bodyPost_ret (v:=.tuple #[v1,.agg #[vi 0,.slice none 0 0,.slice none 0 0],.bool false]) (by simp [results,Tryz.results68,go_sem,o0,o1,o2]) rfl ?_;rw [HE];exact ⟨v1,_,_,rfl,rA (jB hown (by have:=dA q0;first|omega|(simp;omega))) (by have:=HXB.out.below.size;first|omega|(simp;omega)),pB _ _,ox⟩
    ·have HWV:Hid (lF (p.where_ xi) = .tuple #[.agg #[vi qa,vi qb,vi qc],.bool true]):=by unfold Hid;rw [hw];rfl
     have HW0:=aA hw;clear hw
     go_upto_region 48 with (go_at_call 132;(with_reducible refine (rwhere_lit qa qb qc true (HB.out.pl.ext eX) hwf _ HWV).mono ?_);rintro e w1 ⟨rfl,o1,n1,rfl⟩)
     generalize hW:World.alloc _ _=w7;generalize hA:we.heap.size+_=A7;have hx7:Ext we w7:=xQ hW;have ka0:w7.cell? ⟨A7,0,none⟩=some (vi qa):=cR hW hA;have ka1:w7.cell? ⟨A7,1,none⟩=some (vi qb):=cR hW hA;have ka2:w7.cell? ⟨A7,2,none⟩=some (vi qc):=cR hW hA
     have afz:∀ i,w7.frozen? ⟨A7,i,none⟩=false:=by intro i;rw [←hW,←hA];simp [go_sem]
     have hA7:we.heap.size≤A7:=by omega
     clear hW hA
     go_upto_region 51 with fail
     generalize hW:World.alloc _ _=w8;generalize hF:w7.heap.size=F;have hx8:Ext w7 w8:=xQ hW;have ff0:w8.cell? ⟨F,0,none⟩=some (vi qa):=cR hW hF;have ff1:w8.cell? ⟨F,1,none⟩=some (vi qb):=cR hW hF;have ff2:w8.cell? ⟨F,2,none⟩=some (vi qc):=cR hW hF
     have fff:w8.frozen? ⟨F,2,none⟩=false:=by rw [←hW,←hF];simp [go_sem]
     have hFl:w7.heap.size≤F:=by omega
     have zF:=dA ff0;clear hW hF
     go_upto_region 52 with fail
     generalize hW:World.setCell _ _ _=w9
     have n20:(⟨F,2,none⟩:Addr)≠⟨F,0,none⟩:=by intro e;cases e
     have n21:(⟨F,2,none⟩:Addr)≠⟨F,1,none⟩:=by intro e;cases e
     have gf0:w9.cell? ⟨F,0,none⟩=some (vi qa):=by rw [←hW,World.cell?_setCell_other (h:=n20)];exact ff0
     have gf1:w9.cell? ⟨F,1,none⟩=some (vi qb):=by rw [←hW,World.cell?_setCell_other (h:=n21)];exact ff1
     have gf2:w9.cell? ⟨F,2,none⟩=some (vi 0):=by rw [←hW,World.cell?_setCell_same (h:=ff2)]
     have hx79:Ext w7 w9:=by rw [←hW];exact Ext.setCell hx8 hFl _
     have afz9:∀ i,w9.frozen? ⟨A7,i,none⟩=false:=fun i=>kA hx79 (dA ka0) (afz i)
     replace ka0:=eA hx79 ka0;replace ka1:=eA hx79 ka1;replace ka2:=eA hx79 ka2;have hx9:Ext we w9:=hx7.trans hx79;have zA:=dA ka0;replace zF:=dA gf0;have af0:=afz9 0;have af1:=afz9 1;have af2:=afz9 2;clear hW ff0 ff1 ff2 fff hx8 n20 n21 hx7 hx79 afz afz9 hFl
     go_upto_region 54 with fail
     repeat (first|(go_big_may;(go_at_call 127;(with_reducible refine (rD _ _ _ _ _ up5 up6 up1 up2).mono ?_);rintro e wv ⟨v1,rfl,hown,hxv⟩;have hxz:Ext we wv:=hx9.trans (Ext.trans eX hxv);have fq0:=kA hxz (dA q0) (FQ.out 0);have fq1:=kA hxz (dA q0) (FQ.out 1);have fq2:=kA hxz (dA q0) (FQ.out 2);have pq0:=eA hxz q0;have pq1:=eA hxz q1;have pq2:=eA hxz q2))|go_values|go_skip|go_guarded|go_step|go_upon|simp only [])
     have HE:Ch.turnOf ⟨last,l,js⟩ (ln:Int) p=(Ch.there ⟨qa,qb,qc⟩ 3,none):=by rw [HT.out,rf6 HST.out HN1.out HHV.out HB0.out hdd.out HW0.out (fun e=>h3 e.1)]
     obtain ⟨o0,o1,o2,ox⟩:=lC (w:=w) (x:=vi 0) (y:=.slice none 0 0) (z:=.slice none 0 0) (HXB.out.trans hxz) (Nat.le_refl _) pq0 pq1 pq2;refine bodyPost_ret (v:=.tuple #[v1,.agg #[vi 0,.slice none 0 0,.slice none 0 0],.bool false]) (by simp [results,Tryz.results68,go_sem,o0,o1,o2]) rfl ?_;rw [HE];exact ⟨v1,_,_,rfl,rA (jB hown (by have:=dA q0;first|omega|(simp;omega))) (by have:=HXB.out.below.size;first|omega|(simp;omega)),pB _ _,ox⟩
